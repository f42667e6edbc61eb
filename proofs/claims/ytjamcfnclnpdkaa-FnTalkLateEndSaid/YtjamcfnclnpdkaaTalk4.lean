/- One who sends packets in turn: an answer, sending, sending again: the program's functions. -/
import Derived.Test.YtjamcfnclnpdkaaTalk3
namespace Go.Proofs.Ytjamcfnclnpdkaa
open Go.RowKit

theorem talkB_facts {n tr : Int} {xs : List Int} (h : talkB n tr xs = true) : (0 ≤ n ∧ n ≤ 1) ∧ 0 ≤ tr ∧ tr ≤ 5 ∧ (tr = 0 → xs = []) ∧ (0 < tr → bodyB xs = true) := by
  unfold talkB turnB at h
  simp only [Bool.and_eq_true, decide_eq_true_eq] at h
  obtain ⟨h1, ⟨h2, h3⟩, h4⟩ := h
  refine ⟨by omega, h2, h3, fun h0 => ?_, fun h0 => ?_⟩
  · rw [if_pos h0] at h4
    exact List.eq_nil_of_length_eq_zero (by simpa using h4)
  · rwa [if_neg (by omega)] at h4
theorem talkB_turn {n tr : Int} {xs : List Int} (h : talkB n tr xs = true) : turnB n = true := by
  have := (talkB_facts h).1
  simp [turnB]; omega
theorem bodyB_facts {xs : List Int} (h : bodyB xs = true) : 1 ≤ xs.length ∧ xs.length ≤ 17 ∧ bytesB xs = true := by
  unfold bodyB at h
  simp only [Bool.and_eq_true, decide_eq_true_eq] at h
  exact ⟨h.1.1, h.1.2, h.2⟩
/-- Two rows in two blocks. -/
def Apart (ao bo : Option Addr) : Prop := ∀ a b, ao = some a → bo = some b → a.block ≠ b.block
theorem apart_none (bo : Option Addr) : Apart none bo := fun _ _ h => by cases h
theorem Apart.symm {ao bo : Option Addr} (h : Apart ao bo) : Apart bo ao := fun a b ha hb e => h b a hb ha e.symm
theorem In.apart {lo hi lo2 hi2 : Nat} {ao bo : Option Addr} (h : In lo hi ao) (k : In lo2 hi2 bo) (hd : hi ≤ lo2 ∨ hi2 ≤ lo) : Apart ao bo := fun a b ha hb e => by
  have := h a ha
  have := k b hb
  omega
theorem own_sep {w w' : World} {base e size n c n2 c2 : Nat} {ao ao2 : Option Addr} {vs : List Value} (h : w.ownsRow base e size (.slice ao n c) n vs) (hd : Apart ao ao2) (hg : w.grownBy w' (Value.slice ao2 n2 c2).ownBlock) :
    w'.ownsRow base e size (.slice ao n c) n vs := by
  refine ⟨h.1, ?_⟩
  rcases h.2 with hn | ⟨g, cap, cur, hv, hb, hh, rest⟩
  · exact .inl hn
  · have hao : ao = some ⟨g, 0, none⟩ := by injection hv
    refine .inr ⟨g, cap, cur, hv, hb, (hg.block g (Array.getElem?_eq_some_iff.1 hh).1 fun e => ?_).trans hh, rest⟩
    cases ao2 with
    | none => simp [Value.ownBlock] at e
    | some a2 =>
      simp only [Value.ownBlock, Option.some.injEq] at e
      exact hd _ _ hao rfl e

def ansB (n tr : Int) (xs : List Int) (k : Int) : Bool := talkB n tr xs && decide (0 < tr ∧ k = n)
def ansN (n tr : Int) (xs : List Int) (k : Int) : Int := if ansB n tr xs k then 1 - n else 0

theorem implTalkAnswer_any (n tr k : Int) (ao : Option Addr) (xs : List Int) (c : Nat) (w : World) (hx : Ints w ao xs) (lx : xs.length ≤ 4611686018427387904) :
    Calls Try.prog 28 #[.agg #[.int .i64 n, .int .i64 tr, .slice ao xs.length c], .int .i64 k] w fun e w' => e = .returned (.tuple #[.agg #[.int .i64 (ansN n tr xs k), .int .i64 0, .slice none 0 0], .bool (ansB n tr xs k)]) ∧ Below w.heap.size w w' := by
  have b0 : Below w.heap.size w ((w.alloc (.cells #[.int .i64 n, .int .i64 tr, .slice ao xs.length c] 25)).alloc (.cells #[.int .i64 0, .int .i64 0, .slice none 0 0] 25)) := ((Below.refl _ _).alloc (Nat.le_refl _) _).alloc (by simp) _
  have B0 := Lib.hid b0
  have hx0 := hx.below b0
  have HC : Hid (∀ v, Ints v ao xs → Calls Try.prog 51 #[.agg #[.int .i64 n, .int .i64 tr, .slice ao xs.length c], .iface 65 (.agg #[.int .i64 k])] v fun e w' => e = .returned (.tuple #[.agg #[.int .i64 (ansN n tr xs k), .int .i64 0, .slice none 0 0], .bool (ansB n tr xs k)]) ∧ Below v.heap.size v w') := by
    refine Lib.hid fun v hxv => ?_
    cases hv : talkB n tr xs
    · have e1 : ansB n tr xs k = false := by simp [ansB, hv]
      have e2 : ansN n tr xs k = 0 := by simp [ansN, e1]
      rw [e1, e2]
      exact talkOn_invalid n tr ao c xs _ v hv hxv lx
    · have tf := talkB_facts hv
      by_cases hc : 0 < tr ∧ k = n
      · have e1 : ansB n tr xs k = true := by simp [ansB, hv, hc]
        have e2 : ansN n tr xs k = 1 - n := by simp [ansN, e1]
        rw [e1, e2]
        obtain ⟨ht, rfl⟩ := hc
        exact talkOn_answer_yes k tr ao c xs v hv ht tf.1.1 tf.1.2 hxv (bodyB_facts (tf.2.2.2.2 ht)).2.1
      · have e1 : ansB n tr xs k = false := by simp [ansB, hv]; omega
        have e2 : ansN n tr xs k = 0 := by simp [ansN, e1]
        rw [e1, e2]
        exact talkOn_answer_no n tr k ao c xs v hv (by omega) hxv lx
  clear b0 hx
  go_enter Try.func28, Try.ntmps28
  go_wp2_with fail
  refine (HC.out _ hx0).mono ?_
  rintro e w1 ⟨rfl, b1⟩
  have kc1 : w1.cell? ⟨w.heap.size + 1, 0, none⟩ = some (.int .i64 0) := (Keeps.of_below b1) _ _ _ (by simp [go_sem])
  have kf1 : w1.frozen? ⟨w.heap.size + 1, 0, none⟩ = false := (Below.hot b1 (by simp [go_sem])).trans (by simp [go_sem])
  have kc2 : w1.cell? ⟨w.heap.size + 1, 1, none⟩ = some (.int .i64 0) := (Keeps.of_below b1) _ _ _ (by simp [go_sem])
  have kf2 : w1.frozen? ⟨w.heap.size + 1, 1, none⟩ = false := (Below.hot b1 (by simp [go_sem])).trans (by simp [go_sem])
  have kc3 : w1.cell? ⟨w.heap.size + 1, 2, none⟩ = some (.slice none 0 0) := (Keeps.of_below b1) _ _ _ (by simp [go_sem])
  have kf3 : w1.frozen? ⟨w.heap.size + 1, 2, none⟩ = false := (Below.hot b1 (by simp [go_sem])).trans (by simp [go_sem])
  go_wp2
  refine bodyPost_ret (v := .tuple #[.agg #[.int .i64 (ansN n tr xs k), .int .i64 0, .slice none 0 0], .bool (ansB n tr xs k)]) (by simp [results, Try.results28, go_sem, *]) rfl ?_
  refine ⟨rfl, ?_⟩
  have B1 := below_join B0.out b1
  repeat' (first | exact Below.refl _ _ | exact Nat.le_refl _ | assumption | refine Below.drew ?_ | refine below_drewN ?_ _ | (refine Below.alloc ?_ (by first | exact Nat.le_refl _ | omega | (simp; done) | (simp; omega)) _) | (refine Below.setCell ?_ (by first | exact Nat.le_refl _ | omega | (simp; done) | (simp; omega)) _))

/-- What sending gives: a talk, a packet, whether it went. -/
structure TkR where
  k : Tk
  p : List Int
  ok : Bool
def TkR.no : TkR := ⟨noTk, [], false⟩
def sendB (n tr : Int) (xs ys : List Int) : Bool := talkB n tr xs && (decide (tr = 0) && bodyB ys)
noncomputable def sendR (n tr : Int) (xs ys : List Int) : TkR := if sendB n tr xs ys then ⟨⟨n, 1, ys⟩, packetL n ys, true⟩ else TkR.no
def lateB (n tr : Int) (xs : List Int) : Bool := talkB n tr xs && decide (0 < tr ∧ tr < 5)
noncomputable def lateR (n tr : Int) (xs : List Int) : TkR := if lateB n tr xs then ⟨⟨n, tr + 1, xs⟩, packetL n xs, true⟩ else TkR.no
/-- How such a result lies in memory: its rows are the call's own, and lie in two blocks. -/
def Sent (B : Nat) (R : TkR) (e : Ending) (w' : World) : Prop := ∃ a1 c1 a2 c2, e = .returned (.tuple #[.agg #[.int .i64 R.k.n, .int .i64 R.k.t, .slice a1 R.k.b.length c1], .slice a2 R.p.length c2, .bool R.ok]) ∧ OwnI w' B a1 c1 R.k.b ∧ OwnI w' B a2 c2 R.p ∧ Apart a1 a2
theorem Sent.none (B : Nat) (w' : World) (a1 : Option Addr) (c1 : Nat) (a2 : Option Addr) (c2 : Nat) (h1 : OwnI w' B a1 c1 []) (h2 : OwnI w' B a2 c2 []) (h : Apart a1 a2) :
    Sent B TkR.no (.returned (.tuple #[.agg #[.int .i64 0, .int .i64 0, .slice a1 0 c1], .slice a2 0 c2, .bool false])) w' := ⟨a1, c1, a2, c2, rfl, h1, h2, h⟩
theorem own_nil (w : World) (B : Nat) : OwnI w B none 0 [] := World.ownsRow_nil _ _ _ _


set_option maxHeartbeats 400000 in
theorem implTalkSend_any (n tr : Int) (ao bo : Option Addr) (xs ys : List Int) (c d : Nat) (w : World) (hx : Ints w ao xs) (lx : xs.length ≤ 4611686018427387904) (hy : Ints w bo ys) (ly : ys.length ≤ 4611686018427387904) :
    Calls Try.prog 39 #[.agg #[.int .i64 n, .int .i64 tr, .slice ao xs.length c], .slice bo ys.length d] w fun e w' => Sent w.heap.size (sendR n tr xs ys) e w' ∧ Below w.heap.size w w' := by
  have b0 : Below w.heap.size w ((w.alloc (.cells #[.int .i64 n, .int .i64 tr, .slice ao xs.length c] 25)).alloc (.cells #[.int .i64 0, .int .i64 0, .slice none 0 0] 25)) := ((Below.refl _ _).alloc (Nat.le_refl _) _).alloc (by simp) _
  have B0 := Lib.hid b0
  have hx0 := hx.below b0
  have hy0 := hy.below b0
  clear b0 hx hy
  cases hs : sendB n tr xs ys
  · have HR : Hid (sendR n tr xs ys = TkR.no) := Lib.hid (by simp [sendR, hs])
    have HC : Hid (∀ v, Ints v ao xs → Ints v bo ys → Calls Try.prog 51 #[.agg #[.int .i64 n, .int .i64 tr, .slice ao xs.length c], .iface 74 (.agg #[.slice bo ys.length d])] v fun e w' => e = .returned (.tuple #[.agg #[.int .i64 0, .int .i64 0, .slice none 0 0], .bool false]) ∧ Below v.heap.size v w') := by
      refine Lib.hid fun v hxv hyv => ?_
      cases hv : talkB n tr xs
      · exact talkOn_invalid n tr ao c xs _ v hv hxv lx
      · have tf := talkB_facts hv
        by_cases ht : 0 < tr
        · exact talkOn_start_busy n tr ao c xs bo ys.length d v hv ht hxv lx
        · obtain rfl : tr = 0 := by omega
          obtain rfl := tf.2.2.2.1 rfl
          refine talkOn_start_body n ao bo c d ys v hv hyv ?_ ly
          simpa [sendB, hv] using hs
    rw [HR.out]
    clear hs
    go_enter Try.func39, Try.ntmps39
    go_wp2_with fail
    refine (HC.out _ hx0 hy0).mono ?_
    rintro e w1 ⟨rfl, b1⟩
    have kc4 : w1.cell? ⟨w.heap.size + 1, 0, none⟩ = some (.int .i64 0) := (Keeps.of_below b1) _ _ _ (by simp [go_sem])
    have kf4 : w1.frozen? ⟨w.heap.size + 1, 0, none⟩ = false := (Below.hot b1 (by simp [go_sem])).trans (by simp [go_sem])
    have kc5 : w1.cell? ⟨w.heap.size + 1, 1, none⟩ = some (.int .i64 0) := (Keeps.of_below b1) _ _ _ (by simp [go_sem])
    have kf5 : w1.frozen? ⟨w.heap.size + 1, 1, none⟩ = false := (Below.hot b1 (by simp [go_sem])).trans (by simp [go_sem])
    have kc6 : w1.cell? ⟨w.heap.size + 1, 2, none⟩ = some (.slice none 0 0) := (Keeps.of_below b1) _ _ _ (by simp [go_sem])
    have kf6 : w1.frozen? ⟨w.heap.size + 1, 2, none⟩ = false := (Below.hot b1 (by simp [go_sem])).trans (by simp [go_sem])
    have zz4 : w.heap.size + 1 < w1.heap.size := by have := b1.size; simp at this; omega
    go_wp2
    refine bodyPost_ret (v := .tuple #[.agg #[.int .i64 0, .int .i64 0, .slice none 0 0], .slice none 0 0, .bool false]) (by simp [results, Try.results39, go_sem, *]) rfl ?_
    refine ⟨Sent.none _ _ _ _ _ _ (own_nil _ _) (own_nil _ _) (apart_none _), ?_⟩
    have B1 := below_join B0.out b1
    repeat' (first | exact Below.refl _ _ | exact Nat.le_refl _ | assumption | refine Below.drew ?_ | refine below_drewN ?_ _ | (refine Below.alloc ?_ (by first | exact Nat.le_refl _ | omega | (simp; done) | (simp; omega)) _) | (refine Below.setCell ?_ (by first | exact Nat.le_refl _ | omega | (simp; done) | (simp; omega)) _))
  · have HR : Hid (sendR n tr xs ys = ⟨⟨n, 1, ys⟩, packetL n ys, true⟩) := Lib.hid (by simp [sendR, hs])
    simp only [sendB, Bool.and_eq_true, decide_eq_true_eq] at hs
    obtain ⟨hv, rfl, hb⟩ := hs
    have tf := talkB_facts hv
    obtain rfl := tf.2.2.2.1 rfl
    have bf := bodyB_facts hb
    have ht := talkB_turn hv
    have HT := Lib.hid ht
    have HB := Lib.hid bf.2.2
    have l17 := bf.2.1
    have l1 := bf.1
    rw [HR.out]
    clear tf bf ht hx0 lx
    have HC := Lib.hid (fun v hyv => talkOn_start_yes n ao bo c d ys v hv hyv hb l17 l1)
    clear hv hb
    go_enter Try.func39, Try.ntmps39
    go_wp2_with fail
    refine (HC.out _ hy0).mono ?_
    rintro e w1 ⟨a1, c1, rfl, o1, b1⟩
    go_wp2_with fail
    refine name_wp fun W hW => ?_
    have zr := b1.size
    have zr' := B0.out.size
    have hrW : W.heap[w1.heap.size]? = some (.cells #[.int .i64 n, .int .i64 1, .slice a1 ys.length c1] 25 (0, 0)) := by rw [hW]; exact heap_new_at _ _ _ rfl
    have BW : Below w.heap.size w W := by
      have B1 := below_join B0.out b1
      rw [hW]
      repeat' (first | exact Below.refl _ _ | exact Nat.le_refl _ | assumption | refine Below.drew ?_ | refine below_drewN ?_ _ | (refine Below.alloc ?_ (by first | exact Nat.le_refl _ | omega | (simp; done) | (simp; omega)) _) | (refine Below.setCell ?_ (by first | exact Nat.le_refl _ | omega | (simp; done) | (simp; omega)) _))
    have oW : OwnI W (w.heap.size + 2) a1 c1 ys := by rw [hW]; exact OwnI.base (World.ownsRow.alloc o1 _) (by simp)
    have iW : In w.heap.size w1.heap.size a1 := fun a ha => ⟨Nat.le_trans zr' (own_in o1 a ha).1, (own_in o1 a ha).2⟩
    have r4 : W.heap[w.heap.size + 1]? = some (.cells #[.int .i64 0, .int .i64 0, .slice none 0 0] 25 (0, 0)) := by
      rw [hW, Below.heap_alloc _ _ _ (by simp at zr; omega)]
      exact (b1.block _ (by simp)).trans (heap_new_at _ _ _ (by simp))
    have zW : W.heap.size = w1.heap.size + 1 := by rw [hW]; simp
    have z1 : w.heap.size + 2 ≤ w1.heap.size := by simpa using zr
    obtain ⟨c70, c71, c72, f70, f71, f72⟩ := three_cells hrW
    obtain ⟨c40, c41, c42, f40, f41, f42⟩ := three_cells r4
    have R4 := Lib.hid r4
    have n1 : w1.heap.size ≠ w.heap.size + 1 := by omega
    have n2 := Ne.symm n1
    clear hW hrW r4 zr zr' b1 o1 B0
    go_region_held3 (fun v => v.cell? ⟨w1.heap.size, 0, none⟩ = some (.int .i64 n) ∧ v.cell? ⟨w1.heap.size, 1, none⟩ = some (.int .i64 1) ∧ v.cell? ⟨w1.heap.size, 2, none⟩ = some (.slice a1 ys.length c1))
      (first
        | exact ⟨k3 _ _ _ c70, k3 _ _ _ c71, k3 _ _ _ c72⟩
        | (go_keep; done))
      (first
        | (go_at_call 55
           refine (talkPacket_any n 1 a1 ys c1 _ (Cells.drew (OwnI.ints oW)) l1 l17 HT.out HB.out).mono ?_
           rintro e w3 ⟨a3, d3, rfl, o3, b3'⟩
           have b3 : Below W.heap.size W w3 := (Below.refl _ W).drew.trans b3'
           have k3 : Keeps W w3 := Keeps.of_below b3
           obtain ⟨c40', c41', c42', f40', f41', f42'⟩ := three_cells ((b3.block _ (by omega)).trans R4.out)))
    go_wp2
    refine bodyPost_ret (v := .tuple #[.agg #[.int .i64 n, .int .i64 1, .slice a1 ys.length c1], .slice a3 (ys.length + 3) d3, .bool true]) (by simp [results, Try.results39, go_sem, *]) rfl ?_
    have B3 : Below w.heap.size w w3 := BW.trans (b3.mono BW.size)
    refine ⟨⟨a1, c1, a3, d3, by rw [packetL_length], ?_, ?_, ?_⟩, ?_⟩
    · exact own_base (own_set (own_set (own_set (oW.below b3) _ _ (by simp)) _ _ (by simp)) _ _ (by simp)) (by omega)
    · exact own_base (own_set (own_set (own_set o3 _ _ (by simp; omega)) _ _ (by simp; omega)) _ _ (by simp; omega)) BW.size
    · exact iW.apart (own_in o3) (.inl (by simp; omega))
    · repeat' (first | exact Below.refl _ _ | exact Nat.le_refl _ | assumption | refine Below.drew ?_ | refine below_drewN ?_ _ | (refine Below.alloc ?_ (by first | exact Nat.le_refl _ | omega | (simp; done) | (simp; omega)) _) | (refine Below.setCell ?_ (by first | exact Nat.le_refl _ | omega | (simp; done) | (simp; omega)) _))

set_option maxHeartbeats 400000 in
theorem implTalkLate_any (n tr : Int) (ao : Option Addr) (xs : List Int) (c : Nat) (w : World) (hx : Ints w ao xs) (lx : xs.length ≤ 4611686018427387904) :
    Calls Try.prog 37 #[.agg #[.int .i64 n, .int .i64 tr, .slice ao xs.length c]] w fun e w' => Sent w.heap.size (lateR n tr xs) e w' ∧ Below w.heap.size w w' := by
  have b0 : Below w.heap.size w ((w.alloc (.cells #[.int .i64 n, .int .i64 tr, .slice ao xs.length c] 25)).alloc (.cells #[.int .i64 0, .int .i64 0, .slice none 0 0] 25)) := ((Below.refl _ _).alloc (Nat.le_refl _) _).alloc (by simp) _
  have B0 := Lib.hid b0
  have hx0 := hx.below b0
  clear b0 hx
  cases hs : lateB n tr xs
  · have HR : Hid (lateR n tr xs = TkR.no) := Lib.hid (by simp [lateR, hs])
    have HC : Hid (∀ v, Ints v ao xs → Calls Try.prog 51 #[.agg #[.int .i64 n, .int .i64 tr, .slice ao xs.length c], .iface 70 (.agg #[])] v fun e w' => e = .returned (.tuple #[.agg #[.int .i64 0, .int .i64 0, .slice none 0 0], .bool false]) ∧ Below v.heap.size v w') := by
      refine Lib.hid fun v hxv => ?_
      cases hv : talkB n tr xs
      · exact talkOn_invalid n tr ao c xs _ v hv hxv lx
      · have tf := talkB_facts hv
        refine talkOn_again_no n tr ao c xs v hv ?_ hxv lx
        simp [lateB, hv] at hs
        omega
    rw [HR.out]
    clear hs
    go_enter Try.func37, Try.ntmps37
    go_wp2_with fail
    refine (HC.out _ hx0).mono ?_
    rintro e w1 ⟨rfl, b1⟩
    have kc7 : w1.cell? ⟨w.heap.size + 1, 0, none⟩ = some (.int .i64 0) := (Keeps.of_below b1) _ _ _ (by simp [go_sem])
    have kf7 : w1.frozen? ⟨w.heap.size + 1, 0, none⟩ = false := (Below.hot b1 (by simp [go_sem])).trans (by simp [go_sem])
    have kc8 : w1.cell? ⟨w.heap.size + 1, 1, none⟩ = some (.int .i64 0) := (Keeps.of_below b1) _ _ _ (by simp [go_sem])
    have kf8 : w1.frozen? ⟨w.heap.size + 1, 1, none⟩ = false := (Below.hot b1 (by simp [go_sem])).trans (by simp [go_sem])
    have kc9 : w1.cell? ⟨w.heap.size + 1, 2, none⟩ = some (.slice none 0 0) := (Keeps.of_below b1) _ _ _ (by simp [go_sem])
    have kf9 : w1.frozen? ⟨w.heap.size + 1, 2, none⟩ = false := (Below.hot b1 (by simp [go_sem])).trans (by simp [go_sem])
    have zz4 : w.heap.size + 1 < w1.heap.size := by have := b1.size; simp at this; omega
    go_wp2
    refine bodyPost_ret (v := .tuple #[.agg #[.int .i64 0, .int .i64 0, .slice none 0 0], .slice none 0 0, .bool false]) (by simp [results, Try.results37, go_sem, *]) rfl ?_
    refine ⟨Sent.none _ _ _ _ _ _ (own_nil _ _) (own_nil _ _) (apart_none _), ?_⟩
    have B1 := below_join B0.out b1
    repeat' (first | exact Below.refl _ _ | exact Nat.le_refl _ | assumption | refine Below.drew ?_ | refine below_drewN ?_ _ | (refine Below.alloc ?_ (by first | exact Nat.le_refl _ | omega | (simp; done) | (simp; omega)) _) | (refine Below.setCell ?_ (by first | exact Nat.le_refl _ | omega | (simp; done) | (simp; omega)) _))
  · have HR : Hid (lateR n tr xs = ⟨⟨n, tr + 1, xs⟩, packetL n xs, true⟩) := Lib.hid (by simp [lateR, hs])
    simp only [lateB, Bool.and_eq_true, decide_eq_true_eq] at hs
    obtain ⟨hv, h0, h5⟩ := hs
    have tf := talkB_facts hv
    have bf := bodyB_facts (tf.2.2.2.2 h0)
    have ht := talkB_turn hv
    have HT := Lib.hid ht
    have HB := Lib.hid bf.2.2
    have l17 := bf.2.1
    have l1 := bf.1
    rw [HR.out]
    clear tf bf ht lx
    have HC := Lib.hid (fun v hxv => talkOn_again_yes n tr ao c xs v hv h0 h5 hxv l17 l1)
    clear hv
    go_enter Try.func37, Try.ntmps37
    go_wp2_with fail
    refine (HC.out _ hx0).mono ?_
    rintro e w1 ⟨a1, c1, rfl, o1, b1⟩
    go_wp2_with fail
    refine name_wp fun W hW => ?_
    have zr := b1.size
    have zr' := B0.out.size
    have hrW : W.heap[w1.heap.size]? = some (.cells #[.int .i64 n, .int .i64 (tr + 1), .slice a1 xs.length c1] 25 (0, 0)) := by rw [hW]; exact heap_new_at _ _ _ rfl
    have BW : Below w.heap.size w W := by
      have B1 := below_join B0.out b1
      rw [hW]
      repeat' (first | exact Below.refl _ _ | exact Nat.le_refl _ | assumption | refine Below.drew ?_ | refine below_drewN ?_ _ | (refine Below.alloc ?_ (by first | exact Nat.le_refl _ | omega | (simp; done) | (simp; omega)) _) | (refine Below.setCell ?_ (by first | exact Nat.le_refl _ | omega | (simp; done) | (simp; omega)) _))
    have oW : OwnI W (w.heap.size + 2) a1 c1 xs := by rw [hW]; exact OwnI.base (World.ownsRow.alloc o1 _) (by simp)
    have iW : In w.heap.size w1.heap.size a1 := fun a ha => ⟨Nat.le_trans zr' (own_in o1 a ha).1, (own_in o1 a ha).2⟩
    have r4 : W.heap[w.heap.size + 1]? = some (.cells #[.int .i64 0, .int .i64 0, .slice none 0 0] 25 (0, 0)) := by
      rw [hW, Below.heap_alloc _ _ _ (by simp at zr; omega)]
      exact (b1.block _ (by simp)).trans (heap_new_at _ _ _ (by simp))
    have zW : W.heap.size = w1.heap.size + 1 := by rw [hW]; simp
    have z1 : w.heap.size + 2 ≤ w1.heap.size := by simpa using zr
    obtain ⟨c70, c71, c72, f70, f71, f72⟩ := three_cells hrW
    obtain ⟨c40, c41, c42, f40, f41, f42⟩ := three_cells r4
    have R4 := Lib.hid r4
    have n1 : w1.heap.size ≠ w.heap.size + 1 := by omega
    have n2 := Ne.symm n1
    clear hW hrW r4 zr zr' b1 o1 B0
    go_region_held3 (fun v => v.cell? ⟨w1.heap.size, 0, none⟩ = some (.int .i64 n) ∧ v.cell? ⟨w1.heap.size, 1, none⟩ = some (.int .i64 (tr + 1)) ∧ v.cell? ⟨w1.heap.size, 2, none⟩ = some (.slice a1 xs.length c1))
      (first
        | exact ⟨k3 _ _ _ c70, k3 _ _ _ c71, k3 _ _ _ c72⟩
        | (go_keep; done))
      (first
        | (go_at_call 55
           refine (talkPacket_any n (tr + 1) a1 xs c1 _ (Cells.drew (OwnI.ints oW)) l1 l17 HT.out HB.out).mono ?_
           rintro e w3 ⟨a3, d3, rfl, o3, b3'⟩
           have b3 : Below W.heap.size W w3 := (Below.refl _ W).drew.trans b3'
           have k3 : Keeps W w3 := Keeps.of_below b3
           obtain ⟨c40', c41', c42', f40', f41', f42'⟩ := three_cells ((b3.block _ (by omega)).trans R4.out)))
    go_wp2
    refine bodyPost_ret (v := .tuple #[.agg #[.int .i64 n, .int .i64 (tr + 1), .slice a1 xs.length c1], .slice a3 (xs.length + 3) d3, .bool true]) (by simp [results, Try.results37, go_sem, *]) rfl ?_
    have B3 : Below w.heap.size w w3 := BW.trans (b3.mono BW.size)
    refine ⟨⟨a1, c1, a3, d3, by rw [packetL_length], ?_, ?_, ?_⟩, ?_⟩
    · exact own_base (own_set (own_set (own_set (oW.below b3) _ _ (by simp)) _ _ (by simp)) _ _ (by simp)) (by omega)
    · exact own_base (own_set (own_set (own_set o3 _ _ (by simp; omega)) _ _ (by simp; omega)) _ _ (by simp; omega)) BW.size
    · exact iW.apart (own_in o3) (.inl (by simp; omega))
    · repeat' (first | exact Below.refl _ _ | exact Nat.le_refl _ | assumption | refine Below.drew ?_ | refine below_drewN ?_ _ | (refine Below.alloc ?_ (by first | exact Nat.le_refl _ | omega | (simp; done) | (simp; omega)) _) | (refine Below.setCell ?_ (by first | exact Nat.le_refl _ | omega | (simp; done) | (simp; omega)) _))
end Go.Proofs.Ytjamcfnclnpdkaa
