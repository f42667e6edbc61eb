/- Queues: filling: the program's function. -/
import Derived.Test.YtfjdmdjoebjciaaFifo4
namespace Go.Proofs.Ytfjdmdjoebjciaa
open Go.RowKit

/-- A queue, what is left, and whether it went. -/
structure FlR where
  r : Int
  b : List Int
  l : List Int
  ok : Bool
def fillB (r : Int) (xs ys : List Int) : Bool := fifoB r xs && (decide (ys.length ≤ 40) && bytesB ys)
def fillN (r : Int) (xs : List Int) : Nat := (r - xs.length).toNat
def fillR (r : Int) (xs ys : List Int) : FlR := if fillB r xs ys then ⟨r, xs ++ ys.take (fillN r xs), ys.drop (fillN r xs), true⟩ else ⟨0, [], [], false⟩
theorem fillR_no {r : Int} {xs ys : List Int} (h : fillB r xs ys = false) : fillR r xs ys = ⟨0, [], [], false⟩ := by simp [fillR, h]
theorem fillR_yes {r : Int} {xs ys : List Int} (h : fillB r xs ys = true) : fillR r xs ys = ⟨r, xs ++ ys.take (fillN r xs), ys.drop (fillN r xs), true⟩ := by simp [fillR, h]
theorem fillR_len (r : Int) (xs ys : List Int) : (fillR r xs ys).b.length ≤ 56 ∧ (fillR r xs ys).l.length ≤ 40 := by
  cases h : fillB r xs ys
  · rw [fillR_no h]; simp
  · rw [fillR_yes h]
    simp only [fillB, Bool.and_eq_true, decide_eq_true_eq] at h
    have := fifoB_facts h.1
    simp
    omega
def FillP (w : World) (R : FlR) (e : Ending) (w' : World) : Prop := ∃ a1 c1 a2 c2, e = .returned (.tuple #[.agg #[.int .i64 R.r, .slice a1 R.b.length c1], .slice a2 R.l.length c2, .bool R.ok]) ∧ OwnI w' w.heap.size a1 c1 R.b ∧ OwnI w' w.heap.size a2 c2 R.l ∧ Apart a1 a2 ∧ Below w.heap.size w w'
theorem take_min_succ {ys : List Int} {k n : Nat} {x : Int} (h : ys[k]? = some x) (hk : k < n) : ys.take (min (k + 1) n) = ys.take (min k n) ++ [x] := by
  rw [Nat.min_eq_left (by omega), Nat.min_eq_left (by omega), take_succ_of h]
theorem drop_take_succ {ys : List Int} {k n : Nat} {x : Int} (h : ys[k]? = some x) (hk : n ≤ k) : (ys.take (k + 1)).drop n = (ys.take k).drop n ++ [x] := by
  have hl : k < ys.length := (List.getElem?_eq_some_iff.1 h).1
  rw [take_succ_of h, List.drop_append_of_le_length (by rw [List.length_take]; omega)]
set_option maxHeartbeats 1000000 in
theorem implFifoFill_any (room : Int) (ao : Option Addr) (xs : List Int) (c : Nat) (bo : Option Addr) (ys : List Int) (d : Nat) (w : World) (hx : Ints w ao xs) (lx : xs.length ≤ 1048576) (hy : Ints w bo ys) (ly : ys.length ≤ 1048576) :
    Calls Try.prog 21 #[.agg #[.int .i64 room, .slice ao xs.length c], .slice bo ys.length d] w (FillP w (fillR room xs ys)) := by
  have b0 : Below w.heap.size w ((w.alloc (.cells #[.int .i64 room, .slice ao xs.length c] 25)).alloc (.cells #[.int .i64 0, .slice none 0 0] 25)) := ((Below.refl _ _).alloc (Nat.le_refl _) _).alloc (by simp) _
  have B0 := Lib.hid b0
  have hx0 := hx.below b0
  clear b0
  cases hv : fifoB room xs
  · have HR := Lib.hid (fillR_no (r := room) (xs := xs) (ys := ys) (by simp [fillB, hv]))
    rw [HR.out]
    go_enter Try.func21, Try.ntmps21
    go_wp2_with fail
    refine (implFifoValid_any room ao xs c _ hx0 (by omega)).mono ?_
    rintro e w1 ⟨rfl, b1⟩
    have H2 := (b1.block _ (by simp only [World.size_alloc]; omega)).trans (box_alloc (heap_new_at w (.cells #[.int .i64 room, .slice ao xs.length c] 25) _ rfl) (.cells #[.int .i64 0, .slice none 0 0] 25))
    have H4 := (b1.block _ (by simp only [World.size_alloc]; omega)).trans (heap_new_at (w.alloc (.cells #[.int .i64 room, .slice ao xs.length c] 25)) (.cells #[.int .i64 0, .slice none 0 0] 25) (w.heap.size + 1) (by simp))
    have BB := below_join B0.out b1
    have zz := b1.size
    simp only [World.size_alloc] at zz
    obtain ⟨d0, d1, f0, f1⟩ := two_cells H4
    clear H2 H4
    go_wp2
    refine bodyPost_ret (v := .tuple #[.agg #[.int .i64 0, .slice none 0 0], .slice none 0 0, .bool false]) (by simp [results, Try.results21, go_sem, *]) rfl ?_
    refine ⟨none, 0, none, 0, rfl, own_nil _ _, own_nil _ _, apart_none _, ?_⟩
    exact (BB.setCell (by simp) _).setCell (by simp) _
  by_cases hl : (40 : Int) < (ys.length : Int)
  · have HR := Lib.hid (fillR_no (r := room) (xs := xs) (ys := ys) (by simp [fillB]; intros; omega))
    rw [HR.out]
    go_enter Try.func21, Try.ntmps21
    go_wp2_with fail
    refine (implFifoValid_any room ao xs c _ hx0 (by omega)).mono ?_
    rintro e w1 ⟨rfl, b1⟩
    have H2 := (b1.block _ (by simp only [World.size_alloc]; omega)).trans (box_alloc (heap_new_at w (.cells #[.int .i64 room, .slice ao xs.length c] 25) _ rfl) (.cells #[.int .i64 0, .slice none 0 0] 25))
    have H4 := (b1.block _ (by simp only [World.size_alloc]; omega)).trans (heap_new_at (w.alloc (.cells #[.int .i64 room, .slice ao xs.length c] 25)) (.cells #[.int .i64 0, .slice none 0 0] 25) (w.heap.size + 1) (by simp))
    have BB := below_join B0.out b1
    have zz := b1.size
    simp only [World.size_alloc] at zz
    obtain ⟨d0, d1, f0, f1⟩ := two_cells H4
    clear H2 H4
    go_wp2
    refine bodyPost_ret (v := .tuple #[.agg #[.int .i64 0, .slice none 0 0], .slice none 0 0, .bool false]) (by simp [results, Try.results21, go_sem, *]) rfl ?_
    refine ⟨none, 0, none, 0, rfl, own_nil _ _, own_nil _ _, apart_none _, ?_⟩
    exact (BB.setCell (by simp) _).setCell (by simp) _
  have hl2 : (ys.length : Int) ≤ 40 := by omega
  have hld : decide ((40 : Int) < (ys.length : Int)) = false := by simpa using hl2
  cases hb : bytesB ys
  · have HR := Lib.hid (fillR_no (r := room) (xs := xs) (ys := ys) (by simp [fillB, hb]))
    rw [HR.out]
    clear hl
    go_enter Try.func21, Try.ntmps21
    go_wp2_with fail
    refine (implFifoValid_any room ao xs c _ hx0 (by omega)).mono ?_
    rintro e w1 ⟨rfl, b1⟩
    have H2 := (b1.block _ (by simp only [World.size_alloc]; omega)).trans (box_alloc (heap_new_at w (.cells #[.int .i64 room, .slice ao xs.length c] 25) _ rfl) (.cells #[.int .i64 0, .slice none 0 0] 25))
    have H4 := (b1.block _ (by simp only [World.size_alloc]; omega)).trans (heap_new_at (w.alloc (.cells #[.int .i64 room, .slice ao xs.length c] 25)) (.cells #[.int .i64 0, .slice none 0 0] 25) (w.heap.size + 1) (by simp))
    have BB := below_join B0.out b1
    have zz := b1.size
    simp only [World.size_alloc] at zz
    have hy1 : Ints w1 bo ys := (hy.below B0.out).below b1
    obtain ⟨d0, d1, f0, f1⟩ := two_cells H4
    have HH4 := Lib.hid H4
    clear H2 H4 d0 d1 f0 f1
    go_wp2_with fail
    refine (allBytes_any bo ys d w1 hy1 (by omega)).mono ?_
    rintro e w2 ⟨rfl, b2⟩
    obtain ⟨d0, d1, f0, f1⟩ := two_cells ((b2.block _ (by omega)).trans HH4.out)
    replace BB := BB.trans (b2.mono BB.size)
    go_wp2
    refine bodyPost_ret (v := .tuple #[.agg #[.int .i64 0, .slice none 0 0], .slice none 0 0, .bool false]) (by simp [results, Try.results21, go_sem, *]) rfl ?_
    refine ⟨none, 0, none, 0, rfl, own_nil _ _, own_nil _ _, apart_none _, ?_⟩
    exact (BB.setCell (by simp) _).setCell (by simp) _
  have ff := fifoB_facts hv
  obtain ⟨R, rfl⟩ : ∃ R : Nat, room = (R : Int) := Int.eq_ofNat_of_zero_le (by omega)
  have hr16 : R ≤ 16 := by omega
  have hr1 : 1 ≤ R := by omega
  have hlr : xs.length ≤ R := by omega
  have HR := Lib.hid (fillR_yes (r := (R : Int)) (xs := xs) (ys := ys) (by simp [fillB, hv, hb]; omega))
  have HN : Hid (fillN (R : Int) xs = R - xs.length) := Lib.hid (by simp [fillN])
  rw [HR.out, HN.out]
  clear ff hl
  obtain ⟨n, hn⟩ : ∃ n, n = R - xs.length := ⟨_, rfl⟩
  rw [← hn]
  have hnR : xs.length + n = R := by omega
  have HNR := Lib.hid hnR
  have hnR1 : xs.length + n ≤ R := by omega
  have hnR2 : R ≤ xs.length + n := by omega
  clear hn hnR HN HR
  go_enter Try.func21, Try.ntmps21
  go_wp2_with fail
  refine (implFifoValid_any (R : Int) ao xs c _ hx0 (by omega)).mono ?_
  rintro e w1 ⟨rfl, b1⟩
  have H2 := (b1.block _ (by simp only [World.size_alloc]; omega)).trans (box_alloc (heap_new_at w (.cells #[.int .i64 (R : Int), .slice ao xs.length c] 25) _ rfl) (.cells #[.int .i64 0, .slice none 0 0] 25))
  have H4 := (b1.block _ (by simp only [World.size_alloc]; omega)).trans (heap_new_at (w.alloc (.cells #[.int .i64 (R : Int), .slice ao xs.length c] 25)) (.cells #[.int .i64 0, .slice none 0 0] 25) (w.heap.size + 1) (by simp))
  have BB := below_join B0.out b1
  have zz := b1.size
  simp only [World.size_alloc] at zz
  have hx1 := hx0.below b1
  clear b1
  go_wp2_with fail
  refine (allBytes_any bo ys d w1 (hy.below BB) (by omega)).mono ?_
  rintro e w2 ⟨rfl, b2⟩
  have z2 := b2.size
  have H42 := Lib.hid ((b2.block _ (by omega)).trans H4)
  have H22 := (b2.block _ (by omega)).trans H2
  obtain ⟨c0, c1⟩ := cells2 H22
  have B2 := BB.trans (b2.mono BB.size)
  have hx2 := hx1.below b2
  clear H2 H4 H22 BB hx1 b2
  go_wp2_with fail
  refine (ringOf_any R ao xs c w2 hx2 hr16 hlr).mono ?_
  rintro e w3 ⟨g, rfl, hg, R3, b3⟩
  have z3 := b3.size
  have H43 := Lib.hid ((b3.block _ (by omega)).trans H42.out)
  have B3 := B2.trans (b3.mono B2.size)
  have hg3 := R3.lt
  clear c0 c1 B2 hx2 b3 H42
  go_wp2_with fail
  go_loopw [8, 29] (fun v i wr => ∃ (k : Nat) (a : Option Addr) (q : Nat) (L : List Int), k ≤ ys.length ∧ i = .int .i64 k ∧ v = .slice a L.length q ∧ L = (ys.take k).drop n ∧ OwnI wr w3.heap.size a q L ∧ Ring wr g R (xs ++ ys.take (min k n)) ∧ Below w.heap.size w wr ∧ wr.heap[w.heap.size + 1]? = some (.cells #[.int .i64 0, .slice none 0 0] 25 (0, 0)) ∧ w3.heap.size ≤ wr.heap.size) (fun _ i _ => ys.length - (intOf i).toNat)
  case atStart => exact ⟨0, none, 0, [], Nat.zero_le _, rfl, rfl, by simp, own_nil _ _, by simpa using R3, B3, H43.out, Nat.le_refl _⟩
  case round =>
    obtain ⟨k, a, q, L, hk, rfl, rfl, hL, ho, hR, hB, hH, hz⟩ := hrel
    have hll : L.length ≤ 40 := by rw [hL, List.length_drop, List.length_take]; omega
    have HL := Lib.hid hL
    clear hL
    have HH := Lib.hid hH
    clear hH
    by_cases hlt : k < ys.length
    · obtain ⟨b, off, x, rfl, ex, x0⟩ := (hy.below hB).at_ hlt
      have EX := Lib.hid ex
      clear ex hy
      by_cases hkn : k < n
      · have hlen : (xs ++ ys.take (min k n)).length < R := by rw [List.length_append, List.length_take]; omega
        go_wp2_with fail
        refine (put_yes g R (xs ++ ys.take (min k n)) x wr hR hr16 hlen).mono ?_
        rintro e w5 ⟨rfl, R5, g5⟩
        have o5 := own_only ho g5 (fun p hp => by have := (own_in ho _ hp).1; simp at this; omega)
        have H5 := box_only' HH.out g5 (by omega)
        have B5 := below_only hB g5 (by omega)
        have z5 := g5.size
        have e0 : (ys.take (k + 1)).drop n = (ys.take k).drop n := by rw [List.drop_of_length_le (by rw [List.length_take]; omega), List.drop_of_length_le (by rw [List.length_take]; omega)]
        have E0 := Lib.hid e0
        clear e0
        go_wp2
        go_roundw
        case rel => exact ⟨k + 1, a, q, L, by omega, by go_num, rfl, by rw [E0.out]; exact HL.out, o5, by rw [take_min_succ EX.out hkn, ← List.append_assoc]; exact R5, B5, H5, by omega⟩
        case measure => simp [intOf]; omega
      · have hlen : R ≤ (xs ++ ys.take (min k n)).length := by rw [List.length_append, List.length_take]; omega
        go_wp2_with fail
        refine (put_no g R (xs ++ ys.take (min k n)) x wr hR hlen).mono ?_
        rintro e w5 ⟨rfl, b5⟩
        have o5 := OwnI.below ho b5
        have H5 := Lib.hid ((b5.block _ (box_lt HH.out)).trans HH.out)
        have R5 := hR.below b5
        have B5 := hB.trans (b5.mono hB.size)
        have z5 := b5.size
        clear ho hB b5 hR
        go_wp2_with (
          at_builtin
          refine name_list fun W hW => ?_
          have hoW : OwnI W w3.heap.size a q L := by rw [hW]; exact World.ownsRow.alloc o5 _
          have hcW : Cells W (some ⟨w5.heap.size, 0, none⟩) [.int .i64 x] := by rw [hW]; exact cells_new _ #[.int .i64 x] _ rfl
          have bW : Below w.heap.size w W := by rw [hW]; exact B5.alloc B5.size _
          have hHW : W.heap[w.heap.size + 1]? = some (.cells #[.int .i64 0, .slice none 0 0] 25 (0, 0)) := by rw [hW]; exact box_alloc H5.out _
          have hRW : Ring W g R (xs ++ ys.take (min k n)) := by rw [hW]; exact R5.below ((Below.refl _ _).alloc (Nat.le_refl _) _)
          have zW : w3.heap.size ≤ W.heap.size := by rw [hW]; simp; omega
          clear hW
          refine wpList_append_row W rfl _ _ _ rfl w3.heap.size 3 _ 1 8 Try.underlying23 int_info rfl (by decide) a L.length q _ (by rfl) hoW (some ⟨w5.heap.size, 0, none⟩) 1 1 [.int .i64 x] (by rfl) hcW rfl (by simp [Value.oneCell']) (by simp) (by simp only [maxLen]; omega) (by omega) zW ?_
          intro a7 c7 w7 ho7 hg7
          have hr7 : ∀ p, (Value.slice a L.length q).ownBlock = some p → w3.heap.size ≤ p := fun p hp => (hoW.lt p hp).1
          have B7 := bW.grown hg7 bW.size (fun p hp => by have := hr7 p hp; omega)
          have H7 := box_grow hHW hg7 (fun p hp => by have := hr7 p hp; omega)
          have R7 : Ring w7 g R (xs ++ ys.take (min k n)) := hRW.block (hg7.block g hRW.lt (fun e => by have := hr7 g e.symm; omega))
          have z7 := hg7.size
          have o7 := OwnI.snoc ho7
          clear hoW ho7 hg7 hcW hHW hRW bW hr7)
        go_roundw
        case rel => exact ⟨k + 1, a7, c7, L ++ [x], by omega, by go_num, by simp, by rw [drop_take_succ EX.out (by omega), ← HL.out], o7, by rw [Nat.min_eq_right (by omega)]; rw [Nat.min_eq_right (by omega)] at R7; exact R7, B7, H7, by omega⟩
        case measure => simp [intOf]; omega
    · have he : k = ys.length := by omega
      subst he
      have e2 : ys.take (min ys.length n) = ys.take n := by
        rcases Nat.le_total ys.length n with h | h
        · rw [Nat.min_eq_left h, List.take_length, List.take_of_length_le h]
        · rw [Nat.min_eq_right h]
      rw [e2] at hR
      have hL2 : L = ys.drop n := by rw [HL.out, List.take_length]
      have HL2 := Lib.hid hL2
      have hlt4 := box_lt HH.out
      clear e2 hL2 HL
      go_wp2_with fail
      refine (ringFifo_any g R (xs ++ ys.take n) wr hR hr16 hr1 (by rw [List.length_append, List.length_take]; omega)).mono ?_
      rintro e w6 ⟨a6, c6, rfl, o6, b6⟩
      obtain ⟨d0, d1, f0, f1⟩ := two_cells ((b6.block _ hlt4).trans HH.out)
      have B6 := hB.trans (b6.mono hB.size)
      have oL := OwnI.below ho b6
      go_wp2
      refine bodyPost_ret (v := .tuple #[.agg #[.int .i64 (R : Int), .slice a6 (xs ++ ys.take n).length c6], .slice a L.length q, .bool true]) (by simp [results, Try.results21, go_sem, *]) rfl ?_
      refine ⟨a6, c6, a, q, by rw [HL2.out], ?_, ?_, ?_, ?_⟩
      · refine OwnI.base (base := wr.heap.size) ?_ hB.size
        refine own_set ?_ _ _ hlt4
        refine own_set ?_ _ _ hlt4
        exact o6
      · rw [← HL2.out]
        refine OwnI.base (base := w3.heap.size) ?_ (by omega)
        refine own_set ?_ _ _ (by simp; omega)
        refine own_set ?_ _ _ (by simp; omega)
        exact oL
      · exact ((own_in o6).apart (own_in ho) (.inr (Nat.le_refl _)))
      · exact (B6.setCell (by simp) _).setCell (by simp) _
end Go.Proofs.Ytfjdmdjoebjciaa
