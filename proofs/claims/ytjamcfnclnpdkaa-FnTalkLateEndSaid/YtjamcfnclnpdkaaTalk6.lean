/- One who hears packets: both walks give one function of the arguments. -/
import Derived.Test.YtjamcfnclnpdkaaTalk4
namespace Go.Proofs.Ytjamcfnclnpdkaa
open Go.RowKit

structure HearR where
  x : Int
  l : List Int
  n : Int
  ok : Bool
noncomputable def hearB (e : Int) (xs : List Int) : Bool := sumTakeB xs && (decide (2 ≤ (sumTakeL xs).length) && (turnB e && turnB ((sumTakeL xs).headD 0)))
noncomputable def hearR (e : Int) (xs : List Int) : HearR :=
  if hearB e xs then (if (sumTakeL xs).headD 0 = e then ⟨1 - e, (sumTakeL xs).tail, (sumTakeL xs).headD 0, true⟩ else ⟨e, [], (sumTakeL xs).headD 0, true⟩) else ⟨0, [], 0, false⟩
def hearK (x u : Int) (T : List Int) : HearR := match turnB u with
  | false => ⟨0, [], 0, false⟩
  | true => if u = x then ⟨1 - x, T, u, true⟩ else ⟨x, [], u, true⟩
theorem hearK_no {x u : Int} {T : List Int} (h : turnB u = false) : hearK x u T = ⟨0, [], 0, false⟩ := by simp [hearK, h]
theorem hearK_hit {u : Int} {T : List Int} (h : turnB u = true) : hearK u u T = ⟨1 - u, T, u, true⟩ := by simp [hearK, h]
theorem hearK_miss {x u : Int} {T : List Int} (h : turnB u = true) (hx : u ≠ x) : hearK x u T = ⟨x, [], u, true⟩ := by simp [hearK, h, hx]
theorem hearR_k {x : Int} {xs : List Int} (hs : sumTakeB xs = true) (hx : turnB x = true) (hl : 2 ≤ (sumTakeL xs).length) : hearR x xs = hearK x ((sumTakeL xs).headD 0) (sumTakeL xs).tail := by
  have hB : hearB x xs = turnB ((sumTakeL xs).headD 0) := by simp [hearB, hs, hx, hl]
  unfold hearR
  rw [hB]
  generalize (sumTakeL xs).headD 0 = u
  generalize (sumTakeL xs).tail = T
  cases h : turnB u
  · rw [hearK_no h]; rfl
  · by_cases he : u = x
    · subst he
      rw [if_pos rfl, if_pos rfl, hearK_hit h]
    · rw [if_pos rfl, if_neg he, hearK_miss h he]
theorem hearR_no {e : Int} {xs : List Int} (h : hearB e xs = false) : hearR e xs = ⟨0, [], 0, false⟩ := by simp [hearR, h]
theorem sumTakeL_bytes (xs : List Int) : bytesB (sumTakeL xs) = true := by
  cases h : sumTakeB xs
  · rw [sumTakeL_no h]; rfl
  · unfold sumTakeL
    rw [if_pos h]
    unfold sumTakeB at h
    simp only [Bool.and_eq_true] at h
    exact bytesB_take h.1 _
def Heard (B : Nat) (R : HearR) (e : Ending) (w' : World) : Prop := ∃ a1 c1, e = .returned (.tuple #[.int .i64 R.x, .slice a1 R.l.length c1, .int .i64 R.n, .bool R.ok]) ∧ OwnI w' B a1 c1 R.l
theorem own_cons {w : World} {B c : Nat} {ao : Option Addr} {u : Int} {T : List Int} (h : OwnI w B ao c (u :: T)) : ∃ g, ao = some ⟨g, 0, none⟩ ∧ w.cell? ⟨g, 0, none⟩ = some (.int .i64 u) ∧ T.length + 1 ≤ c ∧ Ints w (some ⟨g, 1, none⟩) T := by
  have hc := own_cap h
  rcases own_head h with ⟨_, h0, _⟩ | ⟨g, rfl, _, _⟩
  · simp at h0
  · refine ⟨g, rfl, own_cell_at h (j := 0) rfl, by simpa using hc, ?_⟩
    refine .inr ⟨g, 1, rfl, fun j v hv => ?_⟩
    rw [Nat.add_comm 1 j]
    exact own_cell_at h (j := j + 1) (by simpa using hv)

set_option maxHeartbeats 400000 in
theorem implTalkHear_any (x : Int) (ao : Option Addr) (xs : List Int) (c : Nat) (w : World) (hx : Ints w ao xs) (hc : xs.length ≤ c) (hc2 : xs.length ≤ 4611686018427387904) :
    Calls Try.prog 23 #[.int .i64 x, .slice ao xs.length c] w fun e w' => Heard w.heap.size (hearR x xs) e w' ∧ Below w.heap.size w w' := by
  have HS := Lib.hid (implSumTake_any ao xs c w hx hc hc2)
  have hlm : (sumTakeL xs).length ≤ 20 := by
    unfold sumTakeL
    split
    · rename_i h
      simp only [sumTakeB, Bool.and_eq_true, decide_eq_true_eq] at h
      rw [List.length_take]; omega
    · simp
  cases hs : sumTakeB xs
  · have HR := Lib.hid (hearR_no (e := x) (xs := xs) (by simp [hearB, hs]))
    rw [HR.out]
    go_enter Try.func23, Try.ntmps23
    go_wp2_with fail
    refine HS.out.mono ?_
    rintro e w1 ⟨a1, c1, rfl, o1, b1⟩
    go_wp2
    refine bodyPost_ret (v := .tuple #[.int .i64 0, .slice none 0 0, .int .i64 0, .bool false]) (by simp [results, Try.results23, go_sem]) rfl ?_
    exact ⟨⟨_, _, rfl, own_nil _ _⟩, b1⟩
  by_cases hl : ((sumTakeL xs).length : Int) < 2
  · have HR := Lib.hid (hearR_no (e := x) (xs := xs) (by simp [hearB]; intros; omega))
    rw [HR.out]
    go_enter Try.func23, Try.ntmps23
    go_wp2_with fail
    refine HS.out.mono ?_
    rintro e w1 ⟨a1, c1, rfl, o1, b1⟩
    go_wp2
    refine bodyPost_ret (v := .tuple #[.int .i64 0, .slice none 0 0, .int .i64 0, .bool false]) (by simp [results, Try.results23, go_sem]) rfl ?_
    exact ⟨⟨_, _, rfl, own_nil _ _⟩, b1⟩
  cases hx1 : turnB x
  · have HR := Lib.hid (hearR_no (e := x) (xs := xs) (by simp [hearB, hx1]))
    have hl2 : (2 : Int) ≤ ((sumTakeL xs).length : Int) := by omega
    rw [HR.out]
    go_enter Try.func23, Try.ntmps23
    go_wp2_with fail
    refine HS.out.mono ?_
    rintro e w1 ⟨a1, c1, rfl, o1, b1⟩
    go_wp2_with fail
    refine (isTurn_any x w1).mono ?_
    rintro e w2 ⟨rfl, rfl⟩
    go_wp2
    refine bodyPost_ret (v := .tuple #[.int .i64 0, .slice none 0 0, .int .i64 0, .bool false]) (by simp [results, Try.results23, go_sem]) rfl ?_
    exact ⟨⟨_, _, rfl, own_nil _ _⟩, b1⟩
  rw [hearR_k hs hx1 (by omega)]
  generalize sumTakeL xs = L at *
  obtain ⟨u, T, rfl⟩ : ∃ u T, L = u :: T := by
    cases L with
    | nil => simp at hl
    | cons u T => exact ⟨u, T, rfl⟩
  have lT : 1 ≤ T.length := by simp at hl; omega
  have lT2 : T.length ≤ 19 := by simpa using hlm
  have lT3 : (2 : Int) ≤ (T.length : Int) + 1 := by omega
  have lT4 : decide ((T.length : Int) + 1 < 2) = false := by simp; omega
  simp only [List.headD_cons, List.tail_cons]
  clear hl hlm
  cases hu : turnB u
  · rw [hearK_no hu]
    go_enter Try.func23, Try.ntmps23
    go_wp2_with fail
    refine HS.out.mono ?_
    rintro e w1 ⟨a1, c1, rfl, o1, b1⟩
    obtain ⟨g, rfl, cg, hcap, hT⟩ := own_cons o1
    go_wp2_with fail
    refine (isTurn_any x w1).mono ?_
    rintro e w2 ⟨rfl, rfl⟩
    go_wp2_with fail
    refine (isTurn_any u w1).mono ?_
    rintro e w2 ⟨rfl, rfl⟩
    go_wp2
    refine bodyPost_ret (v := .tuple #[.int .i64 0, .slice none 0 0, .int .i64 0, .bool false]) (by simp [results, Try.results23, go_sem]) rfl ?_
    exact ⟨⟨_, _, rfl, own_nil _ _⟩, b1⟩
  by_cases hux : u = x
  · subst hux
    rw [hearK_hit hu]
    have tn : 0 ≤ u ∧ u ≤ 1 := by simp [turnB] at hu; omega
    obtain ⟨tn0, tn1⟩ := tn
    have l1 : 0 < T.length := by omega
    go_enter Try.func23, Try.ntmps23
    go_wp2_with fail
    refine HS.out.mono ?_
    rintro e w1 ⟨a1, c1, rfl, o1, b1⟩
    obtain ⟨g, rfl, cg, hcap, hT⟩ := own_cons o1
    have hc1 : (1 : Int) < (c1 : Int) := by omega
    clear hx1
    go_wp2_with fail
    refine (isTurn_any u w1).mono ?_
    rintro e w2 ⟨rfl, rfl⟩
    go_wp2_with fail
    refine (isTurn_any u w1).mono ?_
    rintro e w2 ⟨rfl, rfl⟩
    go_wp2_with (
      at_builtin
      refine wpList_append_nil _ rfl _ _ _ rfl w.heap.size 3 _ 1 8 Try.underlying23 int_info rfl (by decide) (by rfl) (some ⟨g, 1, none⟩) T.length (c1 - 1) (T.map (Value.int .i64)) (by rfl) hT (by simp) (ints_one _) (by simp) (by simp only [maxLen]; omega) (by omega) b1.size ?_
      intro a3 d3 w3 ho3 hg3
      have b3 := b1.grown hg3 b1.size (fun k hk => by cases hk))
    refine bodyPost_ret (v := .tuple #[.int .i64 (1 - u), .slice a3 T.length d3, .int .i64 u, .bool true]) (by simp [results, Try.results23, go_sem]) rfl ?_
    exact ⟨⟨a3, d3, rfl, ho3⟩, b3⟩
  · rw [hearK_miss hu hux]
    have hne : (u != x) = true := by simpa using hux
    clear hux
    go_enter Try.func23, Try.ntmps23
    go_wp2_with fail
    refine HS.out.mono ?_
    rintro e w1 ⟨a1, c1, rfl, o1, b1⟩
    obtain ⟨g, rfl, cg, hcap, hT⟩ := own_cons o1
    go_wp2_with fail
    refine (isTurn_any x w1).mono ?_
    rintro e w2 ⟨rfl, rfl⟩
    go_wp2_with fail
    refine (isTurn_any u w1).mono ?_
    rintro e w2 ⟨rfl, rfl⟩
    go_wp2
    refine bodyPost_ret (v := .tuple #[.int .i64 x, .slice none 0 0, .int .i64 u, .bool true]) (by simp [results, Try.results23, go_sem]) rfl ?_
    exact ⟨⟨_, _, rfl, own_nil _ _⟩, b1⟩

set_option maxHeartbeats 400000 in
theorem specTalkHear_any (x : Int) (ao : Option Addr) (xs : List Int) (c : Nat) (w : World) (hx : Ints w ao xs) (hc : xs.length ≤ c) (hc2 : xs.length ≤ 4611686018427387904) :
    Calls Try.prog 21 #[.int .i64 x, .slice ao xs.length c] w fun e w' => Heard w.heap.size (hearR x xs) e w' ∧ Below w.heap.size w w' := by
  have HS := Lib.hid (specSumTake_any ao xs c w hx hc hc2)
  have hby := sumTakeL_bytes xs
  have hlm : (sumTakeL xs).length ≤ 20 := by
    unfold sumTakeL
    split
    · rename_i h
      simp only [sumTakeB, Bool.and_eq_true, decide_eq_true_eq] at h
      rw [List.length_take]; omega
    · simp
  cases hs : sumTakeB xs
  · have HR := Lib.hid (hearR_no (e := x) (xs := xs) (by simp [hearB, hs]))
    rw [HR.out]
    clear hby
    go_enter Try.func21, Try.ntmps21
    go_wp2_with fail
    refine HS.out.mono ?_
    rintro e w1 ⟨a1, c1, rfl, o1, b1⟩
    go_wp2
    refine bodyPost_ret (v := .tuple #[.int .i64 0, .slice (some ⟨w1.heap.size, 0, none⟩) 0 0, .int .i64 0, .bool false]) (by simp [results, Try.results21, go_sem]) rfl ?_
    exact ⟨⟨_, _, rfl, own_made_at w1 #[] _ _ 0 _ _ rfl b1.size (by simp) rfl⟩, b1.alloc b1.size _⟩
  cases hx1 : inB x 0 1
  · have HR := Lib.hid (hearR_no (e := x) (xs := xs) (by rw [inB_turn] at hx1; simp [hearB, hx1]))
    rw [HR.out]
    clear hby
    go_enter Try.func21, Try.ntmps21
    go_wp2_with fail
    refine HS.out.mono ?_
    rintro e w1 ⟨a1, c1, rfl, o1, b1⟩
    go_wp2_with fail
    refine (l6In_any x 0 1 w1).mono ?_
    rintro e w2 ⟨rfl, rfl⟩
    go_wp2
    refine bodyPost_ret (v := .tuple #[.int .i64 0, .slice (some ⟨w1.heap.size, 0, none⟩) 0 0, .int .i64 0, .bool false]) (by simp [results, Try.results21, go_sem]) rfl ?_
    exact ⟨⟨_, _, rfl, own_made_at w1 #[] _ _ 0 _ _ rfl b1.size (by simp) rfl⟩, b1.alloc b1.size _⟩
  by_cases hl : ((sumTakeL xs).length : Int) < 2
  · have HR := Lib.hid (hearR_no (e := x) (xs := xs) (by simp [hearB]; intros; omega))
    rw [HR.out]
    clear hby
    go_enter Try.func21, Try.ntmps21
    go_wp2_with fail
    refine HS.out.mono ?_
    rintro e w1 ⟨a1, c1, rfl, o1, b1⟩
    go_wp2_with fail
    refine (l6In_any x 0 1 w1).mono ?_
    rintro e w2 ⟨rfl, rfl⟩
    go_wp2
    refine bodyPost_ret (v := .tuple #[.int .i64 0, .slice (some ⟨w1.heap.size, 0, none⟩) 0 0, .int .i64 0, .bool false]) (by simp [results, Try.results21, go_sem]) rfl ?_
    exact ⟨⟨_, _, rfl, own_made_at w1 #[] _ _ 0 _ _ rfl b1.size (by simp) rfl⟩, b1.alloc b1.size _⟩
  have hx2 : turnB x = true := by rw [← inB_turn]; exact hx1
  rw [hearR_k hs hx2 (by omega)]
  clear hx2
  generalize sumTakeL xs = L at *
  obtain ⟨u, T, rfl⟩ : ∃ u T, L = u :: T := by
    cases L with
    | nil => simp at hl
    | cons u T => exact ⟨u, T, rfl⟩
  have lT : 1 ≤ T.length := by simp at hl; omega
  have lT2 : T.length ≤ 19 := by simpa using hlm
  have lT3 : (2 : Int) ≤ (T.length : Int) + 1 := by omega
  have lT4 : decide ((T.length : Int) + 1 < 2) = false := by simp; omega
  have u0 : 0 ≤ u := by simp [bytesB, byteB] at hby; omega
  simp only [List.headD_cons, List.tail_cons]
  clear hl hlm hby
  by_cases hu : (1 : Int) < u
  · rw [hearK_no (show turnB u = false by simp [turnB]; omega)]
    go_enter Try.func21, Try.ntmps21
    go_wp2_with fail
    refine HS.out.mono ?_
    rintro e w1 ⟨a1, c1, rfl, o1, b1⟩
    obtain ⟨g, rfl, cg, hcap, hT⟩ := own_cons o1
    go_wp2_with fail
    refine (l6In_any x 0 1 w1).mono ?_
    rintro e w2 ⟨rfl, rfl⟩
    go_wp2
    refine bodyPost_ret (v := .tuple #[.int .i64 0, .slice (some ⟨w1.heap.size, 0, none⟩) 0 0, .int .i64 0, .bool false]) (by simp [results, Try.results21, go_sem]) rfl ?_
    exact ⟨⟨_, _, rfl, own_made_at w1 #[] _ _ 0 _ _ rfl b1.size (by simp) rfl⟩, b1.alloc b1.size _⟩
  have u1 : u ≤ 1 := by omega
  have ht : turnB u = true := by simp [turnB]; omega
  clear hu
  by_cases hux : u = x
  · subst hux
    rw [hearK_hit ht]
    clear ht
    have l1 : 0 < T.length := by omega
    go_enter Try.func21, Try.ntmps21
    go_wp2_with fail
    refine HS.out.mono ?_
    rintro e w1 ⟨a1, c1, rfl, o1, b1⟩
    obtain ⟨g, rfl, cg, hcap, hT⟩ := own_cons o1
    have hc1 : (1 : Int) < (c1 : Int) := by omega
    have hc3 : (T.length : Int) + 1 ≤ (c1 : Int) := by omega
    have hc4 : (1 : Int) ≤ (T.length : Int) + 1 := by omega
    have hc5 : c1 ≠ 1 := by omega
    have hwr : IntKind.i64.wrap (1 - u) = 1 - u := IntWalk.i64_in _ (by omega)
    go_wp2_with fail
    refine (l6In_any u 0 1 w1).mono ?_
    rintro e w2 ⟨rfl, rfl⟩
    go_wp2_with fail
    go_region_held3 (fun v => v.cell? ⟨g, 0, none⟩ = some (.int .i64 u))
      (go_keep)
      ((refine step_append_fresh (by rfl) _ _ _ (by rfl) 3 _ 1 8 Try.underlying23 int_info rfl (by decide) _ (by rfl) (some ⟨g, 1, none⟩) T.length (c1 - 1) (T.map (Value.int .i64)) (by rfl) ?hn (by simp) (ints_one _) l1 (by simp only [maxLen]; omega) (by omega) ?_
        case hn => exact Cells.drew (Cells.keep hT (Keeps.alloc _ _))
        intro aA dA wA hoA hgA
        have bA : Below w1.heap.size w1 wA := below_nil ((Below.refl _ _).alloc (Nat.le_refl _) _).drew hgA
        have cA := Keeps.of_below bA _ _ _ cg))
    go_wp2
    refine bodyPost_ret (v := .tuple #[.int .i64 (1 - u), .slice aA T.length dA, .int .i64 u, .bool true]) (by simp [results, Try.results21, go_sem]) rfl ?_
    have zW : w1.heap.size ≤ (World.drew (w1.alloc (.cells #[] 3))).heap.size := by show _ ≤ (w1.alloc _).heap.size; simp
    exact ⟨⟨aA, dA, rfl, own_base hoA (Nat.le_trans b1.size zW)⟩, b1.trans (bA.mono b1.size)⟩
  · rw [hearK_miss ht hux]
    have hne : (u != x) = true := by simpa using hux
    clear hux ht
    go_enter Try.func21, Try.ntmps21
    go_wp2_with fail
    refine HS.out.mono ?_
    rintro e w1 ⟨a1, c1, rfl, o1, b1⟩
    obtain ⟨g, rfl, cg, hcap, hT⟩ := own_cons o1
    go_wp2_with fail
    refine (l6In_any x 0 1 w1).mono ?_
    rintro e w2 ⟨rfl, rfl⟩
    go_wp2_with fail
    go_region_held3 (fun v => v.cell? ⟨g, 0, none⟩ = some (.int .i64 u))
      (go_keep)
      (fail)
    go_wp2
    refine bodyPost_ret (v := .tuple #[.int .i64 x, .slice (some ⟨w1.heap.size, 0, none⟩) 0 0, .int .i64 u, .bool true]) (by simp [results, Try.results21, go_sem]) rfl ?_
    exact ⟨⟨_, _, rfl, own_made_at w1.drew #[] _ _ 0 _ _ rfl b1.size (by simp) rfl⟩, (b1.alloc b1.size _).drew⟩
end Go.Proofs.Ytjamcfnclnpdkaa
