/- Receivers: why bytes should be taken: both functions. -/
import Derived.Test.YtmmdbbnmifpciaaRecv3
namespace Go.Proofs.Ytmmdbbnmifpciaa
open Go.RowKit

def readyN (r t : Int) (gs : List Gt) (a : Int) : Int := if recvB r t gs a then (if t ≤ (gs.length : Int) then 1 else if 0 < gs.length ∧ 4 ≤ a then 2 else 0) else 0
set_option maxHeartbeats 1000000 in
theorem implRecvReady_any (r t : Int) (ao : Option Addr) (gs : List Gt) (c : Nat) (lost : Bool) (a : Int) (w : World) (hx : Gts w ao gs) (lx : gs.length ≤ 1048576) :
    Calls Try.prog 10 #[.agg #[.int .i64 r, .int .i64 t, .slice ao gs.length c, .bool lost, .int .i64 a]] w fun e w' => e = .returned (.int .i64 (readyN r t gs a)) ∧ Below w.heap.size w w' := by
  have b0 : Below w.heap.size w (w.alloc (.cells #[.int .i64 r, .int .i64 t, .slice ao gs.length c, .bool lost, .int .i64 a] 25)) := (Below.refl _ _).alloc (Nat.le_refl _) _
  have hx0 := hx.below b0
  have B0 := Lib.hid b0
  clear b0
  cases hv : recvB r t gs a
  · have HR : Hid (readyN r t gs a = 0) := Lib.hid (by simp [readyN, hv])
    go_enter Try.func10, Try.ntmps10
    go_wp2_with fail
    refine (implRecvValid_any r t ao gs c lost a _ hx0 (by omega)).mono ?_
    rintro e w1 ⟨rfl, b1⟩
    go_wp2
    all_goals
      go_ret
      exact ⟨ret_int HR.out.symm, below_join B0.out b1⟩
  have hf := recvB_facts hv
  have ht1 := hf.2.1.1
  have hge : 0 ≤ (gs.length : Int) := by omega
  by_cases ht : t ≤ (gs.length : Int)
  · have HR : Hid (readyN r t gs a = 1) := Lib.hid (by simp [readyN, hv, ht])
    have hz : ((gs.length : Int) == 0) = false := beq_eq_false_iff_ne.2 (by omega)
    go_enter Try.func10, Try.ntmps10
    go_wp2_with fail
    refine (implRecvValid_any r t ao gs c lost a _ hx0 (by omega)).mono ?_
    rintro e w1 ⟨rfl, b1⟩
    obtain ⟨c0, c1, c2, c3, c4⟩ := cells5 ((b1.block _ (by simp)).trans (heap_new_at w (.cells #[.int .i64 r, .int .i64 t, .slice ao gs.length c, .bool lost, .int .i64 a] 25) _ rfl))
    go_wp2
    all_goals
      go_ret
      exact ⟨ret_int HR.out.symm, below_join B0.out b1⟩
  have ht' : (gs.length : Int) < t := by omega
  have hd : decide (t ≤ (gs.length : Int)) = false := by simpa using ht'
  by_cases hn : (0 : Int) < (gs.length : Int)
  case neg =>
    have hn0 : (gs.length : Int) ≤ 0 := by omega
    have hz : ((gs.length : Int) == 0) = true := beq_iff_eq.2 (by omega)
    have HR : Hid (readyN r t gs a = 0) := Lib.hid (by simp only [readyN, hv, if_true]; rw [if_neg ht, if_neg (by omega)])
    clear ht hn
    go_enter Try.func10, Try.ntmps10
    go_wp2_with fail
    refine (implRecvValid_any r t ao gs c lost a _ hx0 (by omega)).mono ?_
    rintro e w1 ⟨rfl, b1⟩
    obtain ⟨c0, c1, c2, c3, c4⟩ := cells5 ((b1.block _ (by simp)).trans (heap_new_at w (.cells #[.int .i64 r, .int .i64 t, .slice ao gs.length c, .bool lost, .int .i64 a] 25) _ rfl))
    go_wp2
    all_goals
      go_ret
      exact ⟨ret_int HR.out.symm, below_join B0.out b1⟩
  have hz : ((gs.length : Int) == 0) = false := beq_eq_false_iff_ne.2 (by omega)
  by_cases ha : 4 ≤ a
  · have HR : Hid (readyN r t gs a = 2) := Lib.hid (by simp only [readyN, hv, if_true]; rw [if_neg ht, if_pos (by omega)])
    have hda : decide (4 ≤ a) = true := decide_eq_true ha
    have hdn : decide ((0 : Int) < (gs.length : Int)) = true := decide_eq_true hn
    clear ht
    go_enter Try.func10, Try.ntmps10
    go_wp2_with fail
    refine (implRecvValid_any r t ao gs c lost a _ hx0 (by omega)).mono ?_
    rintro e w1 ⟨rfl, b1⟩
    obtain ⟨c0, c1, c2, c3, c4⟩ := cells5 ((b1.block _ (by simp)).trans (heap_new_at w (.cells #[.int .i64 r, .int .i64 t, .slice ao gs.length c, .bool lost, .int .i64 a] 25) _ rfl))
    go_wp2
    all_goals
      first
        | omega
        | (go_ret; exact ⟨ret_int HR.out.symm, below_join B0.out b1⟩)
  · have HR : Hid (readyN r t gs a = 0) := Lib.hid (by simp only [readyN, hv, if_true]; rw [if_neg ht, if_neg (by omega)])
    have ha' : a < 4 := by omega
    have hda : decide (4 ≤ a) = false := by simpa using ha
    clear ht ha
    go_enter Try.func10, Try.ntmps10
    go_wp2_with fail
    refine (implRecvValid_any r t ao gs c lost a _ hx0 (by omega)).mono ?_
    rintro e w1 ⟨rfl, b1⟩
    obtain ⟨c0, c1, c2, c3, c4⟩ := cells5 ((b1.block _ (by simp)).trans (heap_new_at w (.cells #[.int .i64 r, .int .i64 t, .slice ao gs.length c, .bool lost, .int .i64 a] 25) _ rfl))
    go_wp2
    all_goals
      go_ret
      exact ⟨ret_int HR.out.symm, below_join B0.out b1⟩
set_option maxHeartbeats 1000000 in
theorem specRecvReady_any (r t : Int) (ao : Option Addr) (gs : List Gt) (c : Nat) (lost : Bool) (a : Int) (w : World) (hx : Gts w ao gs) (lx : gs.length ≤ 1048576) :
    Calls Try.prog 11 #[.agg #[.int .i64 r, .int .i64 t, .slice ao gs.length c, .bool lost, .int .i64 a]] w fun e w' => e = .returned (.int .i64 (readyN r t gs a)) ∧ Below w.heap.size w w' := by
  have b0 : Below w.heap.size w (w.alloc (.cells #[.int .i64 r, .int .i64 t, .slice ao gs.length c, .bool lost, .int .i64 a] 25)) := (Below.refl _ _).alloc (Nat.le_refl _) _
  have hx0 := hx.below b0
  have B0 := Lib.hid b0
  clear b0
  cases hv : recvB r t gs a
  · have HR : Hid (readyN r t gs a = 0) := Lib.hid (by simp [readyN, hv])
    go_enter Try.func11, Try.ntmps11
    go_wp2_with fail
    refine (specRecvValid_any r t ao gs c lost a _ hx0 (by omega)).mono ?_
    rintro e w1 ⟨rfl, b1⟩
    go_wp2
    all_goals
      go_ret
      exact ⟨ret_int HR.out.symm, below_join B0.out b1⟩
  have hf := recvB_facts hv
  have ht1 := hf.2.1.1
  have hge : 0 ≤ (gs.length : Int) := by omega
  by_cases ht : t ≤ (gs.length : Int)
  · have HR : Hid (readyN r t gs a = 1) := Lib.hid (by simp [readyN, hv, ht])
    have hz : ((gs.length : Int) == 0) = false := beq_eq_false_iff_ne.2 (by omega)
    go_enter Try.func11, Try.ntmps11
    go_wp2_with fail
    refine (specRecvValid_any r t ao gs c lost a _ hx0 (by omega)).mono ?_
    rintro e w1 ⟨rfl, b1⟩
    obtain ⟨c0, c1, c2, c3, c4⟩ := cells5 ((b1.block _ (by simp)).trans (heap_new_at w (.cells #[.int .i64 r, .int .i64 t, .slice ao gs.length c, .bool lost, .int .i64 a] 25) _ rfl))
    go_wp2
    all_goals
      go_ret
      exact ⟨ret_int HR.out.symm, below_join B0.out b1⟩
  have ht' : (gs.length : Int) < t := by omega
  have hd : decide (t ≤ (gs.length : Int)) = false := by simpa using ht'
  by_cases hn : (0 : Int) < (gs.length : Int)
  case neg =>
    have hn0 : (gs.length : Int) ≤ 0 := by omega
    have hz : ((gs.length : Int) == 0) = true := beq_iff_eq.2 (by omega)
    have HR : Hid (readyN r t gs a = 0) := Lib.hid (by simp only [readyN, hv, if_true]; rw [if_neg ht, if_neg (by omega)])
    clear ht hn
    go_enter Try.func11, Try.ntmps11
    go_wp2_with fail
    refine (specRecvValid_any r t ao gs c lost a _ hx0 (by omega)).mono ?_
    rintro e w1 ⟨rfl, b1⟩
    obtain ⟨c0, c1, c2, c3, c4⟩ := cells5 ((b1.block _ (by simp)).trans (heap_new_at w (.cells #[.int .i64 r, .int .i64 t, .slice ao gs.length c, .bool lost, .int .i64 a] 25) _ rfl))
    go_wp2
    all_goals
      go_ret
      exact ⟨ret_int HR.out.symm, below_join B0.out b1⟩
  have hz : ((gs.length : Int) == 0) = false := beq_eq_false_iff_ne.2 (by omega)
  by_cases ha : 4 ≤ a
  · have HR : Hid (readyN r t gs a = 2) := Lib.hid (by simp only [readyN, hv, if_true]; rw [if_neg ht, if_pos (by omega)])
    have hda : decide (4 ≤ a) = true := decide_eq_true ha
    have hdn : decide ((0 : Int) < (gs.length : Int)) = true := decide_eq_true hn
    clear ht
    go_enter Try.func11, Try.ntmps11
    go_wp2_with fail
    refine (specRecvValid_any r t ao gs c lost a _ hx0 (by omega)).mono ?_
    rintro e w1 ⟨rfl, b1⟩
    obtain ⟨c0, c1, c2, c3, c4⟩ := cells5 ((b1.block _ (by simp)).trans (heap_new_at w (.cells #[.int .i64 r, .int .i64 t, .slice ao gs.length c, .bool lost, .int .i64 a] 25) _ rfl))
    go_wp2
    all_goals
      first
        | omega
        | (go_ret; exact ⟨ret_int HR.out.symm, below_join B0.out b1⟩)
  · have HR : Hid (readyN r t gs a = 0) := Lib.hid (by simp only [readyN, hv, if_true]; rw [if_neg ht, if_neg (by omega)])
    have ha' : a < 4 := by omega
    have hda : decide (4 ≤ a) = false := by simpa using ha
    clear ht ha
    go_enter Try.func11, Try.ntmps11
    go_wp2_with fail
    refine (specRecvValid_any r t ao gs c lost a _ hx0 (by omega)).mono ?_
    rintro e w1 ⟨rfl, b1⟩
    obtain ⟨c0, c1, c2, c3, c4⟩ := cells5 ((b1.block _ (by simp)).trans (heap_new_at w (.cells #[.int .i64 r, .int .i64 t, .slice ao gs.length c, .bool lost, .int .i64 a] 25) _ rfl))
    go_wp2
    all_goals
      go_ret
      exact ⟨ret_int HR.out.symm, below_join B0.out b1⟩
end Go.Proofs.Ytmmdbbnmifpciaa
