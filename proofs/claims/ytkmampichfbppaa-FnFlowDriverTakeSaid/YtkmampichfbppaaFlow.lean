/- Flow: what tells that bytes are wanted. -/
import Derived.Test.YtkmampichfbppaaDriver6
namespace Go.Proofs.Ytkmampichfbppaa
open Go.RowKit

def flowVB (hi lo : Int) : Bool := inB lo 0 32 && (inB hi 1 32 && decide (lo < hi))
def flowW (hi lo n : Int) (b : Bool) : Bool := if hi ≤ n then false else if n ≤ lo then true else b
theorem flowVB_facts {hi lo : Int} (h : flowVB hi lo = true) : 0 ≤ lo ∧ lo < hi ∧ hi ≤ 32 := by
  simp only [flowVB, inB, Bool.and_eq_true, decide_eq_true_eq] at h
  omega
theorem implFlowValid_any (hi lo : Int) (w : World) : Calls Try.prog 55 #[.agg #[.int .i64 hi, .int .i64 lo]] w fun e w' => e = .returned (.bool (flowVB hi lo)) ∧ Below w.heap.size w w' := by
  have b0 : Below w.heap.size w (w.alloc (.cells #[.int .i64 hi, .int .i64 lo] 68)) := (Below.refl _ _).alloc (Nat.le_refl _) _
  by_cases h0 : 0 ≤ lo
  case neg =>
    have HF := Lib.hid (show flowVB hi lo = false by simp [flowVB, inB]; omega)
    have hd : decide (0 ≤ lo) = false := by simpa using h0
    have hn : lo < 0 := by omega
    clear h0
    go_enter Try.func55, Try.ntmps55
    go_wp2
    go_ret
    exact ⟨ret_bool HF.out.symm, b0⟩
  by_cases h1 : lo < hi
  case neg =>
    have HF := Lib.hid (show flowVB hi lo = false by simp [flowVB, inB]; omega)
    have hd : decide (lo < hi) = false := by simpa using h1
    have hn : hi ≤ lo := by omega
    clear h1
    go_enter Try.func55, Try.ntmps55
    go_wp2
    go_ret
    exact ⟨ret_bool HF.out.symm, b0⟩
  have HF := Lib.hid (show flowVB hi lo = decide (hi ≤ 32) by rw [Bool.eq_iff_iff]; simp [flowVB, inB]; omega)
  go_enter Try.func55, Try.ntmps55
  go_wp2
  go_ret
  exact ⟨ret_bool HF.out.symm, b0⟩
theorem specFlowValid_any (hi lo : Int) (w : World) : Calls Try.prog 56 #[.agg #[.int .i64 hi, .int .i64 lo]] w fun e w' => e = .returned (.bool (flowVB hi lo)) ∧ Below w.heap.size w w' := by
  have b0 : Below w.heap.size w (w.alloc (.cells #[.int .i64 hi, .int .i64 lo] 68)) := (Below.refl _ _).alloc (Nat.le_refl _) _
  cases h0 : inB lo 0 32
  · have HF := Lib.hid (show flowVB hi lo = false by simp [flowVB, h0])
    go_enter Try.func56, Try.ntmps56
    go_wp2_with fail
    refine (l6In_any lo 0 32 _).mono ?_
    rintro e w1 ⟨rfl, rfl⟩
    go_wp2
    go_ret
    exact ⟨ret_bool HF.out.symm, b0⟩
  cases h1 : inB hi 1 32
  · have HF := Lib.hid (show flowVB hi lo = false by simp [flowVB, h1])
    go_enter Try.func56, Try.ntmps56
    go_wp2_with fail
    refine (l6In_any lo 0 32 _).mono ?_
    rintro e w1 ⟨rfl, rfl⟩
    go_wp2_with fail
    refine (l6In_any hi 1 32 _).mono ?_
    rintro e w1 ⟨rfl, rfl⟩
    go_wp2
    go_ret
    exact ⟨ret_bool HF.out.symm, b0⟩
  · have HF := Lib.hid (show flowVB hi lo = decide (lo < hi) by simp [flowVB, h0, h1])
    go_enter Try.func56, Try.ntmps56
    go_wp2_with fail
    refine (l6In_any lo 0 32 _).mono ?_
    rintro e w1 ⟨rfl, rfl⟩
    go_wp2_with fail
    refine (l6In_any hi 1 32 _).mono ?_
    rintro e w1 ⟨rfl, rfl⟩
    go_wp2
    go_ret
    exact ⟨ret_bool HF.out.symm, b0⟩
set_option maxHeartbeats 2000000 in
theorem implFlowNext_any (hi lo n : Int) (b : Bool) (w : World) (hv : flowVB hi lo = true) : Calls Try.prog 32 #[.agg #[.int .i64 hi, .int .i64 lo], .int .i64 n, .bool b] w fun e w' => e = .returned (.bool (flowW hi lo n b)) ∧ Below w.heap.size w w' := by
  have hmf : ∀ (fn : Fn) (first cap : Array Value) (w : World), (Instr.makeFunc fn first cap).run Try.prog w = .ok (.func fn first cap) w := fun _ _ _ _ => rfl
  have b0 : Below w.heap.size w (w.alloc (.cells #[.int .i64 hi, .int .i64 lo] 68)) := (Below.refl _ _).alloc (Nat.le_refl _) _
  by_cases h1 : hi ≤ n
  · have HW := Lib.hid (show flowW hi lo n b = false by simp [flowW, h1])
    go_enter Try.func32, Try.ntmps32
    go_wp2_with fail
    refine (implFlowValid_any hi lo _).mono ?_
    rintro e w1 ⟨rfl, b1⟩
    have z1 := b1.size
    have kc1 : w1.cell? ⟨w.heap.size, 0, none⟩ = some (.int .i64 hi) := (Keeps.of_below b1) _ _ _ (by simp [go_sem])
    have kf1 : w1.frozen? ⟨w.heap.size, 0, none⟩ = false := (Below.hot b1 (by simp [go_sem])).trans (by simp [go_sem])
    have kc2 : w1.cell? ⟨w.heap.size, 1, none⟩ = some (.int .i64 lo) := (Keeps.of_below b1) _ _ _ (by simp [go_sem])
    have kf2 : w1.frozen? ⟨w.heap.size, 1, none⟩ = false := (Below.hot b1 (by simp [go_sem])).trans (by simp [go_sem])
    go_wp2
    go_ret
    refine ⟨ret_bool (by simp [HW.out]), ?_⟩
    have BB := below_join b0 b1
    have zB := BB.size
    repeat (first | with_reducible exact BB | with_reducible exact b1 | with_reducible refine Below.alloc ?_ (by first | exact Nat.le_refl _ | omega | (simp; done) | (simp; omega)) _ | with_reducible refine Below.setCell ?_ (by first | exact Nat.le_refl _ | (simp; done) | (simp; omega)) _)
  have h1d : decide (hi ≤ n) = false := by simpa using h1
  by_cases h2 : n ≤ lo
  · have HW := Lib.hid (show flowW hi lo n b = true by simp [flowW, h1, h2])
    clear h1
    go_enter Try.func32, Try.ntmps32
    go_wp2_with fail
    refine (implFlowValid_any hi lo _).mono ?_
    rintro e w1 ⟨rfl, b1⟩
    have z1 := b1.size
    have kc3 : w1.cell? ⟨w.heap.size, 0, none⟩ = some (.int .i64 hi) := (Keeps.of_below b1) _ _ _ (by simp [go_sem])
    have kf3 : w1.frozen? ⟨w.heap.size, 0, none⟩ = false := (Below.hot b1 (by simp [go_sem])).trans (by simp [go_sem])
    have kc4 : w1.cell? ⟨w.heap.size, 1, none⟩ = some (.int .i64 lo) := (Keeps.of_below b1) _ _ _ (by simp [go_sem])
    have kf4 : w1.frozen? ⟨w.heap.size, 1, none⟩ = false := (Below.hot b1 (by simp [go_sem])).trans (by simp [go_sem])
    go_wp2
    go_ret
    refine ⟨ret_bool (by simp [HW.out]), ?_⟩
    have BB := below_join b0 b1
    have zB := BB.size
    repeat (first | with_reducible exact BB | with_reducible exact b1 | with_reducible refine Below.alloc ?_ (by first | exact Nat.le_refl _ | omega | (simp; done) | (simp; omega)) _ | with_reducible refine Below.setCell ?_ (by first | exact Nat.le_refl _ | (simp; done) | (simp; omega)) _)
  · have HW := Lib.hid (show flowW hi lo n b = b by simp [flowW, h1, h2])
    have h2d : decide (n ≤ lo) = false := by simpa using h2
    clear h1 h2
    go_enter Try.func32, Try.ntmps32
    go_wp2_with fail
    refine (implFlowValid_any hi lo _).mono ?_
    rintro e w1 ⟨rfl, b1⟩
    have z1 := b1.size
    have kc5 : w1.cell? ⟨w.heap.size, 0, none⟩ = some (.int .i64 hi) := (Keeps.of_below b1) _ _ _ (by simp [go_sem])
    have kf5 : w1.frozen? ⟨w.heap.size, 0, none⟩ = false := (Below.hot b1 (by simp [go_sem])).trans (by simp [go_sem])
    have kc6 : w1.cell? ⟨w.heap.size, 1, none⟩ = some (.int .i64 lo) := (Keeps.of_below b1) _ _ _ (by simp [go_sem])
    have kf6 : w1.frozen? ⟨w.heap.size, 1, none⟩ = false := (Below.hot b1 (by simp [go_sem])).trans (by simp [go_sem])
    go_wp2
    go_ret
    refine ⟨ret_bool (by simp [HW.out]), ?_⟩
    have BB := below_join b0 b1
    have zB := BB.size
    repeat (first | with_reducible exact BB | with_reducible exact b1 | with_reducible refine Below.alloc ?_ (by first | exact Nat.le_refl _ | omega | (simp; done) | (simp; omega)) _ | with_reducible refine Below.setCell ?_ (by first | exact Nat.le_refl _ | (simp; done) | (simp; omega)) _)
set_option maxHeartbeats 2000000 in
theorem specFlowNext_any (hi lo n : Int) (b : Bool) (w : World) (hv : flowVB hi lo = true) : Calls Try.prog 57 #[.agg #[.int .i64 hi, .int .i64 lo], .int .i64 n, .bool b] w fun e w' => e = .returned (.bool (flowW hi lo n b)) ∧ Below w.heap.size w w' := by
  have b0 : Below w.heap.size w (w.alloc (.cells #[.int .i64 hi, .int .i64 lo] 68)) := (Below.refl _ _).alloc (Nat.le_refl _) _
  by_cases h1 : hi ≤ n
  · have HW := Lib.hid (show flowW hi lo n b = false by simp [flowW, h1])
    go_enter Try.func57, Try.ntmps57
    go_wp2_with fail
    refine (specFlowValid_any hi lo _).mono ?_
    rintro e w1 ⟨rfl, b1⟩
    have kc7 : w1.cell? ⟨w.heap.size, 0, none⟩ = some (.int .i64 hi) := (Keeps.of_below b1) _ _ _ (by simp [go_sem])
    have kf7 : w1.frozen? ⟨w.heap.size, 0, none⟩ = false := (Below.hot b1 (by simp [go_sem])).trans (by simp [go_sem])
    have kc8 : w1.cell? ⟨w.heap.size, 1, none⟩ = some (.int .i64 lo) := (Keeps.of_below b1) _ _ _ (by simp [go_sem])
    have kf8 : w1.frozen? ⟨w.heap.size, 1, none⟩ = false := (Below.hot b1 (by simp [go_sem])).trans (by simp [go_sem])
    go_wp2
    go_ret
    refine ⟨ret_bool (by simp [HW.out]), ?_⟩
    have BB := below_join b0 b1
    have zB := BB.size
    repeat (first | with_reducible exact BB | with_reducible exact b1 | with_reducible refine Below.alloc ?_ (by first | exact Nat.le_refl _ | omega | (simp; done) | (simp; omega)) _ | with_reducible refine Below.setCell ?_ (by first | exact Nat.le_refl _ | (simp; done) | (simp; omega)) _)
  have h1d : decide (hi ≤ n) = false := by simpa using h1
  by_cases h2 : n ≤ lo
  · have HW := Lib.hid (show flowW hi lo n b = true by simp [flowW, h1, h2])
    clear h1
    go_enter Try.func57, Try.ntmps57
    go_wp2_with fail
    refine (specFlowValid_any hi lo _).mono ?_
    rintro e w1 ⟨rfl, b1⟩
    have kc9 : w1.cell? ⟨w.heap.size, 0, none⟩ = some (.int .i64 hi) := (Keeps.of_below b1) _ _ _ (by simp [go_sem])
    have kf9 : w1.frozen? ⟨w.heap.size, 0, none⟩ = false := (Below.hot b1 (by simp [go_sem])).trans (by simp [go_sem])
    have kc10 : w1.cell? ⟨w.heap.size, 1, none⟩ = some (.int .i64 lo) := (Keeps.of_below b1) _ _ _ (by simp [go_sem])
    have kf10 : w1.frozen? ⟨w.heap.size, 1, none⟩ = false := (Below.hot b1 (by simp [go_sem])).trans (by simp [go_sem])
    go_wp2
    go_ret
    refine ⟨ret_bool (by simp [HW.out]), ?_⟩
    have BB := below_join b0 b1
    have zB := BB.size
    repeat (first | with_reducible exact BB | with_reducible exact b1 | with_reducible refine Below.alloc ?_ (by first | exact Nat.le_refl _ | omega | (simp; done) | (simp; omega)) _ | with_reducible refine Below.setCell ?_ (by first | exact Nat.le_refl _ | (simp; done) | (simp; omega)) _)
  · have HW := Lib.hid (show flowW hi lo n b = b by simp [flowW, h1, h2])
    have h2d : decide (n ≤ lo) = false := by simpa using h2
    clear h1 h2
    go_enter Try.func57, Try.ntmps57
    go_wp2_with fail
    refine (specFlowValid_any hi lo _).mono ?_
    rintro e w1 ⟨rfl, b1⟩
    have kc11 : w1.cell? ⟨w.heap.size, 0, none⟩ = some (.int .i64 hi) := (Keeps.of_below b1) _ _ _ (by simp [go_sem])
    have kf11 : w1.frozen? ⟨w.heap.size, 0, none⟩ = false := (Below.hot b1 (by simp [go_sem])).trans (by simp [go_sem])
    have kc12 : w1.cell? ⟨w.heap.size, 1, none⟩ = some (.int .i64 lo) := (Keeps.of_below b1) _ _ _ (by simp [go_sem])
    have kf12 : w1.frozen? ⟨w.heap.size, 1, none⟩ = false := (Below.hot b1 (by simp [go_sem])).trans (by simp [go_sem])
    go_wp2
    go_ret
    refine ⟨ret_bool (by simp [HW.out]), ?_⟩
    have BB := below_join b0 b1
    have zB := BB.size
    repeat (first | with_reducible exact BB | with_reducible exact b1 | with_reducible refine Below.alloc ?_ (by first | exact Nat.le_refl _ | omega | (simp; done) | (simp; omega)) _ | with_reducible refine Below.setCell ?_ (by first | exact Nat.le_refl _ | (simp; done) | (simp; omega)) _)
end Go.Proofs.Ytkmampichfbppaa
