/- The format of a control byte. -/
import Derived.Test.YtkmampichfbppaaDoorIs
namespace Go.Proofs.YtkmampichfbppaaDoor
open Go.RowKit

structure FmR where
  b : Int
  p : Int
  s : Int
  ok : Bool
def fmtOk (b : Int) : Bool := inB b 0 31 && !decide (b / 8 = 2)
def fmtP (b : Int) : Int := if b / 8 = 0 then 0 else if b / 8 = 1 then 1 else 2
def fmtR (b : Int) : FmR := if fmtOk b then ⟨5 + b % 4, fmtP b, 1 + b / 4 % 2, true⟩ else ⟨0, 0, 0, false⟩
theorem fmtR_no {b : Int} (h : fmtOk b = false) : fmtR b = ⟨0, 0, 0, false⟩ := by simp [fmtR, h]
theorem fmtOk_out {b : Int} (h : inB b 0 31 = false) : fmtOk b = false := by simp [fmtOk, h]
theorem fmt_yes_cases {b : Int} (h : fmtOk b = true) : b = 0 ∨ b = 1 ∨ b = 2 ∨ b = 3 ∨ b = 4 ∨ b = 5 ∨ b = 6 ∨ b = 7 ∨ b = 8 ∨ b = 9 ∨ b = 10 ∨ b = 11 ∨ b = 12 ∨ b = 13 ∨ b = 14 ∨ b = 15 ∨ b = 24 ∨ b = 25 ∨ b = 26 ∨ b = 27 ∨ b = 28 ∨ b = 29 ∨ b = 30 ∨ b = 31 := by
  simp only [fmtOk, inB, Bool.and_eq_true, decide_eq_true_eq, Bool.not_eq_true', decide_eq_false_iff_not] at h
  omega
theorem fmt_no_cases {b : Int} (h : fmtOk b = false) : b < 0 ∨ 31 < b ∨ b = 16 ∨ b = 17 ∨ b = 18 ∨ b = 19 ∨ b = 20 ∨ b = 21 ∨ b = 22 ∨ b = 23 := by
  simp only [fmtOk, inB, Bool.and_eq_false_iff, decide_eq_false_iff_not, Bool.not_eq_false', decide_eq_true_eq] at h
  omega
set_option maxHeartbeats 4000000 in
theorem formatFrom_no (b : Int) (a : Addr) (w : World) (hE : Sent w a) (h : fmtOk b = false) :
    Calls Tryd.prog 37 #[.int .i64 b] w fun e w' => e = .returned (.tuple #[.agg #[.int .i64 0, .int .i64 0, .int .i64 0], .iface 118 (.pointer (some a))]) ∧ Below w.heap.size w w' := by
  have hlt := hE.lt
  unfold Sent at hE
  rcases fmt_no_cases h with h0 | h0 | rfl | rfl | rfl | rfl | rfl | rfl | rfl | rfl
  · go_enter Tryd.func37, Tryd.ntmps37
    go_wp2_with fail
    go_region_held3 (fun v => v.cell? ⟨0, 0, none⟩ = some (.iface 118 (.pointer (some a)))) (go_keep) ((fail))
    go_wp2
    refine bodyPost_ret (v := .tuple #[.agg #[.int .i64 0, .int .i64 0, .int .i64 0], .iface 118 (.pointer (some a))]) (by simp [results, Tryd.results37, go_sem]) rfl ?_
    refine ⟨rfl, ?_⟩
    repeat (first | with_reducible exact Below.refl _ _ | with_reducible refine Below.drew ?_ | with_reducible refine Below.alloc ?_ (by first | exact Nat.le_refl _ | omega | (simp; done) | (simp; omega)) _ | with_reducible refine Below.setCell ?_ (by first | exact Nat.le_refl _ | omega | (simp; done) | (simp; omega)) _)
  · have h1 : decide (b < 0) = false := decide_eq_false (by omega)
    go_enter Tryd.func37, Tryd.ntmps37
    go_wp2_with fail
    go_region_held3 (fun v => v.cell? ⟨0, 0, none⟩ = some (.iface 118 (.pointer (some a)))) (go_keep) ((fail))
    go_wp2
    refine bodyPost_ret (v := .tuple #[.agg #[.int .i64 0, .int .i64 0, .int .i64 0], .iface 118 (.pointer (some a))]) (by simp [results, Tryd.results37, go_sem]) rfl ?_
    refine ⟨rfl, ?_⟩
    repeat (first | with_reducible exact Below.refl _ _ | with_reducible refine Below.drew ?_ | with_reducible refine Below.alloc ?_ (by first | exact Nat.le_refl _ | omega | (simp; done) | (simp; omega)) _ | with_reducible refine Below.setCell ?_ (by first | exact Nat.le_refl _ | omega | (simp; done) | (simp; omega)) _)
  all_goals
    go_enter Tryd.func37, Tryd.ntmps37
    go_wp2_with fail
    go_region_held3 (fun v => v.cell? ⟨0, 0, none⟩ = some (.iface 118 (.pointer (some a)))) (go_keep) ((fail))
    go_wp2
    refine bodyPost_ret (v := .tuple #[.agg #[.int .i64 0, .int .i64 0, .int .i64 0], .iface 118 (.pointer (some a))]) (by simp [results, Tryd.results37, go_sem]) rfl ?_
    refine ⟨rfl, ?_⟩
    repeat (first | with_reducible exact Below.refl _ _ | with_reducible refine Below.drew ?_ | with_reducible refine Below.alloc ?_ (by first | exact Nat.le_refl _ | omega | (simp; done) | (simp; omega)) _ | with_reducible refine Below.setCell ?_ (by first | exact Nat.le_refl _ | omega | (simp; done) | (simp; omega)) _)
set_option maxHeartbeats 4000000 in
theorem formatFrom_yes (b : Int) (w : World) (h : fmtOk b = true) :
    Calls Tryd.prog 37 #[.int .i64 b] w fun e w' => e = .returned (.tuple #[.agg #[.int .i64 (5 + b % 4), .int .i64 (fmtP b), .int .i64 (1 + b / 4 % 2)], .nilIface]) ∧ Below w.heap.size w w' := by
  rcases fmt_yes_cases h with rfl | rfl | rfl | rfl | rfl | rfl | rfl | rfl | rfl | rfl | rfl | rfl | rfl | rfl | rfl | rfl | rfl | rfl | rfl | rfl | rfl | rfl | rfl | rfl
  all_goals
    clear h
    go_enter Tryd.func37, Tryd.ntmps37
    go_wp2
    refine bodyPost_ret (by simp [results, Tryd.results37, go_sem]; rfl) rfl ?_
    refine ⟨by kernel_rfl, ?_⟩
    repeat (first | with_reducible exact Below.refl _ _ | with_reducible refine Below.drew ?_ | with_reducible refine Below.alloc ?_ (by first | exact Nat.le_refl _ | omega | (simp; done) | (simp; omega)) _ | with_reducible refine Below.setCell ?_ (by first | exact Nat.le_refl _ | omega | (simp; done) | (simp; omega)) _)
theorem fmtR_yes {b : Int} (h : fmtOk b = true) : fmtR b = ⟨5 + b % 4, fmtP b, 1 + b / 4 % 2, true⟩ := by simp [fmtR, h]
set_option maxHeartbeats 4000000 in
theorem specFormatOf_any (b : Int) (w : World) :
    Calls Tryd.prog 22 #[.int .i64 b] w fun e w' => e = .returned (.tuple #[.agg #[.int .i64 (fmtR b).b, .int .i64 (fmtR b).p, .int .i64 (fmtR b).s], .bool (fmtR b).ok]) ∧ Below w.heap.size w w' := by
  cases h0 : inB b 0 31
  · rw [fmtR_no (fmtOk_out h0)]
    go_enter Tryd.func22, Tryd.ntmps22
    go_wp2_with fail
    refine (l6In_any b 0 31 _).mono ?_
    rintro e w1 ⟨rfl, rfl⟩
    go_wp2
    refine bodyPost_ret (v := .tuple #[.agg #[.int .i64 0, .int .i64 0, .int .i64 0], .bool false]) (by simp [results, Tryd.results22, go_sem]) rfl ?_
    refine ⟨rfl, ?_⟩
    repeat (first | with_reducible exact Below.refl _ _ | with_reducible refine Below.drew ?_ | with_reducible refine Below.alloc ?_ (by first | exact Nat.le_refl _ | omega | (simp; done) | (simp; omega)) _ | with_reducible refine Below.setCell ?_ (by first | exact Nat.le_refl _ | omega | (simp; done) | (simp; omega)) _)
  cases h : fmtOk b
  · rw [fmtR_no h]
    have hb := h0
    rcases fmt_no_cases h with h1 | h1 | rfl | rfl | rfl | rfl | rfl | rfl | rfl | rfl
    · simp [inB] at h0; omega
    · simp [inB] at h0; omega
    all_goals
      clear h
      go_enter Tryd.func22, Tryd.ntmps22
      go_wp2_with fail
      refine (l6In_any _ 0 31 _).mono ?_
      rintro e w1 ⟨rfl, rfl⟩
      go_wp2
      refine bodyPost_ret (v := .tuple #[.agg #[.int .i64 0, .int .i64 0, .int .i64 0], .bool false]) (by simp [results, Tryd.results22, go_sem]) rfl ?_
      refine ⟨rfl, ?_⟩
      repeat (first | with_reducible exact Below.refl _ _ | with_reducible refine Below.drew ?_ | with_reducible refine Below.alloc ?_ (by first | exact Nat.le_refl _ | omega | (simp; done) | (simp; omega)) _ | with_reducible refine Below.setCell ?_ (by first | exact Nat.le_refl _ | omega | (simp; done) | (simp; omega)) _)
  · rcases fmt_yes_cases h with rfl | rfl | rfl | rfl | rfl | rfl | rfl | rfl | rfl | rfl | rfl | rfl | rfl | rfl | rfl | rfl | rfl | rfl | rfl | rfl | rfl | rfl | rfl | rfl
    all_goals
      clear h
      go_enter Tryd.func22, Tryd.ntmps22
      go_wp2_with fail
      refine (l6In_any _ 0 31 _).mono ?_
      rintro e w1 ⟨rfl, rfl⟩
      go_wp2
      refine bodyPost_ret (by simp [results, Tryd.results22, go_sem]; rfl) rfl ?_
      refine ⟨by kernel_rfl, ?_⟩
      repeat (first | with_reducible exact Below.refl _ _ | with_reducible refine Below.drew ?_ | with_reducible refine Below.alloc ?_ (by first | exact Nat.le_refl _ | omega | (simp; done) | (simp; omega)) _ | with_reducible refine Below.setCell ?_ (by first | exact Nat.le_refl _ | omega | (simp; done) | (simp; omega)) _)
end Go.Proofs.YtkmampichfbppaaDoor
