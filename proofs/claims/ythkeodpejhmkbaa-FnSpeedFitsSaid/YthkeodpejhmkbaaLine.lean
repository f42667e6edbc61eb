/- Lines: the reference's functions on formats and frames. -/
import Derived.Test.YthkeodpejhmkbaaFS
import Derived.Deep.CutRange
namespace Go.Proofs.Ythkeodpejhmkbaa
open Go.RowKit

theorem l1Power_any (n : Nat) (w : World) (hn : n ≤ 9) : Calls Try.prog 42 #[.int .i64 n] w fun e w' => e = .returned (.int .i64 ((2 ^ n : Nat) : Int)) ∧ w = w' := by
  go_enter Try.func42, Try.ntmps42
  go_wp2
  go_loopw [3, 4] (fun v i wr => ∃ k q : Nat, k ≤ n ∧ i = .int .i64 k ∧ v = .int .i64 q ∧ q = 2 ^ k ∧ wr = w) (fun _ i _ => n - (intOf i).toNat)
  case atStart => exact ⟨0, 1, Nat.zero_le _, rfl, rfl, rfl, rfl⟩
  case round =>
    obtain ⟨k, q, hk, rfl, rfl, hq, rfl⟩ := hrel
    have hq9 : q ≤ 512 := by rw [hq]; exact Nat.pow_le_pow_right (by omega) (show k ≤ 9 by omega)
    have HQ := Lib.hid hq
    clear hq
    by_cases hlt : k < n
    · go_wp2
      go_roundw
      case rel => exact ⟨k + 1, 2 * q, by omega, by go_num, by go_num, by rw [HQ.out, Nat.pow_succ]; omega, by first | rfl | trivial⟩
      case measure => simp [intOf]; omega
    · have he : k = n := by omega
      go_wp2
      go_ret
      exact ⟨ret_int (by rw [HQ.out, he]), rfl⟩
theorem pow_bd {n : Nat} (h : n ≤ 9) : 1 ≤ (2 ^ n : Nat) ∧ (2 ^ n : Nat) ≤ 512 := ⟨Nat.one_le_two_pow, Nat.pow_le_pow_right (by omega) h⟩
theorem l91Clamp_any (n : Int) (w : World) : Calls Try.prog 43 #[.int .i64 n] w fun e w' => ∃ m : Nat, e = .returned (.int .i64 m) ∧ 5 ≤ m ∧ m ≤ 7 ∧ w = w' := by
  by_cases h1 : n ≤ 5
  · have h2 : n ≤ 7 := by omega
    go_enter Try.func43, Try.ntmps43
    go_wp2
    all_goals
      go_ret
      first
        | exact ⟨5, rfl, by omega, by omega, rfl⟩
        | exact ⟨n.toNat, ret_int (by omega), by omega, by omega, rfl⟩
  by_cases h2 : n ≤ 7
  · have h3 : 5 ≤ n := by omega
    go_enter Try.func43, Try.ntmps43
    go_wp2
    all_goals
      go_ret
      exact ⟨n.toNat, ret_int (by omega), by omega, by omega, rfl⟩
  · have h3 : 7 ≤ n := by omega
    go_enter Try.func43, Try.ntmps43
    go_wp2
    all_goals
      go_ret
      first
        | exact ⟨7, rfl, by omega, by omega, rfl⟩
        | exact ⟨n.toNat, ret_int (by omega), by omega, by omega, rfl⟩
def fmtB (b p s : Int) : Bool := inB b 5 8 && (inB p 0 2 && inB s 1 2)
theorem fmtB_facts {b p s : Int} (h : fmtB b p s = true) : (5 ≤ b ∧ b ≤ 8) ∧ (0 ≤ p ∧ p ≤ 2) ∧ 1 ≤ s ∧ s ≤ 2 := by
  simp [fmtB, inB] at h
  omega
theorem formatValid_any (b p s : Int) (w : World) : Calls Try.prog 39 #[.agg #[.int .i64 b, .int .i64 p, .int .i64 s]] w fun e w' => e = .returned (.bool (fmtB b p s)) ∧ Below w.heap.size w w' := by
  have b0 : Below w.heap.size w (w.alloc (.cells #[.int .i64 b, .int .i64 p, .int .i64 s] 40)) := (Below.refl _ _).alloc (Nat.le_refl _) _
  cases h1 : inB b 5 8
  · go_enter Try.func39, Try.ntmps39
    go_wp2_with fail
    refine (l6In_any b 5 8 _).mono ?_
    rintro e w1 ⟨rfl, rfl⟩
    go_wp2
    go_ret
    exact ⟨ret_bool (by simp [fmtB, h1]), b0⟩
  cases h2 : inB p 0 2
  · go_enter Try.func39, Try.ntmps39
    go_wp2_with fail
    refine (l6In_any b 5 8 _).mono ?_
    rintro e w1 ⟨rfl, rfl⟩
    go_wp2_with fail
    refine (l6In_any p 0 2 _).mono ?_
    rintro e w1 ⟨rfl, rfl⟩
    go_wp2
    go_ret
    exact ⟨ret_bool (by simp [fmtB, h2]), b0⟩
  · go_enter Try.func39, Try.ntmps39
    go_wp2_with fail
    refine (l6In_any b 5 8 _).mono ?_
    rintro e w1 ⟨rfl, rfl⟩
    go_wp2_with fail
    refine (l6In_any p 0 2 _).mono ?_
    rintro e w1 ⟨rfl, rfl⟩
    go_wp2_with fail
    refine (l6In_any s 1 2 _).mono ?_
    rintro e w1 ⟨rfl, rfl⟩
    go_wp2
    go_ret
    exact ⟨ret_bool (by simp [fmtB, h1, h2]), b0⟩
theorem l1Byte_any (b : Nat) (p s x : Int) (w : World) (hb : b ≤ 8) : Calls Try.prog 40 #[.agg #[.int .i64 (b : Int), .int .i64 p, .int .i64 s], .int .i64 x] w fun e w' => e = .returned (.bool (inB x 0 (((2 ^ b : Nat) : Int) - 1))) ∧ Below w.heap.size w w' := by
  have b0 : Below w.heap.size w (w.alloc (.cells #[.int .i64 (b : Int), .int .i64 p, .int .i64 s] 40)) := (Below.refl _ _).alloc (Nat.le_refl _) _
  have hq := pow_bd (show b ≤ 9 by omega)
  have HP := Lib.hid (fun v => l1Power_any b v (by omega))
  generalize (2 ^ b : Nat) = q at *
  have hq0 := hq.1
  have hq1 := hq.2
  clear hq
  go_enter Try.func40, Try.ntmps40
  go_wp2_with fail
  refine (HP.out _).mono ?_
  rintro e w1 ⟨rfl, rfl⟩
  go_wp2_with fail
  refine (l6In_any x 0 _ _).mono ?_
  rintro e w1 ⟨rfl, rfl⟩
  go_wp2
  go_ret
  exact ⟨rfl, b0⟩
theorem l1Parity_any (b p s x : Int) (w : World) (hx0 : 0 ≤ x) (hx1 : x ≤ 255) : Calls Try.prog 44 #[.agg #[.int .i64 b, .int .i64 p, .int .i64 s], .int .i64 x] w fun e w' => ∃ q : Int, e = .returned (.int .i64 q) ∧ 0 ≤ q ∧ q ≤ 1 ∧ Below w.heap.size w w' := by
  have b0 : Below w.heap.size w (w.alloc (.cells #[.int .i64 b, .int .i64 p, .int .i64 s] 40)) := (Below.refl _ _).alloc (Nat.le_refl _) _
  have H := heap_new_at w (.cells #[.int .i64 b, .int .i64 p, .int .i64 s] 40) _ rfl
  go_enter Try.func44, Try.ntmps44
  go_wp2_with fail
  refine name_wp fun W hW => ?_
  rw [← hW] at b0 H
  clear hW
  obtain ⟨_, c1, _, _, _, _⟩ := three_cells H
  go_loopw [1, 5] (fun v n wr => ∃ y k : Int, v = .int .i64 y ∧ n = .int .i64 k ∧ 0 ≤ y ∧ 0 ≤ k ∧ k + y ≤ 255 ∧ wr = W) (fun v _ _ => (intOf v).toNat)
  case atStart => exact ⟨x, 0, rfl, rfl, hx0, by omega, by omega, rfl⟩
  case round =>
    obtain ⟨y, k, rfl, rfl, y0, k0, hs, rfl⟩ := hrel
    by_cases hy : 0 < y
    · have hm0 : 0 ≤ y % 2 := by omega
      have hm1 : y % 2 ≤ 1 := by omega
      have hd0 : 0 ≤ y / 2 := by omega
      have hd1 : y / 2 < y := by omega
      have hd2 : y % 2 + y / 2 ≤ y := by omega
      go_wp2
      go_roundw
      case rel => exact ⟨y / 2, k + y % 2, by go_num, by go_num, by omega, by omega, by omega, by first | rfl | trivial⟩
      case measure => simp [intOf]; omega
    · have hy' : y ≤ 0 := by omega
      by_cases hp : p = 1
      · subst hp
        go_wp2
        go_ret
        exact ⟨(k + 1) % 2, ret_int (by omega), by omega, by omega, b0⟩
      · have hpb : (p == 1) = false := by simpa using hp
        clear hp
        go_wp2
        go_ret
        exact ⟨k % 2, ret_int (by omega), by omega, by omega, b0⟩
end Go.Proofs.Ythkeodpejhmkbaa
