/- One who sends packets in turn: validity, copies, comparison. -/
import Derived.Test.YtjamcfnclnpdkaaBytes
namespace Go.Proofs.Ytjamcfnclnpdkaa
open Go.RowKit

def turnB (n : Int) : Bool := decide (n = 0 ∨ n = 1)
def bodyB (xs : List Int) : Bool := decide (1 ≤ xs.length ∧ xs.length ≤ 17) && bytesB xs
/-- Next, Tries, Body. -/
def talkB (n tr : Int) (xs : List Int) : Bool := turnB n && (decide (0 ≤ tr ∧ tr ≤ 5) && (if tr = 0 then decide (xs.length = 0) else bodyB xs))

theorem isTurn_any (n : Int) (w : World) : Calls Try.prog 44 #[.int .i64 n] w fun e w' => e = .returned (.bool (turnB n)) ∧ w = w' := by
  by_cases h0 : n = 0
  · subst h0
    go_enter Try.func44, Try.ntmps44
    go_wp2
    go_ret
    exact ⟨rfl, rfl⟩
  by_cases h1 : n = 1
  · subst h1
    go_enter Try.func44, Try.ntmps44
    go_wp2
    go_ret
    exact ⟨rfl, rfl⟩
  · have hb0 : (n == 0) = false := by simpa using h0
    have hb1 : (n == 1) = false := by simpa using h1
    have HT : Hid (turnB n = false) := Lib.hid (by simp [turnB, h0, h1])
    clear h0 h1
    go_enter Try.func44, Try.ntmps44
    go_wp2
    go_ret
    exact ⟨ret_bool HT.out.symm, rfl⟩

theorem bodyValid_any (ao : Option Addr) (xs : List Int) (c : Nat) (w : World) (hx : Ints w ao xs) (lx : xs.length ≤ 4611686018427387904) :
    Calls Try.prog 45 #[.slice ao xs.length c] w fun e w' => e = .returned (.bool (bodyB xs)) ∧ Below w.heap.size w w' := by
  by_cases h0 : (1 : Int) ≤ (xs.length : Int)
  case neg =>
    obtain rfl : xs = [] := List.eq_nil_of_length_eq_zero (by omega)
    have HB : Hid (bodyB [] = false) := Lib.hid rfl
    clear h0
    go_enter Try.func45, Try.ntmps45
    go_wp2
    go_ret
    exact ⟨ret_bool HB.out.symm, Below.refl _ _⟩
  by_cases h1 : (xs.length : Int) ≤ 17
  case neg =>
    have HB : Hid (bodyB xs = false) := Lib.hid (by simp [bodyB]; intro h; omega)
    have hd : (17 : Int) < (xs.length : Int) := by omega
    clear h1
    go_enter Try.func45, Try.ntmps45
    go_wp2
    go_ret
    exact ⟨ret_bool HB.out.symm, Below.refl _ _⟩
  have HB : Hid (bodyB xs = bytesB xs) := Lib.hid (by unfold bodyB; rw [decide_eq_true (by omega)]; rfl)
  go_enter Try.func45, Try.ntmps45
  go_wp2_with fail
  refine (allBytes_any ao xs c w hx lx).mono ?_
  rintro e w1 ⟨rfl, hb⟩
  go_wp2
  go_ret
  exact ⟨ret_bool HB.out.symm, hb⟩

theorem talkB_no_turn {n tr : Int} {xs : List Int} (h : turnB n = false) : talkB n tr xs = false := by simp [talkB, h]
theorem talkB_no_tries {n tr : Int} {xs : List Int} (h : ¬ (0 ≤ tr ∧ tr ≤ 5)) : talkB n tr xs = false := by simp [talkB, h]
theorem talkB_zero {n : Int} {xs : List Int} (h : turnB n = true) : talkB n 0 xs = decide (xs.length = 0) := by simp [talkB, h]
theorem talkB_some {n tr : Int} {xs : List Int} (h : turnB n = true) (h1 : 0 < tr) (h2 : tr ≤ 5) : talkB n tr xs = bodyB xs := by
  unfold talkB; rw [h, decide_eq_true (by omega), if_neg (by omega)]; rfl

theorem implTalkValid_any (n tr : Int) (ao : Option Addr) (xs : List Int) (c : Nat) (w : World) (hx : Ints w ao xs) (lx : xs.length ≤ 4611686018427387904) :
    Calls Try.prog 16 #[.agg #[.int .i64 n, .int .i64 tr, .slice ao xs.length c]] w fun e w' => e = .returned (.bool (talkB n tr xs)) ∧ Below w.heap.size w w' := by
  have b0 : Below w.heap.size w (w.alloc (.cells #[.int .i64 n, .int .i64 tr, .slice ao xs.length c] 25)) := (Below.refl _ _).alloc (Nat.le_refl _) _
  have B0 := Lib.hid b0
  have hx0 := hx.below b0
  clear b0
  cases ht : turnB n
  · have HT := Lib.hid (talkB_no_turn (tr := tr) (xs := xs) ht)
    go_enter Try.func16, Try.ntmps16
    go_wp2_with fail
    refine (isTurn_any n _).mono ?_
    rintro e w1 ⟨rfl, rfl⟩
    go_wp2
    go_ret
    exact ⟨ret_bool HT.out.symm, B0.out⟩
  by_cases h1 : tr < 0
  · have HT := Lib.hid (talkB_no_tries (n := n) (tr := tr) (xs := xs) (by omega))
    go_enter Try.func16, Try.ntmps16
    go_wp2_with fail
    refine (isTurn_any n _).mono ?_
    rintro e w1 ⟨rfl, rfl⟩
    go_wp2
    go_ret
    exact ⟨ret_bool HT.out.symm, B0.out⟩
  by_cases h2 : 5 < tr
  · have HT := Lib.hid (talkB_no_tries (n := n) (tr := tr) (xs := xs) (by omega))
    go_enter Try.func16, Try.ntmps16
    go_wp2_with fail
    refine (isTurn_any n _).mono ?_
    rintro e w1 ⟨rfl, rfl⟩
    go_wp2
    go_ret
    exact ⟨ret_bool HT.out.symm, B0.out⟩
  have h1 : 0 ≤ tr := by omega
  have h2 : tr ≤ 5 := by omega
  by_cases h3 : tr = 0
  · subst h3
    have HT := Lib.hid (talkB_zero (n := n) (xs := xs) ht)
    go_enter Try.func16, Try.ntmps16
    go_wp2_with fail
    refine (isTurn_any n _).mono ?_
    rintro e w1 ⟨rfl, rfl⟩
    go_wp2
    go_ret
    refine ⟨ret_bool ?_, B0.out⟩
    rw [HT.out, Bool.eq_iff_iff]
    simp
  · have HT := Lib.hid (talkB_some (n := n) (tr := tr) (xs := xs) ht (by omega) h2)
    have hb3 : (tr == 0) = false := by simpa using h3
    clear h3
    go_enter Try.func16, Try.ntmps16
    go_wp2_with fail
    refine (isTurn_any n _).mono ?_
    rintro e w1 ⟨rfl, rfl⟩
    go_wp2_with fail
    refine (bodyValid_any ao xs c _ hx0 lx).mono ?_
    rintro e w1 ⟨rfl, hb⟩
    go_wp2
    go_ret
    exact ⟨ret_bool HT.out.symm, below_join B0.out hb⟩

theorem inB_turn (n : Int) : inB n 0 1 = turnB n := by unfold inB turnB; rw [Bool.eq_iff_iff]; simp; omega
theorem bytesB_nil_of {xs : List Int} (h : bytesB xs = false) : 0 < xs.length := by
  cases xs with
  | nil => simp [bytesB] at h
  | cons a l => simp
theorem talkB_no_bytes {n tr : Int} {xs : List Int} (h : bytesB xs = false) : talkB n tr xs = false := by
  have := bytesB_nil_of h
  unfold talkB bodyB
  rw [h]
  split
  · rw [decide_eq_false (show ¬ xs.length = 0 by omega)]; simp
  · simp
theorem talkB_no_len {n tr : Int} {xs : List Int} (h : 17 < xs.length) : talkB n tr xs = false := by
  unfold talkB bodyB
  rw [decide_eq_false (show ¬ (1 ≤ xs.length ∧ xs.length ≤ 17) by omega), decide_eq_false (show ¬ xs.length = 0 by omega)]
  split <;> simp
theorem talkB_rest {n tr : Int} {xs : List Int} (h : turnB n = true) (h0 : 0 ≤ tr) (h1 : tr ≤ 5) (hb : bytesB xs = true) (hl : xs.length ≤ 17) : talkB n tr xs = (decide (0 < tr) == decide (0 < (xs.length : Int))) := by
  by_cases h3 : tr = 0
  · subst h3
    rw [talkB_zero h, Bool.eq_iff_iff]
    simp
  · rw [talkB_some h (by omega) h1]
    unfold bodyB
    rw [hb, Bool.eq_iff_iff]
    simp
    omega

set_option maxHeartbeats 400000 in
theorem specTalkValid_any (n tr : Int) (ao : Option Addr) (xs : List Int) (c : Nat) (w : World) (hx : Ints w ao xs) (lx : xs.length ≤ 4611686018427387904) :
    Calls Try.prog 17 #[.agg #[.int .i64 n, .int .i64 tr, .slice ao xs.length c]] w fun e w' => e = .returned (.bool (talkB n tr xs)) ∧ Below w.heap.size w w' := by
  have b0 : Below w.heap.size w (w.alloc (.cells #[.int .i64 n, .int .i64 tr, .slice ao xs.length c] 25)) := (Below.refl _ _).alloc (Nat.le_refl _) _
  have B0 := Lib.hid b0
  have hx0 := hx.below b0
  clear b0
  cases ht : inB n 0 1
  · have HT := Lib.hid (talkB_no_turn (tr := tr) (xs := xs) ((inB_turn n).symm.trans ht))
    go_enter Try.func17, Try.ntmps17
    go_wp2_with fail
    refine (l6In_any n 0 1 _).mono ?_
    rintro e w1 ⟨rfl, rfl⟩
    go_wp2
    go_ret
    exact ⟨ret_bool HT.out.symm, B0.out⟩
  cases hr : inB tr 0 5
  · have HT := Lib.hid (talkB_no_tries (n := n) (tr := tr) (xs := xs) (by simpa [inB] using hr))
    go_enter Try.func17, Try.ntmps17
    go_wp2_with fail
    refine (l6In_any n 0 1 _).mono ?_
    rintro e w1 ⟨rfl, rfl⟩
    go_wp2_with fail
    refine (l6In_any tr 0 5 _).mono ?_
    rintro e w1 ⟨rfl, rfl⟩
    go_wp2
    go_ret
    exact ⟨ret_bool HT.out.symm, B0.out⟩
  cases hb : bytesB xs
  · have HT := Lib.hid (talkB_no_bytes (n := n) (tr := tr) hb)
    go_enter Try.func17, Try.ntmps17
    go_wp2_with fail
    refine (l6In_any n 0 1 _).mono ?_
    rintro e w1 ⟨rfl, rfl⟩
    go_wp2_with fail
    refine (l6In_any tr 0 5 _).mono ?_
    rintro e w1 ⟨rfl, rfl⟩
    go_wp2_with fail
    refine (l4Bytes_any ao xs c _ hx0 lx).mono ?_
    rintro e w1 ⟨rfl, hb1⟩
    go_wp2
    go_ret
    exact ⟨ret_bool HT.out.symm, below_join B0.out hb1⟩
  by_cases hl : (17 : Int) < (xs.length : Int)
  · have HT := Lib.hid (talkB_no_len (n := n) (tr := tr) (xs := xs) (by omega))
    go_enter Try.func17, Try.ntmps17
    go_wp2_with fail
    refine (l6In_any n 0 1 _).mono ?_
    rintro e w1 ⟨rfl, rfl⟩
    go_wp2_with fail
    refine (l6In_any tr 0 5 _).mono ?_
    rintro e w1 ⟨rfl, rfl⟩
    go_wp2_with fail
    refine (l4Bytes_any ao xs c _ hx0 lx).mono ?_
    rintro e w1 ⟨rfl, hb1⟩
    have k1 : w1.cell? ⟨w.heap.size, 1, none⟩ = some (.int .i64 tr) := (Keeps.of_below hb1) _ _ _ (by simp)
    have k2 : w1.cell? ⟨w.heap.size, 2, none⟩ = some (.slice ao xs.length c) := (Keeps.of_below hb1) _ _ _ (by simp)
    go_wp2
    go_ret
    exact ⟨ret_bool HT.out.symm, below_join B0.out hb1⟩
  · have hr' : 0 ≤ tr ∧ tr ≤ 5 := by simpa [inB] using hr
    have HT := Lib.hid (talkB_rest (n := n) (tr := tr) ((inB_turn n).symm.trans ht) hr'.1 hr'.2 hb (by omega))
    have hl2 : (xs.length : Int) ≤ 17 := by omega
    clear hl hr'
    go_enter Try.func17, Try.ntmps17
    go_wp2_with fail
    refine (l6In_any n 0 1 _).mono ?_
    rintro e w1 ⟨rfl, rfl⟩
    go_wp2_with fail
    refine (l6In_any tr 0 5 _).mono ?_
    rintro e w1 ⟨rfl, rfl⟩
    go_wp2_with fail
    refine (l4Bytes_any ao xs c _ hx0 lx).mono ?_
    rintro e w1 ⟨rfl, hb1⟩
    have k1 : w1.cell? ⟨w.heap.size, 1, none⟩ = some (.int .i64 tr) := (Keeps.of_below hb1) _ _ _ (by simp)
    have k2 : w1.cell? ⟨w.heap.size, 2, none⟩ = some (.slice ao xs.length c) := (Keeps.of_below hb1) _ _ _ (by simp)
    go_wp2
    all_goals
      go_ret
      exact ⟨ret_bool (by rw [HT.out]; first | rfl | (rw [Bool.eq_iff_iff]; simp <;> omega)), below_join B0.out hb1⟩
end Go.Proofs.Ytjamcfnclnpdkaa
