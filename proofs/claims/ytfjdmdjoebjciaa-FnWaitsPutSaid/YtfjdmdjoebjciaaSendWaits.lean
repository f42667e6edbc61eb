/- Senders: for how many ticks there are bytes: both functions; facts for the laws. -/
import Derived.Test.YtfjdmdjoebjciaaSend6
import Derived.Test.YtfjdmdjoebjciaaSendDraw
import Derived.Test.YtfjdmdjoebjciaaSaidB
namespace Go.Proofs.Ytfjdmdjoebjciaa
open Go.RowKit

theorem fifoB_snoc {r : Int} {xs : List Int} {x : Int} (h : fifoB r xs = true) (hb : byteB x = true) (hl : (xs.length : Int) < r) : fifoB r (xs ++ [x]) = true := by
  have hf := fifoB_facts h
  simp only [fifoB, Bool.and_eq_true, decide_eq_true_eq]
  refine ⟨hf.1, ?_, ?_⟩
  · rw [List.length_append]; simp; omega
  · have h2 := hf.2.2
    simp only [bytesB, List.all_append, Bool.and_eq_true] at h2 ⊢
    exact ⟨h2, by simp [hb]⟩
def moreN (h : Int) (n : Nat) : Int := if h = -1 ∧ 0 < n then 1 else 0
def waitsN (r : Int) (xs : List Int) (h l : Int) : Int := if sendVB r xs h l then l + 3 * xs.length + moreN h xs.length else -1
theorem sendVB_facts {r h l : Int} {xs : List Int} (e : sendVB r xs h l = true) : fifoB r xs = true ∧ (xs.length : Int) ≤ 16 ∧ 0 ≤ l ∧ l ≤ 3 ∧ ((h = -1 ∧ l = 0) ∨ (h ≠ -1 ∧ 1 ≤ l)) := by
  simp only [sendVB, Bool.and_eq_true] at e
  have hf := fifoB_facts e.1
  refine ⟨e.1, by omega, ?_⟩
  by_cases hh : h = -1
  · subst hh
    have := e.2
    rw [tailB_none] at this
    simp at this
    omega
  · have := e.2
    rw [tailB_some hh] at this
    simp at this
    omega
theorem sendVB_snoc {r h l x : Int} {xs : List Int} (e : sendVB r xs h l = true) (hb : byteB x = true) (hl : (xs.length : Int) < r) : sendVB r (xs ++ [x]) h l = true := by
  simp only [sendVB, Bool.and_eq_true] at e ⊢
  exact ⟨fifoB_snoc e.1 hb hl, e.2⟩
theorem implSendWaits_any (r : Int) (ao : Option Addr) (xs : List Int) (c : Nat) (h l : Int) (w : World) (hx : Ints w ao xs) (lx : xs.length ≤ 1048576) :
    Calls Try.prog 33 #[.agg #[.int .i64 r, .slice ao xs.length c, .int .i64 h, .int .i64 l]] w fun e w' => e = .returned (.int .i64 (waitsN r xs h l)) ∧ Below w.heap.size w w' := by
  have b0 : Below w.heap.size w (w.alloc (.cells #[.int .i64 r, .slice ao xs.length c, .int .i64 h, .int .i64 l] 47)) := (Below.refl _ _).alloc (Nat.le_refl _) _
  have B0 := Lib.hid b0
  have hx0 := hx.below b0
  clear b0
  cases hv : sendVB r xs h l
  · have HW : Hid (waitsN r xs h l = -1) := Lib.hid (by simp [waitsN, hv])
    rw [HW.out]
    go_enter Try.func33, Try.ntmps33
    go_wp2_with fail
    refine (implSendValid_any r ao xs c h l _ hx0 (by omega)).mono ?_
    rintro e w1 ⟨rfl, b1⟩
    go_wp2
    go_ret
    exact ⟨rfl, below_join B0.out b1⟩
  have HW : Hid (waitsN r xs h l = l + 3 * xs.length + moreN h xs.length) := Lib.hid (by simp [waitsN, hv])
  rw [HW.out]
  obtain ⟨_, hx16, l0, l3, _⟩ := sendVB_facts hv
  by_cases hh : h = -1
  · subst hh
    by_cases hn : (0 : Int) < (xs.length : Int)
    · have HM : Hid (moreN (-1) xs.length = 1) := Lib.hid (by unfold moreN; rw [if_pos ⟨rfl, by omega⟩])
      rw [HM.out]
      go_enter Try.func33, Try.ntmps33
      go_wp2_with fail
      refine (implSendValid_any r ao xs c (-1) l _ hx0 (by omega)).mono ?_
      rintro e w1 ⟨rfl, b1⟩
      obtain ⟨c0, c1, c2, c3⟩ := cells4 ((b1.block _ (by simp)).trans (heap_new_at w (.cells #[.int .i64 r, .slice ao xs.length c, .int .i64 (-1), .int .i64 l] 47) _ rfl))
      go_wp2
      go_ret
      exact ⟨ret_int (by omega), below_join B0.out b1⟩
    · have HM : Hid (moreN (-1) xs.length = 0) := Lib.hid (by unfold moreN; rw [if_neg (by omega)])
      have hn' : (xs.length : Int) ≤ 0 := by omega
      rw [HM.out]
      go_enter Try.func33, Try.ntmps33
      go_wp2_with fail
      refine (implSendValid_any r ao xs c (-1) l _ hx0 (by omega)).mono ?_
      rintro e w1 ⟨rfl, b1⟩
      obtain ⟨c0, c1, c2, c3⟩ := cells4 ((b1.block _ (by simp)).trans (heap_new_at w (.cells #[.int .i64 r, .slice ao xs.length c, .int .i64 (-1), .int .i64 l] 47) _ rfl))
      go_wp2
      go_ret
      exact ⟨ret_int (by omega), below_join B0.out b1⟩
  · have HM : Hid (moreN h xs.length = 0) := Lib.hid (by simp [moreN, hh])
    have hhb : (h == -1) = false := by simpa using hh
    rw [HM.out]
    clear hh
    go_enter Try.func33, Try.ntmps33
    go_wp2_with fail
    refine (implSendValid_any r ao xs c h l _ hx0 (by omega)).mono ?_
    rintro e w1 ⟨rfl, b1⟩
    obtain ⟨c0, c1, c2, c3⟩ := cells4 ((b1.block _ (by simp)).trans (heap_new_at w (.cells #[.int .i64 r, .slice ao xs.length c, .int .i64 h, .int .i64 l] 47) _ rfl))
    go_wp2
    go_ret
    exact ⟨ret_int (by omega), below_join B0.out b1⟩
theorem specSendWaits_any (r : Int) (ao : Option Addr) (xs : List Int) (c : Nat) (h l : Int) (w : World) (hx : Ints w ao xs) (lx : xs.length ≤ 1048576) :
    Calls Try.prog 34 #[.agg #[.int .i64 r, .slice ao xs.length c, .int .i64 h, .int .i64 l]] w fun e w' => e = .returned (.int .i64 (waitsN r xs h l)) ∧ Below w.heap.size w w' := by
  have b0 : Below w.heap.size w (w.alloc (.cells #[.int .i64 r, .slice ao xs.length c, .int .i64 h, .int .i64 l] 47)) := (Below.refl _ _).alloc (Nat.le_refl _) _
  have B0 := Lib.hid b0
  have hx0 := hx.below b0
  clear b0
  cases hv : sendVB r xs h l
  · have HW : Hid (waitsN r xs h l = -1) := Lib.hid (by simp [waitsN, hv])
    rw [HW.out]
    go_enter Try.func34, Try.ntmps34
    go_wp2_with fail
    refine (specSendValid_any r ao xs c h l _ hx0 (by omega)).mono ?_
    rintro e w1 ⟨rfl, b1⟩
    go_wp2
    go_ret
    exact ⟨rfl, below_join B0.out b1⟩
  have HW : Hid (waitsN r xs h l = l + 3 * xs.length + moreN h xs.length) := Lib.hid (by simp [waitsN, hv])
  rw [HW.out]
  obtain ⟨_, hx16, l0, l3, _⟩ := sendVB_facts hv
  by_cases hh : h = -1
  · subst hh
    by_cases hn : (0 : Int) < (xs.length : Int)
    · have HM : Hid (moreN (-1) xs.length = 1) := Lib.hid (by unfold moreN; rw [if_pos ⟨rfl, by omega⟩])
      rw [HM.out]
      go_enter Try.func34, Try.ntmps34
      go_wp2_with fail
      refine (specSendValid_any r ao xs c (-1) l _ hx0 (by omega)).mono ?_
      rintro e w1 ⟨rfl, b1⟩
      obtain ⟨c0, c1, c2, c3⟩ := cells4 ((b1.block _ (by simp)).trans (heap_new_at w (.cells #[.int .i64 r, .slice ao xs.length c, .int .i64 (-1), .int .i64 l] 47) _ rfl))
      go_wp2
      go_ret
      exact ⟨ret_int (by omega), below_join B0.out b1⟩
    · have HM : Hid (moreN (-1) xs.length = 0) := Lib.hid (by unfold moreN; rw [if_neg (by omega)])
      have hn' : (xs.length : Int) ≤ 0 := by omega
      rw [HM.out]
      go_enter Try.func34, Try.ntmps34
      go_wp2_with fail
      refine (specSendValid_any r ao xs c (-1) l _ hx0 (by omega)).mono ?_
      rintro e w1 ⟨rfl, b1⟩
      obtain ⟨c0, c1, c2, c3⟩ := cells4 ((b1.block _ (by simp)).trans (heap_new_at w (.cells #[.int .i64 r, .slice ao xs.length c, .int .i64 (-1), .int .i64 l] 47) _ rfl))
      go_wp2
      go_ret
      exact ⟨ret_int (by omega), below_join B0.out b1⟩
  · have HM : Hid (moreN h xs.length = 0) := Lib.hid (by simp [moreN, hh])
    have hhb : (h == -1) = false := by simpa using hh
    rw [HM.out]
    clear hh
    go_enter Try.func34, Try.ntmps34
    go_wp2_with fail
    refine (specSendValid_any r ao xs c h l _ hx0 (by omega)).mono ?_
    rintro e w1 ⟨rfl, b1⟩
    obtain ⟨c0, c1, c2, c3⟩ := cells4 ((b1.block _ (by simp)).trans (heap_new_at w (.cells #[.int .i64 r, .slice ao xs.length c, .int .i64 h, .int .i64 l] 47) _ rfl))
    go_wp2
    go_ret
    exact ⟨ret_int (by omega), below_join B0.out b1⟩
theorem waits_more {r h l x : Int} {xs : List Int} (e : sendVB r xs h l = true) (hb : byteB x = true) (hl : (xs.length : Int) < r) :
    waitsN r (xs ++ [x]) h l = if waitsN r xs h l = 0 then 4 else waitsN r xs h l + 3 := by
  have h2 := sendVB_snoc e hb hl
  obtain ⟨_, _, l0, l3, hc⟩ := sendVB_facts e
  simp only [waitsN, e, h2, if_true, List.length_append, List.length_cons, List.length_nil, moreN]
  rcases hc with ⟨rfl, rfl⟩ | ⟨h1, h3⟩
  · by_cases hn : 0 < xs.length
    · simp [hn]; omega
    · have : xs.length = 0 := by omega
      simp [this]
  · simp [h1]; omega
theorem waits_nonneg {r h l : Int} {xs : List Int} (e : sendVB r xs h l = true) : 0 ≤ waitsN r xs h l ∧ waitsN r xs h l ≤ 100 := by
  obtain ⟨_, _, l0, l3, hc⟩ := sendVB_facts e
  have : 0 ≤ moreN h xs.length ∧ moreN h xs.length ≤ 1 := by unfold moreN; split <;> omega
  simp only [waitsN, e, if_true]
  omega
end Go.Proofs.Ytfjdmdjoebjciaa
