/- Fifo: sizes, copies, comparison, marks. -/
import Derived.Test.YtfjdmdjoebjciaaSz
namespace Go.Proofs.Ytfjdmdjoebjciaa
open Go.RowKit

theorem szFifo_yes (xr : Int) (ao : Option Addr) (m c : Nat) (left : Int) (w : World) (h : (m : Int) ≤ left) (h1 : left ≤ 4611686018427387904) :
    Calls Try.prog 23 #[.agg #[.int .i64 xr, .slice ao m c], .int .i64 left] w fun e w' => e = .returned (.int .i64 (left - m)) ∧ Below w.heap.size w w' := by
  have b0 : Below w.heap.size w (w.alloc (.cells #[.int .i64 xr, .slice ao m c] 38)) := (Below.refl _ _).alloc (Nat.le_refl _) _
  have B0 := Lib.hid b0
  clear b0
  go_enter Try.func23, Try.ntmps23
  go_wp2_with fail
  refine (szIntS_yes ao m c left _ h h1).mono ?_
  rintro e w1 ⟨rfl, rfl⟩
  go_wp2
  go_ret
  exact ⟨rfl, B0.out⟩
theorem szFifo_no (xr : Int) (ao : Option Addr) (m c : Nat) (left : Int) (w : World) (h : left < (m : Int)) (h0 : 0 ≤ left) (hm : m ≤ 9223372036854775807) :
    Calls Try.prog 23 #[.agg #[.int .i64 xr, .slice ao m c], .int .i64 left] w fun e w' => e = .returned (.int .i64 (-1)) ∧ Below w.heap.size w w' := by
  have b0 : Below w.heap.size w (w.alloc (.cells #[.int .i64 xr, .slice ao m c] 38)) := (Below.refl _ _).alloc (Nat.le_refl _) _
  have B0 := Lib.hid b0
  clear b0
  go_enter Try.func23, Try.ntmps23
  go_wp2_with fail
  refine (szIntS_no ao m c left _ h h0 hm).mono ?_
  rintro e w1 ⟨rfl, rfl⟩
  go_wp2
  go_ret
  exact ⟨rfl, B0.out⟩

set_option maxHeartbeats 1000000 in
theorem toFifo_any (xr : Int) (ao : Option Addr) (xs : List Int) (c : Nat) (w : World) (hx : Ints w ao xs) (lx : xs.length ≤ 1048576) :
    Calls Try.prog 24 #[.agg #[.int .i64 xr, .slice ao xs.length c]] w fun e w' => ∃ ao' c', e = .returned (.agg #[.int .i64 xr, .slice ao' xs.length c']) ∧ OwnI w' w.heap.size ao' c' xs ∧ Below w.heap.size w w' := by
  have b0 : Below w.heap.size w (((w.alloc (.cells #[.int .i64 xr, .slice ao xs.length c] 38)).alloc (.cells #[.int .i64 0, .slice none 0 0] 25)).alloc (.cells #[.int .i64 xr, .slice none 0 0] 25)) := (((Below.refl _ _).alloc (Nat.le_refl _) _).alloc (by simp) _).alloc (by simp; omega) _
  have B0 := Lib.hid b0
  have hx0 := hx.below b0
  clear b0
  go_enter Try.func24, Try.ntmps24
  go_wp2_with fail
  refine (toIntS_any ao xs c _ hx0 lx).mono ?_
  rintro e w1 ⟨a1, c1, rfl, o1, b1⟩
  have kc1 : w1.cell? ⟨w.heap.size + 1 + 1, 0, none⟩ = some (.int .i64 xr) := (Keeps.of_below b1) _ _ _ (by simp [go_sem])
  have kf1 : w1.frozen? ⟨w.heap.size + 1 + 1, 0, none⟩ = false := (Below.hot b1 (by simp [go_sem])).trans (by simp [go_sem])
  have kc2 : w1.cell? ⟨w.heap.size + 1 + 1, 1, none⟩ = some (.slice none 0 0) := (Keeps.of_below b1) _ _ _ (by simp [go_sem])
  have kf2 : w1.frozen? ⟨w.heap.size + 1 + 1, 1, none⟩ = false := (Below.hot b1 (by simp [go_sem])).trans (by simp [go_sem])
  have kc3 : w1.cell? ⟨w.heap.size + 1, 0, none⟩ = some (.int .i64 0) := (Keeps.of_below b1) _ _ _ (by simp [go_sem])
  have kf3 : w1.frozen? ⟨w.heap.size + 1, 0, none⟩ = false := (Below.hot b1 (by simp [go_sem])).trans (by simp [go_sem])
  have kc4 : w1.cell? ⟨w.heap.size + 1, 1, none⟩ = some (.slice none 0 0) := (Keeps.of_below b1) _ _ _ (by simp [go_sem])
  have kf4 : w1.frozen? ⟨w.heap.size + 1, 1, none⟩ = false := (Below.hot b1 (by simp [go_sem])).trans (by simp [go_sem])
  have kc5 : w1.cell? ⟨w.heap.size, 0, none⟩ = some (.int .i64 xr) := (Keeps.of_below b1) _ _ _ (by simp [go_sem])
  have kf5 : w1.frozen? ⟨w.heap.size, 0, none⟩ = false := (Below.hot b1 (by simp [go_sem])).trans (by simp [go_sem])
  have kc6 : w1.cell? ⟨w.heap.size, 1, none⟩ = some (.slice ao xs.length c) := (Keeps.of_below b1) _ _ _ (by simp [go_sem])
  have kf6 : w1.frozen? ⟨w.heap.size, 1, none⟩ = false := (Below.hot b1 (by simp [go_sem])).trans (by simp [go_sem])
  go_wp2
  refine bodyPost_ret (v := .agg #[.int .i64 xr, .slice a1 xs.length c1]) (by simp [results, Try.results24, go_sem, *]) rfl ?_
  refine ⟨_, _, rfl, ?_, ?_⟩
  · exact OwnI.base (own_set (own_set (own_set (o1) _ _ (by simp)) _ _ (by simp)) _ _ (by simp)) (by simp; omega)
  · have := below_join B0.out b1
    repeat' (first | exact Below.refl _ _ | exact Nat.le_refl _ | assumption | refine Below.drew ?_ | refine below_drewN ?_ _ | (refine Below.alloc ?_ (by first | exact Nat.le_refl _ | omega | (simp; done) | (simp; omega)) _) | (refine Below.setCell ?_ (by first | exact Nat.le_refl _ | omega | (simp; done) | (simp; omega)) _))

set_option maxHeartbeats 1000000 in
theorem eqFifo_any (xr yr : Int) (ao bo : Option Addr) (xs ys : List Int) (c d : Nat) (w : World) (hx : Ints w ao xs) (hy : Ints w bo ys) (lx : xs.length ≤ 4611686018427387904) (ly : ys.length ≤ 4611686018427387904) :
    Calls Try.prog 25 #[.agg #[.int .i64 xr, .slice ao xs.length c], .agg #[.int .i64 yr, .slice bo ys.length d]] w fun e w' => e = .returned (.bool (decide (xr = yr ∧ xs = ys))) ∧ Below w.heap.size w w' := by
  have b0 : Below w.heap.size w ((w.alloc (.cells #[.int .i64 xr, .slice ao xs.length c] 25)).alloc (.cells #[.int .i64 yr, .slice bo ys.length d] 25)) := ((Below.refl _ _).alloc (Nat.le_refl _) _).alloc (by simp) _
  have B0 := Lib.hid b0
  have hx0 := hx.below b0
  have hy0 := hy.below b0
  clear b0
  by_cases hr : xr = yr
  case neg =>
    have hb : (xr == yr) = false := by simpa using hr
    have HN := Lib.hid hr
    clear hr
    go_enter Try.func25, Try.ntmps25
    go_wp2
    go_ret
    exact ⟨ret_bool (by simp [HN.out]), B0.out⟩
  subst hr
  by_cases hxy : xs = ys
  case neg =>
    have hd : decide (xs = ys) = false := by simpa using hxy
    have HD := Lib.hid hxy
    clear hxy
    go_enter Try.func25, Try.ntmps25
    go_wp2_with fail
    refine (eqIntS_below ao bo xs ys c d _ hx0 hy0 lx ly).mono ?_
    rintro e w1 ⟨rfl, b1⟩
    go_wp2
    go_ret
    exact ⟨ret_bool (by simp [HD.out]), below_join B0.out b1⟩
  subst hxy
  go_enter Try.func25, Try.ntmps25
  go_wp2_with fail
  refine (eqIntS_below ao bo xs xs c d _ hx0 hy0 lx lx).mono ?_
  rintro e w1 ⟨rfl, b1⟩
  go_wp2
  go_ret
  exact ⟨ret_bool (by simp), below_join B0.out b1⟩

set_option maxHeartbeats 1000000 in
theorem sameFifo_any (xr yr : Int) (ao bo : Option Addr) (xs ys : List Int) (c d : Nat) (w : World) (hx : Ints w ao xs) (hy : Ints w bo ys) (lx : xs.length ≤ 4611686018427387904) (ly : ys.length ≤ 4611686018427387904) :
    Calls Try.prog 16 #[.agg #[.int .i64 xr, .slice ao xs.length c], .agg #[.int .i64 yr, .slice bo ys.length d]] w fun e w' => e = .returned (.bool (decide (xr = yr ∧ xs = ys))) ∧ Below w.heap.size w w' := by
  have b0 : Below w.heap.size w ((w.alloc (.cells #[.int .i64 xr, .slice ao xs.length c] 25)).alloc (.cells #[.int .i64 yr, .slice bo ys.length d] 25)) := ((Below.refl _ _).alloc (Nat.le_refl _) _).alloc (by simp) _
  have B0 := Lib.hid b0
  have hx0 := hx.below b0
  have hy0 := hy.below b0
  clear b0
  by_cases hr : xr = yr
  case neg =>
    have hb : (xr == yr) = false := by simpa using hr
    have HN := Lib.hid hr
    clear hr
    go_enter Try.func16, Try.ntmps16
    go_wp2
    go_ret
    exact ⟨ret_bool (by simp [HN.out]), B0.out⟩
  subst hr
  by_cases hxy : xs = ys
  case neg =>
    have hd : decide (xs = ys) = false := by simpa using hxy
    have HD := Lib.hid hxy
    clear hxy
    go_enter Try.func16, Try.ntmps16
    go_wp2_with fail
    refine (sameInts_below ao bo xs ys c d _ hx0 hy0 lx ly).mono ?_
    rintro e w1 ⟨rfl, b1⟩
    go_wp2
    go_ret
    exact ⟨ret_bool (by simp [HD.out]), below_join B0.out b1⟩
  subst hxy
  go_enter Try.func16, Try.ntmps16
  go_wp2_with fail
  refine (sameInts_below ao bo xs xs c d _ hx0 hy0 lx lx).mono ?_
  rintro e w1 ⟨rfl, b1⟩
  go_wp2
  go_ret
  exact ⟨ret_bool (by simp), below_join B0.out b1⟩

theorem markFifo_any (base : Nat) (xr : Int) (ao : Option Addr) (m c : Nat) (k0 : Int) (vs : List Value) (w : World) (h : w.ownsRow base 3 1 (.slice ao m c) m vs) (hk0 : 0 ≤ k0) (hk1 : k0 + m ≤ 4611686018427387904) :
    Calls Try.prog 26 #[.agg #[.int .i64 xr, .slice ao m c], .int .i64 k0] w fun e w' => e = .returned (.int .i64 (k0 + m)) ∧ w'.ownsRow base 3 1 (.slice ao m c) m (marks k0 m) ∧ w.grownBy w' (Value.slice ao m c).ownBlock := by
  have b0 : Below w.heap.size w (w.alloc (.cells #[.int .i64 xr, .slice ao m c] 25)) := (Below.refl _ _).alloc (Nat.le_refl _) _
  have g0 := only_below b0 (Value.slice ao m c).ownBlock
  have h0 := h.alloc (.cells #[.int .i64 xr, .slice ao m c] 25)
  go_enter Try.func26, Try.ntmps26
  go_wp2_with fail
  refine (markIntS_any base ao m c k0 vs _ h0 hk0 hk1).mono ?_
  rintro e w1 ⟨rfl, h1, g1⟩
  go_wp2
  go_ret
  exact ⟨rfl, h1, grownBy_trans g0 g1⟩

theorem heldFifo_any (xr : Int) (ao : Option Addr) (m c : Nat) (k0 : Int) (w : World) (h : Cells w ao (marks k0 m)) (hk0 : 0 ≤ k0) (hk1 : k0 + m ≤ 4611686018427387904) :
    Calls Try.prog 27 #[.agg #[.int .i64 xr, .slice ao m c], .int .i64 k0] w fun e w' => e = .returned (.int .i64 (k0 + m)) ∧ Below w.heap.size w w' := by
  have b0 : Below w.heap.size w (w.alloc (.cells #[.int .i64 xr, .slice ao m c] 25)) := (Below.refl _ _).alloc (Nat.le_refl _) _
  have h0 := h.below b0
  go_enter Try.func27, Try.ntmps27
  go_wp2_with fail
  refine (heldIntS_below ao m c k0 _ h0 hk0 hk1).mono ?_
  rintro e w1 ⟨rfl, b1⟩
  go_wp2
  go_ret
  exact ⟨rfl, below_join b0 b1⟩
end Go.Proofs.Ytfjdmdjoebjciaa

