/- Receiver: sizes, copies, comparison, marks. -/
import Derived.Test.YtkmampichfbppaaGot2
namespace Go.Proofs.Ytkmampichfbppaa
open Go.RowKit

theorem szReceiver_yes (xr : Int) (xt : Int) (xl : Bool) (xa : Int) (ao : Option Addr) (m c : Nat) (left : Int) (w : World) (h : (m : Int) ≤ left) (h1 : left ≤ 4611686018427387904) :
    Calls Try.prog 59 #[.agg #[.int .i64 xr, .int .i64 xt, .slice ao m c, .bool xl, .int .i64 xa], .int .i64 left] w fun e w' => e = .returned (.int .i64 (left - m)) ∧ Below w.heap.size w w' := by
  have b0 : Below w.heap.size w (w.alloc (.cells #[.int .i64 xr, .int .i64 xt, .slice ao m c, .bool xl, .int .i64 xa] 26)) := (Below.refl _ _).alloc (Nat.le_refl _) _
  have B0 := Lib.hid b0
  clear b0
  go_enter Try.func59, Try.ntmps59
  go_wp2_with fail
  refine (szGotS_yes ao m c left _ h h1).mono ?_
  rintro e w1 ⟨rfl, rfl⟩
  go_wp2
  go_ret
  exact ⟨rfl, B0.out⟩
theorem szReceiver_no (xr : Int) (xt : Int) (xl : Bool) (xa : Int) (ao : Option Addr) (m c : Nat) (left : Int) (w : World) (h : left < (m : Int)) (h0 : 0 ≤ left) (hm : m ≤ 9223372036854775807) :
    Calls Try.prog 59 #[.agg #[.int .i64 xr, .int .i64 xt, .slice ao m c, .bool xl, .int .i64 xa], .int .i64 left] w fun e w' => e = .returned (.int .i64 (-1)) ∧ Below w.heap.size w w' := by
  have b0 : Below w.heap.size w (w.alloc (.cells #[.int .i64 xr, .int .i64 xt, .slice ao m c, .bool xl, .int .i64 xa] 26)) := (Below.refl _ _).alloc (Nat.le_refl _) _
  have B0 := Lib.hid b0
  clear b0
  go_enter Try.func59, Try.ntmps59
  go_wp2_with fail
  refine (szGotS_no ao m c left _ h h0 hm).mono ?_
  rintro e w1 ⟨rfl, rfl⟩
  go_wp2
  go_ret
  exact ⟨rfl, B0.out⟩

set_option maxHeartbeats 4000000 in
theorem toReceiver_any (xr : Int) (xt : Int) (xl : Bool) (xa : Int) (ao : Option Addr) (xs : List Gt) (c : Nat) (w : World) (hx : Gts w ao xs) (lx : xs.length ≤ 1048576) :
    Calls Try.prog 64 #[.agg #[.int .i64 xr, .int .i64 xt, .slice ao xs.length c, .bool xl, .int .i64 xa]] w fun e w' => ∃ ao' c', e = .returned (.agg #[.int .i64 xr, .int .i64 xt, .slice ao' xs.length c', .bool xl, .int .i64 xa]) ∧ OwnG w' w.heap.size ao' c' xs ∧ Below w.heap.size w w' := by
  have b0 : Below w.heap.size w (((w.alloc (.cells #[.int .i64 xr, .int .i64 xt, .slice ao xs.length c, .bool xl, .int .i64 xa] 26)).alloc (.cells #[.int .i64 0, .int .i64 0, .slice none 0 0, .bool false, .int .i64 0] 40)).alloc (.cells #[.int .i64 xr, .int .i64 xt, .slice none 0 0, .bool false, .int .i64 0] 40)) := (((Below.refl _ _).alloc (Nat.le_refl _) _).alloc (by simp) _).alloc (by simp; omega) _
  have B0 := Lib.hid b0
  have hx0 := hx.below b0
  clear b0
  go_enter Try.func64, Try.ntmps64
  go_wp2_with fail
  refine (toGotS_any ao xs c _ hx0 lx).mono ?_
  rintro e w1 ⟨a1, c1, rfl, o1, b1⟩
  have kc1 : w1.cell? ⟨w.heap.size + 1 + 1, 0, none⟩ = some (.int .i64 xr) := (Keeps.of_below b1) _ _ _ (by simp [go_sem])
  have kf1 : w1.frozen? ⟨w.heap.size + 1 + 1, 0, none⟩ = false := (Below.hot b1 (by simp [go_sem])).trans (by simp [go_sem])
  have kc2 : w1.cell? ⟨w.heap.size + 1 + 1, 1, none⟩ = some (.int .i64 xt) := (Keeps.of_below b1) _ _ _ (by simp [go_sem])
  have kf2 : w1.frozen? ⟨w.heap.size + 1 + 1, 1, none⟩ = false := (Below.hot b1 (by simp [go_sem])).trans (by simp [go_sem])
  have kc3 : w1.cell? ⟨w.heap.size + 1 + 1, 2, none⟩ = some (.slice none 0 0) := (Keeps.of_below b1) _ _ _ (by simp [go_sem])
  have kf3 : w1.frozen? ⟨w.heap.size + 1 + 1, 2, none⟩ = false := (Below.hot b1 (by simp [go_sem])).trans (by simp [go_sem])
  have kc4 : w1.cell? ⟨w.heap.size + 1 + 1, 3, none⟩ = some (.bool false) := (Keeps.of_below b1) _ _ _ (by simp [go_sem])
  have kf4 : w1.frozen? ⟨w.heap.size + 1 + 1, 3, none⟩ = false := (Below.hot b1 (by simp [go_sem])).trans (by simp [go_sem])
  have kc5 : w1.cell? ⟨w.heap.size + 1 + 1, 4, none⟩ = some (.int .i64 0) := (Keeps.of_below b1) _ _ _ (by simp [go_sem])
  have kf5 : w1.frozen? ⟨w.heap.size + 1 + 1, 4, none⟩ = false := (Below.hot b1 (by simp [go_sem])).trans (by simp [go_sem])
  have kc6 : w1.cell? ⟨w.heap.size + 1, 0, none⟩ = some (.int .i64 0) := (Keeps.of_below b1) _ _ _ (by simp [go_sem])
  have kf6 : w1.frozen? ⟨w.heap.size + 1, 0, none⟩ = false := (Below.hot b1 (by simp [go_sem])).trans (by simp [go_sem])
  have kc7 : w1.cell? ⟨w.heap.size + 1, 1, none⟩ = some (.int .i64 0) := (Keeps.of_below b1) _ _ _ (by simp [go_sem])
  have kf7 : w1.frozen? ⟨w.heap.size + 1, 1, none⟩ = false := (Below.hot b1 (by simp [go_sem])).trans (by simp [go_sem])
  have kc8 : w1.cell? ⟨w.heap.size + 1, 2, none⟩ = some (.slice none 0 0) := (Keeps.of_below b1) _ _ _ (by simp [go_sem])
  have kf8 : w1.frozen? ⟨w.heap.size + 1, 2, none⟩ = false := (Below.hot b1 (by simp [go_sem])).trans (by simp [go_sem])
  have kc9 : w1.cell? ⟨w.heap.size + 1, 3, none⟩ = some (.bool false) := (Keeps.of_below b1) _ _ _ (by simp [go_sem])
  have kf9 : w1.frozen? ⟨w.heap.size + 1, 3, none⟩ = false := (Below.hot b1 (by simp [go_sem])).trans (by simp [go_sem])
  have kc10 : w1.cell? ⟨w.heap.size + 1, 4, none⟩ = some (.int .i64 0) := (Keeps.of_below b1) _ _ _ (by simp [go_sem])
  have kf10 : w1.frozen? ⟨w.heap.size + 1, 4, none⟩ = false := (Below.hot b1 (by simp [go_sem])).trans (by simp [go_sem])
  have kc11 : w1.cell? ⟨w.heap.size, 0, none⟩ = some (.int .i64 xr) := (Keeps.of_below b1) _ _ _ (by simp [go_sem])
  have kf11 : w1.frozen? ⟨w.heap.size, 0, none⟩ = false := (Below.hot b1 (by simp [go_sem])).trans (by simp [go_sem])
  have kc12 : w1.cell? ⟨w.heap.size, 1, none⟩ = some (.int .i64 xt) := (Keeps.of_below b1) _ _ _ (by simp [go_sem])
  have kf12 : w1.frozen? ⟨w.heap.size, 1, none⟩ = false := (Below.hot b1 (by simp [go_sem])).trans (by simp [go_sem])
  have kc13 : w1.cell? ⟨w.heap.size, 2, none⟩ = some (.slice ao xs.length c) := (Keeps.of_below b1) _ _ _ (by simp [go_sem])
  have kf13 : w1.frozen? ⟨w.heap.size, 2, none⟩ = false := (Below.hot b1 (by simp [go_sem])).trans (by simp [go_sem])
  have kc14 : w1.cell? ⟨w.heap.size, 3, none⟩ = some (.bool xl) := (Keeps.of_below b1) _ _ _ (by simp [go_sem])
  have kf14 : w1.frozen? ⟨w.heap.size, 3, none⟩ = false := (Below.hot b1 (by simp [go_sem])).trans (by simp [go_sem])
  have kc15 : w1.cell? ⟨w.heap.size, 4, none⟩ = some (.int .i64 xa) := (Keeps.of_below b1) _ _ _ (by simp [go_sem])
  have kf15 : w1.frozen? ⟨w.heap.size, 4, none⟩ = false := (Below.hot b1 (by simp [go_sem])).trans (by simp [go_sem])
  go_wp2
  refine bodyPost_ret (v := .agg #[.int .i64 xr, .int .i64 xt, .slice a1 xs.length c1, .bool xl, .int .i64 xa]) (by simp [results, Try.results64, go_sem, *]) rfl ?_
  refine ⟨_, _, rfl, ?_, ?_⟩
  · have o2 : OwnG w1 (w.heap.size + 3) a1 c1 xs := OwnG.base o1 (by simp)
    refine OwnG.base (base := w.heap.size + 3) ?_ (by omega)
    refine own_set ?_ _ _ (by simp; try omega)
    refine own_set ?_ _ _ (by simp; try omega)
    refine own_set ?_ _ _ (by simp; try omega)
    refine own_set ?_ _ _ (by simp; try omega)
    refine own_set ?_ _ _ (by simp; try omega)
    refine own_set ?_ _ _ (by simp; try omega)
    refine own_set ?_ _ _ (by simp; try omega)
    refine own_set ?_ _ _ (by simp; try omega)
    exact o2
  · have BB := below_join B0.out b1
    exact ((((((((BB).setCell (by first | (simp; done) | (simp; omega)) _).setCell (by first | (simp; done) | (simp; omega)) _).setCell (by first | (simp; done) | (simp; omega)) _).setCell (by first | (simp; done) | (simp; omega)) _).setCell (by first | (simp; done) | (simp; omega)) _).setCell (by first | (simp; done) | (simp; omega)) _).setCell (by first | (simp; done) | (simp; omega)) _).setCell (by first | (simp; done) | (simp; omega)) _

set_option maxHeartbeats 4000000 in
theorem eqReceiver_any (xr : Int) (xt : Int) (xl : Bool) (xa : Int) (yr : Int) (yt : Int) (yl : Bool) (ya : Int) (ao bo : Option Addr) (xs ys : List Gt) (c d : Nat) (w : World) (hx : Gts w ao xs) (hy : Gts w bo ys) (lx : xs.length ≤ 4611686018427387904) (ly : ys.length ≤ 4611686018427387904) :
    Calls Try.prog 69 #[.agg #[.int .i64 xr, .int .i64 xt, .slice ao xs.length c, .bool xl, .int .i64 xa], .agg #[.int .i64 yr, .int .i64 yt, .slice bo ys.length d, .bool yl, .int .i64 ya]] w fun e w' => e = .returned (.bool (decide (xr = yr ∧ xt = yt ∧ xs = ys ∧ xl = yl ∧ xa = ya))) ∧ Below w.heap.size w w' := by
  have b0 : Below w.heap.size w ((w.alloc (.cells #[.int .i64 xr, .int .i64 xt, .slice ao xs.length c, .bool xl, .int .i64 xa] 40)).alloc (.cells #[.int .i64 yr, .int .i64 yt, .slice bo ys.length d, .bool yl, .int .i64 ya] 40)) := ((Below.refl _ _).alloc (Nat.le_refl _) _).alloc (by simp) _
  have B0 := Lib.hid b0
  have hx0 := hx.below b0
  have hy0 := hy.below b0
  clear b0
  by_cases hr : xr = yr
  case neg =>
    have hb : (xr == yr) = false := by simpa using hr
    have HN := Lib.hid hr
    clear hr
    go_enter Try.func69, Try.ntmps69
    go_wp2
    go_ret
    exact ⟨ret_bool (by simp [HN.out]), B0.out⟩
  subst hr
  by_cases ht : xt = yt
  case neg =>
    have hb : (xt == yt) = false := by simpa using ht
    have HN := Lib.hid ht
    clear ht
    go_enter Try.func69, Try.ntmps69
    go_wp2
    go_ret
    exact ⟨ret_bool (by simp [HN.out]), B0.out⟩
  subst ht
  by_cases hxy : xs = ys
  case neg =>
    have hd : decide (xs = ys) = false := by simpa using hxy
    have HD := Lib.hid hxy
    clear hxy
    go_enter Try.func69, Try.ntmps69
    go_wp2_with fail
    refine (eqGotS_any ao bo xs ys c d _ hx0 hy0 lx ly).mono ?_
    rintro e w1 ⟨rfl, b1⟩
    go_wp2
    go_ret
    exact ⟨ret_bool (by simp [HD.out]), below_join B0.out b1⟩
  subst hxy
  by_cases hl : xl = yl
  case neg =>
    have hb : (xl == yl) = false := by simpa using hl
    have HN := Lib.hid hl
    clear hl
    go_enter Try.func69, Try.ntmps69
    go_wp2_with fail
    refine (eqGotS_any ao bo xs xs c d _ hx0 hy0 lx lx).mono ?_
    rintro e w1 ⟨rfl, b1⟩
    have kc16 : w1.cell? ⟨w.heap.size, 0, none⟩ = some (.int .i64 xr) := (Keeps.of_below b1) _ _ _ (by simp [go_sem])
    have kf16 : w1.frozen? ⟨w.heap.size, 0, none⟩ = false := (Below.hot b1 (by simp [go_sem])).trans (by simp [go_sem])
    have kc17 : w1.cell? ⟨w.heap.size, 1, none⟩ = some (.int .i64 xt) := (Keeps.of_below b1) _ _ _ (by simp [go_sem])
    have kf17 : w1.frozen? ⟨w.heap.size, 1, none⟩ = false := (Below.hot b1 (by simp [go_sem])).trans (by simp [go_sem])
    have kc18 : w1.cell? ⟨w.heap.size, 2, none⟩ = some (.slice ao xs.length c) := (Keeps.of_below b1) _ _ _ (by simp [go_sem])
    have kf18 : w1.frozen? ⟨w.heap.size, 2, none⟩ = false := (Below.hot b1 (by simp [go_sem])).trans (by simp [go_sem])
    have kc19 : w1.cell? ⟨w.heap.size, 3, none⟩ = some (.bool xl) := (Keeps.of_below b1) _ _ _ (by simp [go_sem])
    have kf19 : w1.frozen? ⟨w.heap.size, 3, none⟩ = false := (Below.hot b1 (by simp [go_sem])).trans (by simp [go_sem])
    have kc20 : w1.cell? ⟨w.heap.size, 4, none⟩ = some (.int .i64 xa) := (Keeps.of_below b1) _ _ _ (by simp [go_sem])
    have kf20 : w1.frozen? ⟨w.heap.size, 4, none⟩ = false := (Below.hot b1 (by simp [go_sem])).trans (by simp [go_sem])
    have kc21 : w1.cell? ⟨w.heap.size + 1, 0, none⟩ = some (.int .i64 xr) := (Keeps.of_below b1) _ _ _ (by simp [go_sem])
    have kf21 : w1.frozen? ⟨w.heap.size + 1, 0, none⟩ = false := (Below.hot b1 (by simp [go_sem])).trans (by simp [go_sem])
    have kc22 : w1.cell? ⟨w.heap.size + 1, 1, none⟩ = some (.int .i64 xt) := (Keeps.of_below b1) _ _ _ (by simp [go_sem])
    have kf22 : w1.frozen? ⟨w.heap.size + 1, 1, none⟩ = false := (Below.hot b1 (by simp [go_sem])).trans (by simp [go_sem])
    have kc23 : w1.cell? ⟨w.heap.size + 1, 2, none⟩ = some (.slice bo xs.length d) := (Keeps.of_below b1) _ _ _ (by simp [go_sem])
    have kf23 : w1.frozen? ⟨w.heap.size + 1, 2, none⟩ = false := (Below.hot b1 (by simp [go_sem])).trans (by simp [go_sem])
    have kc24 : w1.cell? ⟨w.heap.size + 1, 3, none⟩ = some (.bool yl) := (Keeps.of_below b1) _ _ _ (by simp [go_sem])
    have kf24 : w1.frozen? ⟨w.heap.size + 1, 3, none⟩ = false := (Below.hot b1 (by simp [go_sem])).trans (by simp [go_sem])
    have kc25 : w1.cell? ⟨w.heap.size + 1, 4, none⟩ = some (.int .i64 ya) := (Keeps.of_below b1) _ _ _ (by simp [go_sem])
    have kf25 : w1.frozen? ⟨w.heap.size + 1, 4, none⟩ = false := (Below.hot b1 (by simp [go_sem])).trans (by simp [go_sem])
    go_wp2
    go_ret
    exact ⟨ret_bool (by simp [HN.out]), below_join B0.out b1⟩
  subst hl
  by_cases ha : xa = ya
  case neg =>
    have hb : (xa == ya) = false := by simpa using ha
    have HN := Lib.hid ha
    clear ha
    go_enter Try.func69, Try.ntmps69
    go_wp2_with fail
    refine (eqGotS_any ao bo xs xs c d _ hx0 hy0 lx lx).mono ?_
    rintro e w1 ⟨rfl, b1⟩
    have kc26 : w1.cell? ⟨w.heap.size, 0, none⟩ = some (.int .i64 xr) := (Keeps.of_below b1) _ _ _ (by simp [go_sem])
    have kf26 : w1.frozen? ⟨w.heap.size, 0, none⟩ = false := (Below.hot b1 (by simp [go_sem])).trans (by simp [go_sem])
    have kc27 : w1.cell? ⟨w.heap.size, 1, none⟩ = some (.int .i64 xt) := (Keeps.of_below b1) _ _ _ (by simp [go_sem])
    have kf27 : w1.frozen? ⟨w.heap.size, 1, none⟩ = false := (Below.hot b1 (by simp [go_sem])).trans (by simp [go_sem])
    have kc28 : w1.cell? ⟨w.heap.size, 2, none⟩ = some (.slice ao xs.length c) := (Keeps.of_below b1) _ _ _ (by simp [go_sem])
    have kf28 : w1.frozen? ⟨w.heap.size, 2, none⟩ = false := (Below.hot b1 (by simp [go_sem])).trans (by simp [go_sem])
    have kc29 : w1.cell? ⟨w.heap.size, 3, none⟩ = some (.bool xl) := (Keeps.of_below b1) _ _ _ (by simp [go_sem])
    have kf29 : w1.frozen? ⟨w.heap.size, 3, none⟩ = false := (Below.hot b1 (by simp [go_sem])).trans (by simp [go_sem])
    have kc30 : w1.cell? ⟨w.heap.size, 4, none⟩ = some (.int .i64 xa) := (Keeps.of_below b1) _ _ _ (by simp [go_sem])
    have kf30 : w1.frozen? ⟨w.heap.size, 4, none⟩ = false := (Below.hot b1 (by simp [go_sem])).trans (by simp [go_sem])
    have kc31 : w1.cell? ⟨w.heap.size + 1, 0, none⟩ = some (.int .i64 xr) := (Keeps.of_below b1) _ _ _ (by simp [go_sem])
    have kf31 : w1.frozen? ⟨w.heap.size + 1, 0, none⟩ = false := (Below.hot b1 (by simp [go_sem])).trans (by simp [go_sem])
    have kc32 : w1.cell? ⟨w.heap.size + 1, 1, none⟩ = some (.int .i64 xt) := (Keeps.of_below b1) _ _ _ (by simp [go_sem])
    have kf32 : w1.frozen? ⟨w.heap.size + 1, 1, none⟩ = false := (Below.hot b1 (by simp [go_sem])).trans (by simp [go_sem])
    have kc33 : w1.cell? ⟨w.heap.size + 1, 2, none⟩ = some (.slice bo xs.length d) := (Keeps.of_below b1) _ _ _ (by simp [go_sem])
    have kf33 : w1.frozen? ⟨w.heap.size + 1, 2, none⟩ = false := (Below.hot b1 (by simp [go_sem])).trans (by simp [go_sem])
    have kc34 : w1.cell? ⟨w.heap.size + 1, 3, none⟩ = some (.bool xl) := (Keeps.of_below b1) _ _ _ (by simp [go_sem])
    have kf34 : w1.frozen? ⟨w.heap.size + 1, 3, none⟩ = false := (Below.hot b1 (by simp [go_sem])).trans (by simp [go_sem])
    have kc35 : w1.cell? ⟨w.heap.size + 1, 4, none⟩ = some (.int .i64 ya) := (Keeps.of_below b1) _ _ _ (by simp [go_sem])
    have kf35 : w1.frozen? ⟨w.heap.size + 1, 4, none⟩ = false := (Below.hot b1 (by simp [go_sem])).trans (by simp [go_sem])
    go_wp2
    go_ret
    exact ⟨ret_bool (by simp [HN.out]), below_join B0.out b1⟩
  subst ha
  go_enter Try.func69, Try.ntmps69
  go_wp2_with fail
  refine (eqGotS_any ao bo xs xs c d _ hx0 hy0 lx lx).mono ?_
  rintro e w1 ⟨rfl, b1⟩
  have kc36 : w1.cell? ⟨w.heap.size, 0, none⟩ = some (.int .i64 xr) := (Keeps.of_below b1) _ _ _ (by simp [go_sem])
  have kf36 : w1.frozen? ⟨w.heap.size, 0, none⟩ = false := (Below.hot b1 (by simp [go_sem])).trans (by simp [go_sem])
  have kc37 : w1.cell? ⟨w.heap.size, 1, none⟩ = some (.int .i64 xt) := (Keeps.of_below b1) _ _ _ (by simp [go_sem])
  have kf37 : w1.frozen? ⟨w.heap.size, 1, none⟩ = false := (Below.hot b1 (by simp [go_sem])).trans (by simp [go_sem])
  have kc38 : w1.cell? ⟨w.heap.size, 2, none⟩ = some (.slice ao xs.length c) := (Keeps.of_below b1) _ _ _ (by simp [go_sem])
  have kf38 : w1.frozen? ⟨w.heap.size, 2, none⟩ = false := (Below.hot b1 (by simp [go_sem])).trans (by simp [go_sem])
  have kc39 : w1.cell? ⟨w.heap.size, 3, none⟩ = some (.bool xl) := (Keeps.of_below b1) _ _ _ (by simp [go_sem])
  have kf39 : w1.frozen? ⟨w.heap.size, 3, none⟩ = false := (Below.hot b1 (by simp [go_sem])).trans (by simp [go_sem])
  have kc40 : w1.cell? ⟨w.heap.size, 4, none⟩ = some (.int .i64 xa) := (Keeps.of_below b1) _ _ _ (by simp [go_sem])
  have kf40 : w1.frozen? ⟨w.heap.size, 4, none⟩ = false := (Below.hot b1 (by simp [go_sem])).trans (by simp [go_sem])
  have kc41 : w1.cell? ⟨w.heap.size + 1, 0, none⟩ = some (.int .i64 xr) := (Keeps.of_below b1) _ _ _ (by simp [go_sem])
  have kf41 : w1.frozen? ⟨w.heap.size + 1, 0, none⟩ = false := (Below.hot b1 (by simp [go_sem])).trans (by simp [go_sem])
  have kc42 : w1.cell? ⟨w.heap.size + 1, 1, none⟩ = some (.int .i64 xt) := (Keeps.of_below b1) _ _ _ (by simp [go_sem])
  have kf42 : w1.frozen? ⟨w.heap.size + 1, 1, none⟩ = false := (Below.hot b1 (by simp [go_sem])).trans (by simp [go_sem])
  have kc43 : w1.cell? ⟨w.heap.size + 1, 2, none⟩ = some (.slice bo xs.length d) := (Keeps.of_below b1) _ _ _ (by simp [go_sem])
  have kf43 : w1.frozen? ⟨w.heap.size + 1, 2, none⟩ = false := (Below.hot b1 (by simp [go_sem])).trans (by simp [go_sem])
  have kc44 : w1.cell? ⟨w.heap.size + 1, 3, none⟩ = some (.bool xl) := (Keeps.of_below b1) _ _ _ (by simp [go_sem])
  have kf44 : w1.frozen? ⟨w.heap.size + 1, 3, none⟩ = false := (Below.hot b1 (by simp [go_sem])).trans (by simp [go_sem])
  have kc45 : w1.cell? ⟨w.heap.size + 1, 4, none⟩ = some (.int .i64 xa) := (Keeps.of_below b1) _ _ _ (by simp [go_sem])
  have kf45 : w1.frozen? ⟨w.heap.size + 1, 4, none⟩ = false := (Below.hot b1 (by simp [go_sem])).trans (by simp [go_sem])
  go_wp2
  go_ret
  exact ⟨ret_bool (by simp), below_join B0.out b1⟩

set_option maxHeartbeats 4000000 in
theorem sameRecv_any (xr : Int) (xt : Int) (xl : Bool) (xa : Int) (yr : Int) (yt : Int) (yl : Bool) (ya : Int) (ao bo : Option Addr) (xs ys : List Gt) (c d : Nat) (w : World) (hx : Gts w ao xs) (hy : Gts w bo ys) (lx : xs.length ≤ 4611686018427387904) (ly : ys.length ≤ 4611686018427387904) :
    Calls Try.prog 78 #[.agg #[.int .i64 xr, .int .i64 xt, .slice ao xs.length c, .bool xl, .int .i64 xa], .agg #[.int .i64 yr, .int .i64 yt, .slice bo ys.length d, .bool yl, .int .i64 ya]] w fun e w' => e = .returned (.bool (decide (xr = yr ∧ xt = yt ∧ xs = ys ∧ xl = yl ∧ xa = ya))) ∧ Below w.heap.size w w' := by
  have b0 : Below w.heap.size w ((w.alloc (.cells #[.int .i64 xr, .int .i64 xt, .slice ao xs.length c, .bool xl, .int .i64 xa] 40)).alloc (.cells #[.int .i64 yr, .int .i64 yt, .slice bo ys.length d, .bool yl, .int .i64 ya] 40)) := ((Below.refl _ _).alloc (Nat.le_refl _) _).alloc (by simp) _
  have B0 := Lib.hid b0
  have hx0 := hx.below b0
  have hy0 := hy.below b0
  clear b0
  by_cases hr : xr = yr
  case neg =>
    have hb : (xr == yr) = false := by simpa using hr
    have HN := Lib.hid hr
    clear hr
    go_enter Try.func78, Try.ntmps78
    go_wp2
    go_ret
    exact ⟨ret_bool (by simp [HN.out]), B0.out⟩
  subst hr
  by_cases ht : xt = yt
  case neg =>
    have hb : (xt == yt) = false := by simpa using ht
    have HN := Lib.hid ht
    clear ht
    go_enter Try.func78, Try.ntmps78
    go_wp2
    go_ret
    exact ⟨ret_bool (by simp [HN.out]), B0.out⟩
  subst ht
  by_cases hl : xl = yl
  case neg =>
    have hb : (xl == yl) = false := by simpa using hl
    have HN := Lib.hid hl
    clear hl
    go_enter Try.func78, Try.ntmps78
    go_wp2
    go_ret
    exact ⟨ret_bool (by simp [HN.out]), B0.out⟩
  subst hl
  by_cases ha : xa = ya
  case neg =>
    have hb : (xa == ya) = false := by simpa using ha
    have HN := Lib.hid ha
    clear ha
    go_enter Try.func78, Try.ntmps78
    go_wp2
    go_ret
    exact ⟨ret_bool (by simp [HN.out]), B0.out⟩
  subst ha
  by_cases hxy : xs = ys
  case neg =>
    have hd : decide (xs = ys) = false := by simpa using hxy
    have HD := Lib.hid hxy
    clear hxy
    go_enter Try.func78, Try.ntmps78
    go_wp2_with fail
    refine (sameGot_below ao bo xs ys c d _ hx0 hy0 lx ly).mono ?_
    rintro e w1 ⟨rfl, b1⟩
    go_wp2
    go_ret
    exact ⟨ret_bool (by simp [HD.out]), below_join B0.out b1⟩
  subst hxy
  go_enter Try.func78, Try.ntmps78
  go_wp2_with fail
  refine (sameGot_below ao bo xs xs c d _ hx0 hy0 lx lx).mono ?_
  rintro e w1 ⟨rfl, b1⟩
  go_wp2
  go_ret
  exact ⟨ret_bool (by simp), below_join B0.out b1⟩

theorem markReceiver_any (base : Nat) (xr : Int) (xt : Int) (xl : Bool) (xa : Int) (ao : Option Addr) (m c : Nat) (k0 : Int) (vs : List Value) (w : World) (h : w.ownsRow base 126 2 (.slice ao m c) m vs) (hk0 : 0 ≤ k0) (hk1 : k0 + (m * 2) ≤ 4611686018427387904) :
    Calls Try.prog 72 #[.agg #[.int .i64 xr, .int .i64 xt, .slice ao m c, .bool xl, .int .i64 xa], .int .i64 k0] w fun e w' => e = .returned (.int .i64 (k0 + (m * 2))) ∧ w'.ownsRow base 126 2 (.slice ao m c) m (marks k0 (m * 2)) ∧ w.grownBy w' (Value.slice ao m c).ownBlock := by
  have b0 : Below w.heap.size w (w.alloc (.cells #[.int .i64 xr, .int .i64 xt, .slice ao m c, .bool xl, .int .i64 xa] 40)) := (Below.refl _ _).alloc (Nat.le_refl _) _
  have g0 := only_below b0 (Value.slice ao m c).ownBlock
  have h0 := h.alloc (.cells #[.int .i64 xr, .int .i64 xt, .slice ao m c, .bool xl, .int .i64 xa] 40)
  go_enter Try.func72, Try.ntmps72
  go_wp2_with fail
  refine (markGotS_any base ao m c k0 vs _ h0 hk0 hk1).mono ?_
  rintro e w1 ⟨rfl, h1, g1⟩
  go_wp2
  go_ret
  exact ⟨rfl, h1, grownBy_trans g0 g1⟩

theorem heldReceiver_any (xr : Int) (xt : Int) (xl : Bool) (xa : Int) (ao : Option Addr) (m c : Nat) (k0 : Int) (w : World) (h : Cells w ao (marks k0 (m * 2))) (hk0 : 0 ≤ k0) (hk1 : k0 + (m * 2) ≤ 4611686018427387904) :
    Calls Try.prog 74 #[.agg #[.int .i64 xr, .int .i64 xt, .slice ao m c, .bool xl, .int .i64 xa], .int .i64 k0] w fun e w' => e = .returned (.int .i64 (k0 + (m * 2))) ∧ Below w.heap.size w w' := by
  have b0 : Below w.heap.size w (w.alloc (.cells #[.int .i64 xr, .int .i64 xt, .slice ao m c, .bool xl, .int .i64 xa] 40)) := (Below.refl _ _).alloc (Nat.le_refl _) _
  have h0 := h.below b0
  go_enter Try.func74, Try.ntmps74
  go_wp2_with fail
  refine (heldGotS_below ao m c k0 _ h0 hk0 hk1).mono ?_
  rintro e w1 ⟨rfl, b1⟩
  go_wp2
  go_ret
  exact ⟨rfl, below_join b0 b1⟩
end Go.Proofs.Ytkmampichfbppaa

