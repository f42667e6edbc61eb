/- Sender: sizes, copies, comparison, marks. -/
import Derived.Test.YtkmampichfbppaaSz
namespace Go.Proofs.Ytkmampichfbppaa
open Go.RowKit

theorem szSender_yes (xr xh xl : Int) (ao : Option Addr) (m c : Nat) (left : Int) (w : World) (h : (m : Int) ≤ left) (h1 : left ≤ 4611686018427387904) :
    Calls Try.prog 60 #[.agg #[.int .i64 xr, .slice ao m c, .int .i64 xh, .int .i64 xl], .int .i64 left] w fun e w' => e = .returned (.int .i64 (left - m)) ∧ Below w.heap.size w w' := by
  have b0 : Below w.heap.size w (w.alloc (.cells #[.int .i64 xr, .slice ao m c, .int .i64 xh, .int .i64 xl] 29)) := (Below.refl _ _).alloc (Nat.le_refl _) _
  have B0 := Lib.hid b0
  clear b0
  go_enter Try.func60, Try.ntmps60
  go_wp2_with fail
  refine (szIntS_yes ao m c left _ h h1).mono ?_
  rintro e w1 ⟨rfl, rfl⟩
  go_wp2
  go_ret
  exact ⟨rfl, B0.out⟩
theorem szSender_no (xr xh xl : Int) (ao : Option Addr) (m c : Nat) (left : Int) (w : World) (h : left < (m : Int)) (h0 : 0 ≤ left) (hm : m ≤ 9223372036854775807) :
    Calls Try.prog 60 #[.agg #[.int .i64 xr, .slice ao m c, .int .i64 xh, .int .i64 xl], .int .i64 left] w fun e w' => e = .returned (.int .i64 (-1)) ∧ Below w.heap.size w w' := by
  have b0 : Below w.heap.size w (w.alloc (.cells #[.int .i64 xr, .slice ao m c, .int .i64 xh, .int .i64 xl] 29)) := (Below.refl _ _).alloc (Nat.le_refl _) _
  have B0 := Lib.hid b0
  clear b0
  go_enter Try.func60, Try.ntmps60
  go_wp2_with fail
  refine (szIntS_no ao m c left _ h h0 hm).mono ?_
  rintro e w1 ⟨rfl, rfl⟩
  go_wp2
  go_ret
  exact ⟨rfl, B0.out⟩

set_option maxHeartbeats 4000000 in
theorem toSender_any (xr xh xl : Int) (ao : Option Addr) (xs : List Int) (c : Nat) (w : World) (hx : Ints w ao xs) (lx : xs.length ≤ 1048576) :
    Calls Try.prog 65 #[.agg #[.int .i64 xr, .slice ao xs.length c, .int .i64 xh, .int .i64 xl]] w fun e w' => ∃ ao' c', e = .returned (.agg #[.int .i64 xr, .slice ao' xs.length c', .int .i64 xh, .int .i64 xl]) ∧ OwnI w' w.heap.size ao' c' xs ∧ Below w.heap.size w w' := by
  have b0 : Below w.heap.size w (((w.alloc (.cells #[.int .i64 xr, .slice ao xs.length c, .int .i64 xh, .int .i64 xl] 29)).alloc (.cells #[.int .i64 0, .slice none 0 0, .int .i64 0, .int .i64 0] 41)).alloc (.cells #[.int .i64 xr, .slice none 0 0, .int .i64 0, .int .i64 0] 41)) := (((Below.refl _ _).alloc (Nat.le_refl _) _).alloc (by simp) _).alloc (by simp; omega) _
  have B0 := Lib.hid b0
  have hx0 := hx.below b0
  clear b0
  go_enter Try.func65, Try.ntmps65
  go_wp2_with fail
  refine (toIntS_any ao xs c _ hx0 lx).mono ?_
  rintro e w1 ⟨a1, c1, rfl, o1, b1⟩
  have kc1 : w1.cell? ⟨w.heap.size + 1 + 1, 0, none⟩ = some (.int .i64 xr) := (Keeps.of_below b1) _ _ _ (by simp [go_sem])
  have kf1 : w1.frozen? ⟨w.heap.size + 1 + 1, 0, none⟩ = false := (Below.hot b1 (by simp [go_sem])).trans (by simp [go_sem])
  have kc2 : w1.cell? ⟨w.heap.size + 1 + 1, 1, none⟩ = some (.slice none 0 0) := (Keeps.of_below b1) _ _ _ (by simp [go_sem])
  have kf2 : w1.frozen? ⟨w.heap.size + 1 + 1, 1, none⟩ = false := (Below.hot b1 (by simp [go_sem])).trans (by simp [go_sem])
  have kc3 : w1.cell? ⟨w.heap.size + 1 + 1, 2, none⟩ = some (.int .i64 0) := (Keeps.of_below b1) _ _ _ (by simp [go_sem])
  have kf3 : w1.frozen? ⟨w.heap.size + 1 + 1, 2, none⟩ = false := (Below.hot b1 (by simp [go_sem])).trans (by simp [go_sem])
  have kc4 : w1.cell? ⟨w.heap.size + 1 + 1, 3, none⟩ = some (.int .i64 0) := (Keeps.of_below b1) _ _ _ (by simp [go_sem])
  have kf4 : w1.frozen? ⟨w.heap.size + 1 + 1, 3, none⟩ = false := (Below.hot b1 (by simp [go_sem])).trans (by simp [go_sem])
  have kc5 : w1.cell? ⟨w.heap.size + 1, 0, none⟩ = some (.int .i64 0) := (Keeps.of_below b1) _ _ _ (by simp [go_sem])
  have kf5 : w1.frozen? ⟨w.heap.size + 1, 0, none⟩ = false := (Below.hot b1 (by simp [go_sem])).trans (by simp [go_sem])
  have kc6 : w1.cell? ⟨w.heap.size + 1, 1, none⟩ = some (.slice none 0 0) := (Keeps.of_below b1) _ _ _ (by simp [go_sem])
  have kf6 : w1.frozen? ⟨w.heap.size + 1, 1, none⟩ = false := (Below.hot b1 (by simp [go_sem])).trans (by simp [go_sem])
  have kc7 : w1.cell? ⟨w.heap.size + 1, 2, none⟩ = some (.int .i64 0) := (Keeps.of_below b1) _ _ _ (by simp [go_sem])
  have kf7 : w1.frozen? ⟨w.heap.size + 1, 2, none⟩ = false := (Below.hot b1 (by simp [go_sem])).trans (by simp [go_sem])
  have kc8 : w1.cell? ⟨w.heap.size + 1, 3, none⟩ = some (.int .i64 0) := (Keeps.of_below b1) _ _ _ (by simp [go_sem])
  have kf8 : w1.frozen? ⟨w.heap.size + 1, 3, none⟩ = false := (Below.hot b1 (by simp [go_sem])).trans (by simp [go_sem])
  have kc9 : w1.cell? ⟨w.heap.size, 0, none⟩ = some (.int .i64 xr) := (Keeps.of_below b1) _ _ _ (by simp [go_sem])
  have kf9 : w1.frozen? ⟨w.heap.size, 0, none⟩ = false := (Below.hot b1 (by simp [go_sem])).trans (by simp [go_sem])
  have kc10 : w1.cell? ⟨w.heap.size, 1, none⟩ = some (.slice ao xs.length c) := (Keeps.of_below b1) _ _ _ (by simp [go_sem])
  have kf10 : w1.frozen? ⟨w.heap.size, 1, none⟩ = false := (Below.hot b1 (by simp [go_sem])).trans (by simp [go_sem])
  have kc11 : w1.cell? ⟨w.heap.size, 2, none⟩ = some (.int .i64 xh) := (Keeps.of_below b1) _ _ _ (by simp [go_sem])
  have kf11 : w1.frozen? ⟨w.heap.size, 2, none⟩ = false := (Below.hot b1 (by simp [go_sem])).trans (by simp [go_sem])
  have kc12 : w1.cell? ⟨w.heap.size, 3, none⟩ = some (.int .i64 xl) := (Keeps.of_below b1) _ _ _ (by simp [go_sem])
  have kf12 : w1.frozen? ⟨w.heap.size, 3, none⟩ = false := (Below.hot b1 (by simp [go_sem])).trans (by simp [go_sem])
  go_wp2
  refine bodyPost_ret (v := .agg #[.int .i64 xr, .slice a1 xs.length c1, .int .i64 xh, .int .i64 xl]) (by simp [results, Try.results65, go_sem, *]) rfl ?_
  refine ⟨_, _, rfl, ?_, ?_⟩
  · have o2 : OwnI w1 (w.heap.size + 3) a1 c1 xs := OwnI.base o1 (by simp)
    refine OwnI.base (base := w.heap.size + 3) ?_ (by omega)
    refine own_set ?_ _ _ (by simp; try omega)
    refine own_set ?_ _ _ (by simp; try omega)
    refine own_set ?_ _ _ (by simp; try omega)
    refine own_set ?_ _ _ (by simp; try omega)
    refine own_set ?_ _ _ (by simp; try omega)
    refine own_set ?_ _ _ (by simp; try omega)
    refine own_set ?_ _ _ (by simp; try omega)
    exact o2
  · have BB := below_join B0.out b1
    exact (((((((BB).setCell (by first | (simp; done) | (simp; omega)) _).setCell (by first | (simp; done) | (simp; omega)) _).setCell (by first | (simp; done) | (simp; omega)) _).setCell (by first | (simp; done) | (simp; omega)) _).setCell (by first | (simp; done) | (simp; omega)) _).setCell (by first | (simp; done) | (simp; omega)) _).setCell (by first | (simp; done) | (simp; omega)) _

set_option maxHeartbeats 4000000 in
theorem eqSender_any (xr xh xl yr yh yl : Int) (ao bo : Option Addr) (xs ys : List Int) (c d : Nat) (w : World) (hx : Ints w ao xs) (hy : Ints w bo ys) (lx : xs.length ≤ 4611686018427387904) (ly : ys.length ≤ 4611686018427387904) :
    Calls Try.prog 70 #[.agg #[.int .i64 xr, .slice ao xs.length c, .int .i64 xh, .int .i64 xl], .agg #[.int .i64 yr, .slice bo ys.length d, .int .i64 yh, .int .i64 yl]] w fun e w' => e = .returned (.bool (decide (xr = yr ∧ xs = ys ∧ xh = yh ∧ xl = yl))) ∧ Below w.heap.size w w' := by
  have b0 : Below w.heap.size w ((w.alloc (.cells #[.int .i64 xr, .slice ao xs.length c, .int .i64 xh, .int .i64 xl] 41)).alloc (.cells #[.int .i64 yr, .slice bo ys.length d, .int .i64 yh, .int .i64 yl] 41)) := ((Below.refl _ _).alloc (Nat.le_refl _) _).alloc (by simp) _
  have B0 := Lib.hid b0
  have hx0 := hx.below b0
  have hy0 := hy.below b0
  clear b0
  by_cases hr : xr = yr
  case neg =>
    have hb : (xr == yr) = false := by simpa using hr
    have HN := Lib.hid hr
    clear hr
    go_enter Try.func70, Try.ntmps70
    go_wp2
    go_ret
    exact ⟨ret_bool (by simp [HN.out]), B0.out⟩
  subst hr
  by_cases hxy : xs = ys
  case neg =>
    have hd : decide (xs = ys) = false := by simpa using hxy
    have HD := Lib.hid hxy
    clear hxy
    go_enter Try.func70, Try.ntmps70
    go_wp2_with fail
    refine (eqIntS_below ao bo xs ys c d _ hx0 hy0 lx ly).mono ?_
    rintro e w1 ⟨rfl, b1⟩
    go_wp2
    go_ret
    exact ⟨ret_bool (by simp [HD.out]), below_join B0.out b1⟩
  subst hxy
  by_cases hh : xh = yh
  case neg =>
    have hb : (xh == yh) = false := by simpa using hh
    have HN := Lib.hid hh
    clear hh
    go_enter Try.func70, Try.ntmps70
    go_wp2_with fail
    refine (eqIntS_below ao bo xs xs c d _ hx0 hy0 lx lx).mono ?_
    rintro e w1 ⟨rfl, b1⟩
    have kc13 : w1.cell? ⟨w.heap.size, 0, none⟩ = some (.int .i64 xr) := (Keeps.of_below b1) _ _ _ (by simp [go_sem])
    have kf13 : w1.frozen? ⟨w.heap.size, 0, none⟩ = false := (Below.hot b1 (by simp [go_sem])).trans (by simp [go_sem])
    have kc14 : w1.cell? ⟨w.heap.size, 1, none⟩ = some (.slice ao xs.length c) := (Keeps.of_below b1) _ _ _ (by simp [go_sem])
    have kf14 : w1.frozen? ⟨w.heap.size, 1, none⟩ = false := (Below.hot b1 (by simp [go_sem])).trans (by simp [go_sem])
    have kc15 : w1.cell? ⟨w.heap.size, 2, none⟩ = some (.int .i64 xh) := (Keeps.of_below b1) _ _ _ (by simp [go_sem])
    have kf15 : w1.frozen? ⟨w.heap.size, 2, none⟩ = false := (Below.hot b1 (by simp [go_sem])).trans (by simp [go_sem])
    have kc16 : w1.cell? ⟨w.heap.size, 3, none⟩ = some (.int .i64 xl) := (Keeps.of_below b1) _ _ _ (by simp [go_sem])
    have kf16 : w1.frozen? ⟨w.heap.size, 3, none⟩ = false := (Below.hot b1 (by simp [go_sem])).trans (by simp [go_sem])
    have kc17 : w1.cell? ⟨w.heap.size + 1, 0, none⟩ = some (.int .i64 xr) := (Keeps.of_below b1) _ _ _ (by simp [go_sem])
    have kf17 : w1.frozen? ⟨w.heap.size + 1, 0, none⟩ = false := (Below.hot b1 (by simp [go_sem])).trans (by simp [go_sem])
    have kc18 : w1.cell? ⟨w.heap.size + 1, 1, none⟩ = some (.slice bo xs.length d) := (Keeps.of_below b1) _ _ _ (by simp [go_sem])
    have kf18 : w1.frozen? ⟨w.heap.size + 1, 1, none⟩ = false := (Below.hot b1 (by simp [go_sem])).trans (by simp [go_sem])
    have kc19 : w1.cell? ⟨w.heap.size + 1, 2, none⟩ = some (.int .i64 yh) := (Keeps.of_below b1) _ _ _ (by simp [go_sem])
    have kf19 : w1.frozen? ⟨w.heap.size + 1, 2, none⟩ = false := (Below.hot b1 (by simp [go_sem])).trans (by simp [go_sem])
    have kc20 : w1.cell? ⟨w.heap.size + 1, 3, none⟩ = some (.int .i64 yl) := (Keeps.of_below b1) _ _ _ (by simp [go_sem])
    have kf20 : w1.frozen? ⟨w.heap.size + 1, 3, none⟩ = false := (Below.hot b1 (by simp [go_sem])).trans (by simp [go_sem])
    go_wp2
    go_ret
    exact ⟨ret_bool (by simp [HN.out]), below_join B0.out b1⟩
  subst hh
  by_cases hl : xl = yl
  case neg =>
    have hb : (xl == yl) = false := by simpa using hl
    have HN := Lib.hid hl
    clear hl
    go_enter Try.func70, Try.ntmps70
    go_wp2_with fail
    refine (eqIntS_below ao bo xs xs c d _ hx0 hy0 lx lx).mono ?_
    rintro e w1 ⟨rfl, b1⟩
    have kc21 : w1.cell? ⟨w.heap.size, 0, none⟩ = some (.int .i64 xr) := (Keeps.of_below b1) _ _ _ (by simp [go_sem])
    have kf21 : w1.frozen? ⟨w.heap.size, 0, none⟩ = false := (Below.hot b1 (by simp [go_sem])).trans (by simp [go_sem])
    have kc22 : w1.cell? ⟨w.heap.size, 1, none⟩ = some (.slice ao xs.length c) := (Keeps.of_below b1) _ _ _ (by simp [go_sem])
    have kf22 : w1.frozen? ⟨w.heap.size, 1, none⟩ = false := (Below.hot b1 (by simp [go_sem])).trans (by simp [go_sem])
    have kc23 : w1.cell? ⟨w.heap.size, 2, none⟩ = some (.int .i64 xh) := (Keeps.of_below b1) _ _ _ (by simp [go_sem])
    have kf23 : w1.frozen? ⟨w.heap.size, 2, none⟩ = false := (Below.hot b1 (by simp [go_sem])).trans (by simp [go_sem])
    have kc24 : w1.cell? ⟨w.heap.size, 3, none⟩ = some (.int .i64 xl) := (Keeps.of_below b1) _ _ _ (by simp [go_sem])
    have kf24 : w1.frozen? ⟨w.heap.size, 3, none⟩ = false := (Below.hot b1 (by simp [go_sem])).trans (by simp [go_sem])
    have kc25 : w1.cell? ⟨w.heap.size + 1, 0, none⟩ = some (.int .i64 xr) := (Keeps.of_below b1) _ _ _ (by simp [go_sem])
    have kf25 : w1.frozen? ⟨w.heap.size + 1, 0, none⟩ = false := (Below.hot b1 (by simp [go_sem])).trans (by simp [go_sem])
    have kc26 : w1.cell? ⟨w.heap.size + 1, 1, none⟩ = some (.slice bo xs.length d) := (Keeps.of_below b1) _ _ _ (by simp [go_sem])
    have kf26 : w1.frozen? ⟨w.heap.size + 1, 1, none⟩ = false := (Below.hot b1 (by simp [go_sem])).trans (by simp [go_sem])
    have kc27 : w1.cell? ⟨w.heap.size + 1, 2, none⟩ = some (.int .i64 xh) := (Keeps.of_below b1) _ _ _ (by simp [go_sem])
    have kf27 : w1.frozen? ⟨w.heap.size + 1, 2, none⟩ = false := (Below.hot b1 (by simp [go_sem])).trans (by simp [go_sem])
    have kc28 : w1.cell? ⟨w.heap.size + 1, 3, none⟩ = some (.int .i64 yl) := (Keeps.of_below b1) _ _ _ (by simp [go_sem])
    have kf28 : w1.frozen? ⟨w.heap.size + 1, 3, none⟩ = false := (Below.hot b1 (by simp [go_sem])).trans (by simp [go_sem])
    go_wp2
    go_ret
    exact ⟨ret_bool (by simp [HN.out]), below_join B0.out b1⟩
  subst hl
  go_enter Try.func70, Try.ntmps70
  go_wp2_with fail
  refine (eqIntS_below ao bo xs xs c d _ hx0 hy0 lx lx).mono ?_
  rintro e w1 ⟨rfl, b1⟩
  have kc29 : w1.cell? ⟨w.heap.size, 0, none⟩ = some (.int .i64 xr) := (Keeps.of_below b1) _ _ _ (by simp [go_sem])
  have kf29 : w1.frozen? ⟨w.heap.size, 0, none⟩ = false := (Below.hot b1 (by simp [go_sem])).trans (by simp [go_sem])
  have kc30 : w1.cell? ⟨w.heap.size, 1, none⟩ = some (.slice ao xs.length c) := (Keeps.of_below b1) _ _ _ (by simp [go_sem])
  have kf30 : w1.frozen? ⟨w.heap.size, 1, none⟩ = false := (Below.hot b1 (by simp [go_sem])).trans (by simp [go_sem])
  have kc31 : w1.cell? ⟨w.heap.size, 2, none⟩ = some (.int .i64 xh) := (Keeps.of_below b1) _ _ _ (by simp [go_sem])
  have kf31 : w1.frozen? ⟨w.heap.size, 2, none⟩ = false := (Below.hot b1 (by simp [go_sem])).trans (by simp [go_sem])
  have kc32 : w1.cell? ⟨w.heap.size, 3, none⟩ = some (.int .i64 xl) := (Keeps.of_below b1) _ _ _ (by simp [go_sem])
  have kf32 : w1.frozen? ⟨w.heap.size, 3, none⟩ = false := (Below.hot b1 (by simp [go_sem])).trans (by simp [go_sem])
  have kc33 : w1.cell? ⟨w.heap.size + 1, 0, none⟩ = some (.int .i64 xr) := (Keeps.of_below b1) _ _ _ (by simp [go_sem])
  have kf33 : w1.frozen? ⟨w.heap.size + 1, 0, none⟩ = false := (Below.hot b1 (by simp [go_sem])).trans (by simp [go_sem])
  have kc34 : w1.cell? ⟨w.heap.size + 1, 1, none⟩ = some (.slice bo xs.length d) := (Keeps.of_below b1) _ _ _ (by simp [go_sem])
  have kf34 : w1.frozen? ⟨w.heap.size + 1, 1, none⟩ = false := (Below.hot b1 (by simp [go_sem])).trans (by simp [go_sem])
  have kc35 : w1.cell? ⟨w.heap.size + 1, 2, none⟩ = some (.int .i64 xh) := (Keeps.of_below b1) _ _ _ (by simp [go_sem])
  have kf35 : w1.frozen? ⟨w.heap.size + 1, 2, none⟩ = false := (Below.hot b1 (by simp [go_sem])).trans (by simp [go_sem])
  have kc36 : w1.cell? ⟨w.heap.size + 1, 3, none⟩ = some (.int .i64 xl) := (Keeps.of_below b1) _ _ _ (by simp [go_sem])
  have kf36 : w1.frozen? ⟨w.heap.size + 1, 3, none⟩ = false := (Below.hot b1 (by simp [go_sem])).trans (by simp [go_sem])
  go_wp2
  go_ret
  exact ⟨ret_bool (by simp), below_join B0.out b1⟩

set_option maxHeartbeats 4000000 in
theorem sameSend_any (xr xh xl yr yh yl : Int) (ao bo : Option Addr) (xs ys : List Int) (c d : Nat) (w : World) (hx : Ints w ao xs) (hy : Ints w bo ys) (lx : xs.length ≤ 4611686018427387904) (ly : ys.length ≤ 4611686018427387904) :
    Calls Try.prog 79 #[.agg #[.int .i64 xr, .slice ao xs.length c, .int .i64 xh, .int .i64 xl], .agg #[.int .i64 yr, .slice bo ys.length d, .int .i64 yh, .int .i64 yl]] w fun e w' => e = .returned (.bool (decide (xr = yr ∧ xs = ys ∧ xh = yh ∧ xl = yl))) ∧ Below w.heap.size w w' := by
  have b0 : Below w.heap.size w ((w.alloc (.cells #[.int .i64 xr, .slice ao xs.length c, .int .i64 xh, .int .i64 xl] 41)).alloc (.cells #[.int .i64 yr, .slice bo ys.length d, .int .i64 yh, .int .i64 yl] 41)) := ((Below.refl _ _).alloc (Nat.le_refl _) _).alloc (by simp) _
  have B0 := Lib.hid b0
  have hx0 := hx.below b0
  have hy0 := hy.below b0
  clear b0
  by_cases hr : xr = yr
  case neg =>
    have hb : (xr == yr) = false := by simpa using hr
    have HN := Lib.hid hr
    clear hr
    go_enter Try.func79, Try.ntmps79
    go_wp2
    go_ret
    exact ⟨ret_bool (by simp [HN.out]), B0.out⟩
  subst hr
  by_cases hh : xh = yh
  case neg =>
    have hb : (xh == yh) = false := by simpa using hh
    have HN := Lib.hid hh
    clear hh
    go_enter Try.func79, Try.ntmps79
    go_wp2
    go_ret
    exact ⟨ret_bool (by simp [HN.out]), B0.out⟩
  subst hh
  by_cases hl : xl = yl
  case neg =>
    have hb : (xl == yl) = false := by simpa using hl
    have HN := Lib.hid hl
    clear hl
    go_enter Try.func79, Try.ntmps79
    go_wp2
    go_ret
    exact ⟨ret_bool (by simp [HN.out]), B0.out⟩
  subst hl
  by_cases hxy : xs = ys
  case neg =>
    have hd : decide (xs = ys) = false := by simpa using hxy
    have HD := Lib.hid hxy
    clear hxy
    go_enter Try.func79, Try.ntmps79
    go_wp2_with fail
    refine (sameInts_below ao bo xs ys c d _ hx0 hy0 lx ly).mono ?_
    rintro e w1 ⟨rfl, b1⟩
    go_wp2
    go_ret
    exact ⟨ret_bool (by simp [HD.out]), below_join B0.out b1⟩
  subst hxy
  go_enter Try.func79, Try.ntmps79
  go_wp2_with fail
  refine (sameInts_below ao bo xs xs c d _ hx0 hy0 lx lx).mono ?_
  rintro e w1 ⟨rfl, b1⟩
  go_wp2
  go_ret
  exact ⟨ret_bool (by simp), below_join B0.out b1⟩

theorem markSender_any (base : Nat) (xr xh xl : Int) (ao : Option Addr) (m c : Nat) (k0 : Int) (vs : List Value) (w : World) (h : w.ownsRow base 3 1 (.slice ao m c) m vs) (hk0 : 0 ≤ k0) (hk1 : k0 + m ≤ 4611686018427387904) :
    Calls Try.prog 73 #[.agg #[.int .i64 xr, .slice ao m c, .int .i64 xh, .int .i64 xl], .int .i64 k0] w fun e w' => e = .returned (.int .i64 (k0 + m)) ∧ w'.ownsRow base 3 1 (.slice ao m c) m (marks k0 m) ∧ w.grownBy w' (Value.slice ao m c).ownBlock := by
  have b0 : Below w.heap.size w (w.alloc (.cells #[.int .i64 xr, .slice ao m c, .int .i64 xh, .int .i64 xl] 41)) := (Below.refl _ _).alloc (Nat.le_refl _) _
  have g0 := only_below b0 (Value.slice ao m c).ownBlock
  have h0 := h.alloc (.cells #[.int .i64 xr, .slice ao m c, .int .i64 xh, .int .i64 xl] 41)
  go_enter Try.func73, Try.ntmps73
  go_wp2_with fail
  refine (markIntS_any base ao m c k0 vs _ h0 hk0 hk1).mono ?_
  rintro e w1 ⟨rfl, h1, g1⟩
  go_wp2
  go_ret
  exact ⟨rfl, h1, grownBy_trans g0 g1⟩

theorem heldSender_any (xr xh xl : Int) (ao : Option Addr) (m c : Nat) (k0 : Int) (w : World) (h : Cells w ao (marks k0 m)) (hk0 : 0 ≤ k0) (hk1 : k0 + m ≤ 4611686018427387904) :
    Calls Try.prog 75 #[.agg #[.int .i64 xr, .slice ao m c, .int .i64 xh, .int .i64 xl], .int .i64 k0] w fun e w' => e = .returned (.int .i64 (k0 + m)) ∧ Below w.heap.size w w' := by
  have b0 : Below w.heap.size w (w.alloc (.cells #[.int .i64 xr, .slice ao m c, .int .i64 xh, .int .i64 xl] 41)) := (Below.refl _ _).alloc (Nat.le_refl _) _
  have h0 := h.below b0
  go_enter Try.func75, Try.ntmps75
  go_wp2_with fail
  refine (heldIntS_below ao m c k0 _ h0 hk0 hk1).mono ?_
  rintro e w1 ⟨rfl, b1⟩
  go_wp2
  go_ret
  exact ⟨rfl, below_join b0 b1⟩
end Go.Proofs.Ytkmampichfbppaa

