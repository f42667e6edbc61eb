/- Sender: sizes, copies, comparison, marks. -/
import Derived.Test.YtkmampichfbppaaDoorSz
namespace Go.Proofs.YtkmampichfbppaaDoor
open Go.RowKit




set_option maxHeartbeats 4000000 in
theorem sameSend_any (xr xh xl yr yh yl : Int) (ao bo : Option Addr) (xs ys : List Int) (c d : Nat) (w : World) (hx : Ints w ao xs) (hy : Ints w bo ys) (lx : xs.length ≤ 4611686018427387904) (ly : ys.length ≤ 4611686018427387904) :
    Calls Tryd.prog 12 #[.agg #[.int .i64 xr, .slice ao xs.length c, .int .i64 xh, .int .i64 xl], .agg #[.int .i64 yr, .slice bo ys.length d, .int .i64 yh, .int .i64 yl]] w fun e w' => e = .returned (.bool (decide (xr = yr ∧ xs = ys ∧ xh = yh ∧ xl = yl))) ∧ Below w.heap.size w w' := by
  have b0 : Below w.heap.size w ((w.alloc (.cells #[.int .i64 xr, .slice ao xs.length c, .int .i64 xh, .int .i64 xl] 30)).alloc (.cells #[.int .i64 yr, .slice bo ys.length d, .int .i64 yh, .int .i64 yl] 30)) := ((Below.refl _ _).alloc (Nat.le_refl _) _).alloc (by simp) _
  have B0 := Lib.hid b0
  have hx0 := hx.below b0
  have hy0 := hy.below b0
  clear b0
  by_cases hr : xr = yr
  case neg =>
    have hb : (xr == yr) = false := by simpa using hr
    have HN := Lib.hid hr
    clear hr
    go_enter Tryd.func12, Tryd.ntmps12
    go_wp2
    go_ret
    exact ⟨ret_bool (by simp [HN.out]), B0.out⟩
  subst hr
  by_cases hh : xh = yh
  case neg =>
    have hb : (xh == yh) = false := by simpa using hh
    have HN := Lib.hid hh
    clear hh
    go_enter Tryd.func12, Tryd.ntmps12
    go_wp2
    go_ret
    exact ⟨ret_bool (by simp [HN.out]), B0.out⟩
  subst hh
  by_cases hl : xl = yl
  case neg =>
    have hb : (xl == yl) = false := by simpa using hl
    have HN := Lib.hid hl
    clear hl
    go_enter Tryd.func12, Tryd.ntmps12
    go_wp2
    go_ret
    exact ⟨ret_bool (by simp [HN.out]), B0.out⟩
  subst hl
  by_cases hxy : xs = ys
  case neg =>
    have hd : decide (xs = ys) = false := by simpa using hxy
    have HD := Lib.hid hxy
    clear hxy
    go_enter Tryd.func12, Tryd.ntmps12
    go_wp2_with fail
    refine (sameInts_below ao bo xs ys c d _ hx0 hy0 lx ly).mono ?_
    rintro e w1 ⟨rfl, b1⟩
    go_wp2
    go_ret
    exact ⟨ret_bool (by simp [HD.out]), below_join B0.out b1⟩
  subst hxy
  go_enter Tryd.func12, Tryd.ntmps12
  go_wp2_with fail
  refine (sameInts_below ao bo xs xs c d _ hx0 hy0 lx lx).mono ?_
  rintro e w1 ⟨rfl, b1⟩
  go_wp2
  go_ret
  exact ⟨ret_bool (by simp), below_join B0.out b1⟩


end Go.Proofs.YtkmampichfbppaaDoor

