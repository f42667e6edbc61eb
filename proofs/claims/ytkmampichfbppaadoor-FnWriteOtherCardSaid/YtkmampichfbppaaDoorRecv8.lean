/- Receiver: sizes, copies, comparison, marks. -/
import Derived.Test.YtkmampichfbppaaDoorGot2
namespace Go.Proofs.YtkmampichfbppaaDoor
open Go.RowKit




set_option maxHeartbeats 4000000 in
theorem sameRecv_any (xr : Int) (xt : Int) (xl : Bool) (xa : Int) (yr : Int) (yt : Int) (yl : Bool) (ya : Int) (ao bo : Option Addr) (xs ys : List Gt) (c d : Nat) (w : World) (hx : Gts w ao xs) (hy : Gts w bo ys) (lx : xs.length ≤ 4611686018427387904) (ly : ys.length ≤ 4611686018427387904) :
    Calls Tryd.prog 11 #[.agg #[.int .i64 xr, .int .i64 xt, .slice ao xs.length c, .bool xl, .int .i64 xa], .agg #[.int .i64 yr, .int .i64 yt, .slice bo ys.length d, .bool yl, .int .i64 ya]] w fun e w' => e = .returned (.bool (decide (xr = yr ∧ xt = yt ∧ xs = ys ∧ xl = yl ∧ xa = ya))) ∧ Below w.heap.size w w' := by
  have b0 : Below w.heap.size w ((w.alloc (.cells #[.int .i64 xr, .int .i64 xt, .slice ao xs.length c, .bool xl, .int .i64 xa] 27)).alloc (.cells #[.int .i64 yr, .int .i64 yt, .slice bo ys.length d, .bool yl, .int .i64 ya] 27)) := ((Below.refl _ _).alloc (Nat.le_refl _) _).alloc (by simp) _
  have B0 := Lib.hid b0
  have hx0 := hx.below b0
  have hy0 := hy.below b0
  clear b0
  by_cases hr : xr = yr
  case neg =>
    have hb : (xr == yr) = false := by simpa using hr
    have HN := Lib.hid hr
    clear hr
    go_enter Tryd.func11, Tryd.ntmps11
    go_wp2
    go_ret
    exact ⟨ret_bool (by simp [HN.out]), B0.out⟩
  subst hr
  by_cases ht : xt = yt
  case neg =>
    have hb : (xt == yt) = false := by simpa using ht
    have HN := Lib.hid ht
    clear ht
    go_enter Tryd.func11, Tryd.ntmps11
    go_wp2
    go_ret
    exact ⟨ret_bool (by simp [HN.out]), B0.out⟩
  subst ht
  by_cases hl : xl = yl
  case neg =>
    have hb : (xl == yl) = false := by simpa using hl
    have HN := Lib.hid hl
    clear hl
    go_enter Tryd.func11, Tryd.ntmps11
    go_wp2
    go_ret
    exact ⟨ret_bool (by simp [HN.out]), B0.out⟩
  subst hl
  by_cases ha : xa = ya
  case neg =>
    have hb : (xa == ya) = false := by simpa using ha
    have HN := Lib.hid ha
    clear ha
    go_enter Tryd.func11, Tryd.ntmps11
    go_wp2
    go_ret
    exact ⟨ret_bool (by simp [HN.out]), B0.out⟩
  subst ha
  by_cases hxy : xs = ys
  case neg =>
    have hd : decide (xs = ys) = false := by simpa using hxy
    have HD := Lib.hid hxy
    clear hxy
    go_enter Tryd.func11, Tryd.ntmps11
    go_wp2_with fail
    refine (sameGot_below ao bo xs ys c d _ hx0 hy0 lx ly).mono ?_
    rintro e w1 ⟨rfl, b1⟩
    go_wp2
    go_ret
    exact ⟨ret_bool (by simp [HD.out]), below_join B0.out b1⟩
  subst hxy
  go_enter Tryd.func11, Tryd.ntmps11
  go_wp2_with fail
  refine (sameGot_below ao bo xs xs c d _ hx0 hy0 lx lx).mono ?_
  rintro e w1 ⟨rfl, b1⟩
  go_wp2
  go_ret
  exact ⟨ret_bool (by simp), below_join B0.out b1⟩


end Go.Proofs.YtkmampichfbppaaDoor

