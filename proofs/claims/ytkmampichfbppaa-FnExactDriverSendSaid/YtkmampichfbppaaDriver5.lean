/- Ports and drivers: comparison of two that hold the same. -/
import Derived.Test.YtkmampichfbppaaDriver3
import Derived.Test.YtkmampichfbppaaRecv8
namespace Go.Proofs.Ytkmampichfbppaa
open Go.RowKit

set_option maxHeartbeats 4000000 in
set_option maxRecDepth 100000 in
theorem samePort_eq (d : PortD) (A B : PortA) (w : World) (hA : PortM w d A) (hB : PortM w d B) (lg : d.gs.length ≤ 1048576) (ly : d.ys.length ≤ 1048576) :
    Calls Try.prog 49 #[.agg (portC d A), .agg (portC d B)] w fun e w' => e = .returned (.bool true) ∧ Below w.heap.size w w' := by
  have b0 : Below w.heap.size w ((w.alloc (.cells (portC d A) 44)).alloc (.cells (portC d B) 44)) := ((Below.refl _ _).alloc (Nat.le_refl _) _).alloc (by simp) _
  have H0 := box_alloc (heap_new_at w (.cells (portC d A) 44) _ rfl) (.cells (portC d B) 44)
  have G0 := heap_new_at (w.alloc (.cells (portC d A) 44)) (.cells (portC d B) 44) (w.heap.size + 1) (by simp)
  have hA0 := hA.below b0
  have hB0 := hB.below b0
  have c3 := box_cell H0 3 (v := .int .i64 d.en) rfl
  have c4 := box_cell H0 4 (v := .int .i64 d.co) rfl
  have e3 := box_cell G0 3 (v := .int .i64 d.en) rfl
  have e4 := box_cell G0 4 (v := .int .i64 d.co) rfl
  go_enter Try.func49, Try.ntmps49
  go_wp2_with (first
    | (refine wpList_load_box _ rfl (by rfl) (b := w.heap.size) (off := 0) (n := 3) rfl H0 Try.underlying37 (by kernel_rfl) (Nat.le_of_ble_eq_true rfl) (#[.int .i64 d.b, .int .i64 d.p, .int .i64 d.s]) rfl ?_)
    | (refine wpList_load_box _ rfl (by rfl) (b := w.heap.size + 1) (off := 0) (n := 3) rfl G0 Try.underlying37 (by kernel_rfl) (Nat.le_of_ble_eq_true rfl) (#[.int .i64 d.b, .int .i64 d.p, .int .i64 d.s]) rfl ?_)
    | (refine wpList_load_box _ rfl (by rfl) (b := w.heap.size) (off := 14) (n := 4) rfl H0 Try.underlying42 (by kernel_rfl) (Nat.le_of_ble_eq_true rfl) (#[.bool d.m1, .bool d.m2, .bool d.m3, .bool d.m4]) rfl ?_)
    | (refine wpList_load_box _ rfl (by rfl) (b := w.heap.size + 1) (off := 14) (n := 4) rfl G0 Try.underlying42 (by kernel_rfl) (Nat.le_of_ble_eq_true rfl) (#[.bool d.m1, .bool d.m2, .bool d.m3, .bool d.m4]) rfl ?_)
    | (refine wpList_load_box _ rfl (by rfl) (b := w.heap.size) (off := 5) (n := 5) rfl H0 Try.underlying40 (by kernel_rfl) (Nat.le_of_ble_eq_true rfl) (#[.int .i64 d.r, .int .i64 d.t, .slice A.ax d.gs.length A.cx, .bool d.l, .int .i64 d.ag]) rfl ?_)
    | (refine wpList_load_box _ rfl (by rfl) (b := w.heap.size + 1) (off := 5) (n := 5) rfl G0 Try.underlying40 (by kernel_rfl) (Nat.le_of_ble_eq_true rfl) (#[.int .i64 d.r, .int .i64 d.t, .slice B.ax d.gs.length B.cx, .bool d.l, .int .i64 d.ag]) rfl ?_))
  refine (sameRecv_any d.r d.t d.l d.ag d.r d.t d.l d.ag A.ax B.ax d.gs d.gs A.cx B.cx _ hA0.1 hB0.1 (by omega) (by omega)).mono ?_
  rintro e w1 ⟨rfl, b1⟩
  have B1 := below_join b0 b1
  have H1 := (b1.block _ (box_lt H0)).trans H0
  have G1 := (b1.block _ (box_lt G0)).trans G0
  have hA1 := hA0.below b1
  have hB1 := hB0.below b1
  clear c3 c4 e3 e4
  go_wp2_with (first
    | (refine wpList_load_box _ rfl (by rfl) (b := w.heap.size) (off := 10) (n := 4) rfl H1 Try.underlying41 (by kernel_rfl) (Nat.le_of_ble_eq_true rfl) (#[.int .i64 d.sr, .slice A.ay d.ys.length A.cy, .int .i64 d.sh, .int .i64 d.sl]) rfl ?_)
    | (refine wpList_load_box _ rfl (by rfl) (b := w.heap.size + 1) (off := 10) (n := 4) rfl G1 Try.underlying41 (by kernel_rfl) (Nat.le_of_ble_eq_true rfl) (#[.int .i64 d.sr, .slice B.ay d.ys.length B.cy, .int .i64 d.sh, .int .i64 d.sl]) rfl ?_))
  refine (sameSend_any d.sr d.sh d.sl d.sr d.sh d.sl A.ay B.ay d.ys d.ys A.cy B.cy _ hA1.2 hB1.2 (by omega) (by omega)).mono ?_
  rintro e w2 ⟨rfl, b2⟩
  go_wp2
  go_ret
  exact ⟨ret_bool (by simp), below_join B1 b2⟩
set_option maxHeartbeats 4000000 in
set_option maxRecDepth 100000 in
theorem sameDriver_eq (d : DrvD) (A B : DrvA) (w : World) (hA : DrvM w d A) (hB : DrvM w d B) (hl : DrvL d) :
    Calls Try.prog 26 #[.agg (drvC d A), .agg (drvC d B)] w fun e w' => e = .returned (.bool true) ∧ Below w.heap.size w w' := by
  have b0 : Below w.heap.size w ((w.alloc (.cells (drvC d A) 46)).alloc (.cells (drvC d B) 46)) := ((Below.refl _ _).alloc (Nat.le_refl _) _).alloc (by simp) _
  have H0 := box_alloc (heap_new_at w (.cells (drvC d A) 46) _ rfl) (.cells (drvC d B) 46)
  have G0 := heap_new_at (w.alloc (.cells (drvC d A) 46)) (.cells (drvC d B) 46) (w.heap.size + 1) (by simp)
  have hA0 := hA.below b0
  have hB0 := hB.below b0
  have li := hl.2.2.1
  have lo := hl.2.2.2
  go_enter Try.func26, Try.ntmps26
  go_wp2_with (first
    | (refine wpList_load_box _ rfl (by rfl) (b := w.heap.size) (off := 0) (n := 18) rfl H0 Try.underlying44 (by kernel_rfl) (Nat.le_of_ble_eq_true rfl) (portC d.p A.p) rfl ?_)
    | (refine wpList_load_box _ rfl (by rfl) (b := w.heap.size + 1) (off := 0) (n := 18) rfl G0 Try.underlying44 (by kernel_rfl) (Nat.le_of_ble_eq_true rfl) (portC d.p B.p) rfl ?_))
  refine (samePort_eq d.p A.p B.p _ hA0.1 hB0.1 hl.1 hl.2.1).mono ?_
  rintro e w1 ⟨rfl, b1⟩
  have B1 := below_join b0 b1
  have H1 := (b1.block _ (box_lt H0)).trans H0
  have G1 := (b1.block _ (box_lt G0)).trans G0
  have hA1 := hA0.below b1
  have hB1 := hB0.below b1
  have c18 := box_cell H1 18 (v := .slice A.ai d.i.length A.ci) rfl
  have e18 := box_cell G1 18 (v := .slice B.ai d.i.length B.ci) rfl
  go_wp2_with fail
  refine (sameInts_below A.ai B.ai d.i d.i A.ci B.ci w1 hA1.2.1 hB1.2.1 (by omega) (by omega)).mono ?_
  rintro e w2 ⟨rfl, b2⟩
  have B2 := below_join B1 b2
  have H2 := (b2.block _ (box_lt H1)).trans H1
  have G2 := (b2.block _ (box_lt G1)).trans G1
  have hA2 := hA1.below b2
  have hB2 := hB1.below b2
  clear c18 e18
  have c19 := box_cell H2 19 (v := .slice A.ao d.o.length A.co) rfl
  have e19 := box_cell G2 19 (v := .slice B.ao d.o.length B.co) rfl
  go_wp2_with fail
  refine (sameInts_below A.ao B.ao d.o d.o A.co B.co w2 hA2.2.2 hB2.2.2 (by omega) (by omega)).mono ?_
  rintro e w3 ⟨rfl, b3⟩
  have H3 := (b3.block _ (box_lt H2)).trans H2
  have G3 := (b3.block _ (box_lt G2)).trans G2
  clear c19 e19
  have c20 := box_cell H3 20 (v := .int .i64 d.wr) rfl
  have e20 := box_cell G3 20 (v := .int .i64 d.wr) rfl
  have c21 := box_cell H3 21 (v := .int .i64 d.lo) rfl
  have e21 := box_cell G3 21 (v := .int .i64 d.lo) rfl
  go_wp2
  go_ret
  exact ⟨ret_bool (by simp), below_join B2 b3⟩
end Go.Proofs.Ytkmampichfbppaa
