/- Ports and drivers: comparison of two that hold the same. -/
import Derived.Test.YtkmampichfbppaaDoorDriver3
import Derived.Test.YtkmampichfbppaaDoorRecv8
namespace Go.Proofs.YtkmampichfbppaaDoor
open Go.RowKit

set_option maxHeartbeats 4000000 in
set_option maxRecDepth 100000 in
theorem samePort_eq (d : PortD) (A B : PortA) (w : World) (hA : PortM w d A) (hB : PortM w d B) (lg : d.gs.length ≤ 1048576) (ly : d.ys.length ≤ 1048576) :
    Calls Tryd.prog 9 #[.agg (portC d A), .agg (portC d B)] w fun e w' => e = .returned (.bool true) ∧ Below w.heap.size w w' := by
  have b0 : Below w.heap.size w ((w.alloc (.cells (portC d A) 34)).alloc (.cells (portC d B) 34)) := ((Below.refl _ _).alloc (Nat.le_refl _) _).alloc (by simp) _
  have H0 := box_alloc (heap_new_at w (.cells (portC d A) 34) _ rfl) (.cells (portC d B) 34)
  have G0 := heap_new_at (w.alloc (.cells (portC d A) 34)) (.cells (portC d B) 34) (w.heap.size + 1) (by simp)
  have hA0 := hA.below b0
  have hB0 := hB.below b0
  have c3 := box_cell H0 3 (v := .int .i64 d.en) rfl
  have c4 := box_cell H0 4 (v := .int .i64 d.co) rfl
  have e3 := box_cell G0 3 (v := .int .i64 d.en) rfl
  have e4 := box_cell G0 4 (v := .int .i64 d.co) rfl
  go_enter Tryd.func9, Tryd.ntmps9
  go_wp2_with (first
    | (refine wpList_load_box _ rfl (by rfl) (b := w.heap.size) (off := 0) (n := 3) rfl H0 Tryd.underlying24 (by kernel_rfl) (Nat.le_of_ble_eq_true rfl) (#[.int .i64 d.b, .int .i64 d.p, .int .i64 d.s]) rfl ?_)
    | (refine wpList_load_box _ rfl (by rfl) (b := w.heap.size + 1) (off := 0) (n := 3) rfl G0 Tryd.underlying24 (by kernel_rfl) (Nat.le_of_ble_eq_true rfl) (#[.int .i64 d.b, .int .i64 d.p, .int .i64 d.s]) rfl ?_)
    | (refine wpList_load_box _ rfl (by rfl) (b := w.heap.size) (off := 14) (n := 4) rfl H0 Tryd.underlying32 (by kernel_rfl) (Nat.le_of_ble_eq_true rfl) (#[.bool d.m1, .bool d.m2, .bool d.m3, .bool d.m4]) rfl ?_)
    | (refine wpList_load_box _ rfl (by rfl) (b := w.heap.size + 1) (off := 14) (n := 4) rfl G0 Tryd.underlying32 (by kernel_rfl) (Nat.le_of_ble_eq_true rfl) (#[.bool d.m1, .bool d.m2, .bool d.m3, .bool d.m4]) rfl ?_)
    | (refine wpList_load_box _ rfl (by rfl) (b := w.heap.size) (off := 5) (n := 5) rfl H0 Tryd.underlying27 (by kernel_rfl) (Nat.le_of_ble_eq_true rfl) (#[.int .i64 d.r, .int .i64 d.t, .slice A.ax d.gs.length A.cx, .bool d.l, .int .i64 d.ag]) rfl ?_)
    | (refine wpList_load_box _ rfl (by rfl) (b := w.heap.size + 1) (off := 5) (n := 5) rfl G0 Tryd.underlying27 (by kernel_rfl) (Nat.le_of_ble_eq_true rfl) (#[.int .i64 d.r, .int .i64 d.t, .slice B.ax d.gs.length B.cx, .bool d.l, .int .i64 d.ag]) rfl ?_))
  refine (sameRecv_any d.r d.t d.l d.ag d.r d.t d.l d.ag A.ax B.ax d.gs d.gs A.cx B.cx _ hA0.1 hB0.1 (by omega) (by omega)).mono ?_
  rintro e w1 ⟨rfl, b1⟩
  have B1 := below_join b0 b1
  have H1 := (b1.block _ (box_lt H0)).trans H0
  have G1 := (b1.block _ (box_lt G0)).trans G0
  have hA1 := hA0.below b1
  have hB1 := hB0.below b1
  clear c3 c4 e3 e4
  go_wp2_with (first
    | (refine wpList_load_box _ rfl (by rfl) (b := w.heap.size) (off := 10) (n := 4) rfl H1 Tryd.underlying30 (by kernel_rfl) (Nat.le_of_ble_eq_true rfl) (#[.int .i64 d.sr, .slice A.ay d.ys.length A.cy, .int .i64 d.sh, .int .i64 d.sl]) rfl ?_)
    | (refine wpList_load_box _ rfl (by rfl) (b := w.heap.size + 1) (off := 10) (n := 4) rfl G1 Tryd.underlying30 (by kernel_rfl) (Nat.le_of_ble_eq_true rfl) (#[.int .i64 d.sr, .slice B.ay d.ys.length B.cy, .int .i64 d.sh, .int .i64 d.sl]) rfl ?_))
  refine (sameSend_any d.sr d.sh d.sl d.sr d.sh d.sl A.ay B.ay d.ys d.ys A.cy B.cy _ hA1.2 hB1.2 (by omega) (by omega)).mono ?_
  rintro e w2 ⟨rfl, b2⟩
  go_wp2
  go_ret
  exact ⟨ret_bool (by simp), below_join B1 b2⟩
end Go.Proofs.YtkmampichfbppaaDoor
