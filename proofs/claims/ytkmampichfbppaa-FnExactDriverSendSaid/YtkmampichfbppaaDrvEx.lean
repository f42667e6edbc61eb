/- Ports and drivers: sizes, copies, comparison. -/
import Derived.Test.YtkmampichfbppaaDriver5
import Derived.Test.YtkmampichfbppaaDrvLaw4
import Derived.Test.YtkmampichfbppaaSz
namespace Go.Proofs.Ytkmampichfbppaa
open Go.RowKit

set_option maxHeartbeats 4000000 in
set_option maxRecDepth 100000 in
theorem toFormat_any (b p s : Int) (w : World) : Calls Try.prog 63 #[.agg #[.int .i64 b, .int .i64 p, .int .i64 s]] w fun e w' => e = .returned (.agg #[.int .i64 b, .int .i64 p, .int .i64 s]) ∧ Below w.heap.size w w' := by
  go_enter Try.func63, Try.ntmps63
  go_wp2
  refine bodyPost_ret (v := .agg #[.int .i64 b, .int .i64 p, .int .i64 s]) (by simp [results, Try.results63, go_sem]) rfl ?_
  refine ⟨rfl, ?_⟩
  repeat' (first | exact Below.refl _ _ | exact Nat.le_refl _ | assumption | refine Below.drew ?_ | refine below_drewN ?_ _ | (refine Below.alloc ?_ (by first | exact Nat.le_refl _ | omega | (simp; done) | (simp; omega)) _) | (refine Below.setCell ?_ (by first | exact Nat.le_refl _ | omega | (simp; done) | (simp; omega)) _))
set_option maxHeartbeats 4000000 in
set_option maxRecDepth 100000 in
theorem toModem_any (b p s t : Bool) (w : World) : Calls Try.prog 66 #[.agg #[.bool b, .bool p, .bool s, .bool t]] w fun e w' => e = .returned (.agg #[.bool b, .bool p, .bool s, .bool t]) ∧ Below w.heap.size w w' := by
  go_enter Try.func66, Try.ntmps66
  go_wp2
  refine bodyPost_ret (v := .agg #[.bool b, .bool p, .bool s, .bool t]) (by simp [results, Try.results66, go_sem]) rfl ?_
  refine ⟨rfl, ?_⟩
  repeat' (first | exact Below.refl _ _ | exact Nat.le_refl _ | assumption | refine Below.drew ?_ | refine below_drewN ?_ _ | (refine Below.alloc ?_ (by first | exact Nat.le_refl _ | omega | (simp; done) | (simp; omega)) _) | (refine Below.setCell ?_ (by first | exact Nat.le_refl _ | omega | (simp; done) | (simp; omega)) _))
set_option maxHeartbeats 4000000 in
set_option maxRecDepth 100000 in
theorem eqFormat_eq (b p s : Int) (w : World) : Calls Try.prog 68 #[.agg #[.int .i64 b, .int .i64 p, .int .i64 s], .agg #[.int .i64 b, .int .i64 p, .int .i64 s]] w fun e w' => e = .returned (.bool true) ∧ Below w.heap.size w w' := by
  go_enter Try.func68, Try.ntmps68
  go_wp2
  go_ret
  refine ⟨rfl, ?_⟩
  repeat' (first | exact Below.refl _ _ | exact Nat.le_refl _ | assumption | refine Below.drew ?_ | refine below_drewN ?_ _ | (refine Below.alloc ?_ (by first | exact Nat.le_refl _ | omega | (simp; done) | (simp; omega)) _) | (refine Below.setCell ?_ (by first | exact Nat.le_refl _ | omega | (simp; done) | (simp; omega)) _))
set_option maxHeartbeats 4000000 in
set_option maxRecDepth 100000 in
theorem eqModem_eq (b p s t : Bool) (w : World) : Calls Try.prog 71 #[.agg #[.bool b, .bool p, .bool s, .bool t], .agg #[.bool b, .bool p, .bool s, .bool t]] w fun e w' => e = .returned (.bool true) ∧ Below w.heap.size w w' := by
  cases b <;> cases p <;> cases s <;> cases t
  all_goals
    go_enter Try.func71, Try.ntmps71
    go_wp2
    go_ret
    refine ⟨rfl, ?_⟩
    repeat' (first | exact Below.refl _ _ | exact Nat.le_refl _ | assumption | refine Below.drew ?_ | refine below_drewN ?_ _ | (refine Below.alloc ?_ (by first | exact Nat.le_refl _ | omega | (simp; done) | (simp; omega)) _) | (refine Below.setCell ?_ (by first | exact Nat.le_refl _ | omega | (simp; done) | (simp; omega)) _))
set_option maxHeartbeats 4000000 in
set_option maxRecDepth 100000 in
theorem szPort_yes (d : PortD) (A : PortA) (left : Int) (w : World) (h : (d.gs.length : Int) + (d.ys.length : Int) ≤ left) (h1 : left ≤ 4611686018427387904) :
    Calls Try.prog 33 #[.agg (portC d A), .int .i64 left] w fun e w' => e = .returned (.int .i64 (left - (d.gs.length : Int) - (d.ys.length : Int))) ∧ Below w.heap.size w w' := by
  have b0 : Below w.heap.size w (w.alloc (.cells (portC d A) 33)) := (Below.refl _ _).alloc (Nat.le_refl _) _
  have H0 := heap_new_at w (.cells (portC d A) 33) _ rfl
  go_enter Try.func33, Try.ntmps33
  go_wp2_with (first
    | (refine wpList_load_box _ rfl (by rfl) (b := w.heap.size) (off := 5) (n := 5) rfl H0 Try.underlying26 (by kernel_rfl) (Nat.le_of_ble_eq_true rfl) (#[.int .i64 d.r, .int .i64 d.t, .slice A.ax d.gs.length A.cx, .bool d.l, .int .i64 d.ag]) rfl ?_))
  refine name_calls fun W hW => ?_
  have bW : Below w.heap.size w W := by rw [hW]; exact b0
  have h1 : W.heap[w.heap.size]? = some (.cells (portC d A) 33 (0, 0)) := by rw [hW]; exact H0
  have zW : w.heap.size + 1 ≤ W.heap.size := by rw [hW]; simp
  clear hW b0 H0
  refine (szReceiver_yes d.r d.t d.l d.ag A.ax d.gs.length A.cx left W (by omega) (by omega)).mono ?_
  rintro e w_1 ⟨rfl, b_2⟩
  have zw_1 := b_2.size
  have B_3 := bW.trans (b_2.mono bW.size)
  have H_4 := (b_2.block _ (box_lt h1)).trans h1
  go_wp2_with (first
    | (refine wpList_load_box _ rfl (by rfl) (b := w.heap.size) (off := 10) (n := 4) rfl H_4 Try.underlying29 (by kernel_rfl) (Nat.le_of_ble_eq_true rfl) (#[.int .i64 d.sr, .slice A.ay d.ys.length A.cy, .int .i64 d.sh, .int .i64 d.sl]) rfl ?_
       skip))
  refine (szSender_yes d.sr d.sh d.sl A.ay d.ys.length A.cy (left - (d.gs.length : Int)) w_1 (by omega) (by omega)).mono ?_
  rintro e w_5 ⟨rfl, b_6⟩
  have zw_5 := b_6.size
  have B_7 := B_3.trans (b_6.mono B_3.size)
  have H_8 := (b_6.block _ (box_lt H_4)).trans H_4
  go_wp2
  go_ret
  exact ⟨ret_int (by omega), B_7⟩
set_option maxHeartbeats 4000000 in
set_option maxRecDepth 100000 in
theorem szPort_no (d : PortD) (A : PortA) (left : Int) (w : World) (h : left < (d.gs.length : Int) + (d.ys.length : Int)) (h0 : 0 ≤ left) (h1 : left ≤ 4611686018427387904) (lg : d.gs.length ≤ 9223372036854775807) (ly : d.ys.length ≤ 9223372036854775807) :
    Calls Try.prog 33 #[.agg (portC d A), .int .i64 left] w fun e w' => e = .returned (.int .i64 (-1)) ∧ Below w.heap.size w w' := by
  by_cases hg : (d.gs.length : Int) ≤ left
  case neg =>
    have hg' : left < (d.gs.length : Int) := by omega
    have b0 : Below w.heap.size w (w.alloc (.cells (portC d A) 33)) := (Below.refl _ _).alloc (Nat.le_refl _) _
    have H0 := heap_new_at w (.cells (portC d A) 33) _ rfl
    go_enter Try.func33, Try.ntmps33
    go_wp2_with (first
      | (refine wpList_load_box _ rfl (by rfl) (b := w.heap.size) (off := 5) (n := 5) rfl H0 Try.underlying26 (by kernel_rfl) (Nat.le_of_ble_eq_true rfl) (#[.int .i64 d.r, .int .i64 d.t, .slice A.ax d.gs.length A.cx, .bool d.l, .int .i64 d.ag]) rfl ?_))
    refine name_calls fun W hW => ?_
    have bW : Below w.heap.size w W := by rw [hW]; exact b0
    have h1 : W.heap[w.heap.size]? = some (.cells (portC d A) 33 (0, 0)) := by rw [hW]; exact H0
    have zW : w.heap.size + 1 ≤ W.heap.size := by rw [hW]; simp
    clear hW b0 H0
    refine (szReceiver_no d.r d.t d.l d.ag A.ax d.gs.length A.cx left W (by omega) (by omega) (by omega)).mono ?_
    rintro e w_1 ⟨rfl, b_2⟩
    have zw_1 := b_2.size
    have B_3 := bW.trans (b_2.mono bW.size)
    have H_4 := (b_2.block _ (box_lt h1)).trans h1
    go_wp2
    go_ret
    exact ⟨rfl, B_3⟩
  have b0 : Below w.heap.size w (w.alloc (.cells (portC d A) 33)) := (Below.refl _ _).alloc (Nat.le_refl _) _
  have H0 := heap_new_at w (.cells (portC d A) 33) _ rfl
  go_enter Try.func33, Try.ntmps33
  go_wp2_with (first
    | (refine wpList_load_box _ rfl (by rfl) (b := w.heap.size) (off := 5) (n := 5) rfl H0 Try.underlying26 (by kernel_rfl) (Nat.le_of_ble_eq_true rfl) (#[.int .i64 d.r, .int .i64 d.t, .slice A.ax d.gs.length A.cx, .bool d.l, .int .i64 d.ag]) rfl ?_))
  refine name_calls fun W hW => ?_
  have bW : Below w.heap.size w W := by rw [hW]; exact b0
  have h1 : W.heap[w.heap.size]? = some (.cells (portC d A) 33 (0, 0)) := by rw [hW]; exact H0
  have zW : w.heap.size + 1 ≤ W.heap.size := by rw [hW]; simp
  clear hW b0 H0
  refine (szReceiver_yes d.r d.t d.l d.ag A.ax d.gs.length A.cx left W (by omega) (by omega)).mono ?_
  rintro e w_1 ⟨rfl, b_2⟩
  have zw_1 := b_2.size
  have B_3 := bW.trans (b_2.mono bW.size)
  have H_4 := (b_2.block _ (box_lt h1)).trans h1
  go_wp2_with (first
    | (refine wpList_load_box _ rfl (by rfl) (b := w.heap.size) (off := 10) (n := 4) rfl H_4 Try.underlying29 (by kernel_rfl) (Nat.le_of_ble_eq_true rfl) (#[.int .i64 d.sr, .slice A.ay d.ys.length A.cy, .int .i64 d.sh, .int .i64 d.sl]) rfl ?_
       skip))
  refine (szSender_no d.sr d.sh d.sl A.ay d.ys.length A.cy (left - (d.gs.length : Int)) w_1 (by omega) (by omega) (by omega)).mono ?_
  rintro e w_5 ⟨rfl, b_6⟩
  have zw_5 := b_6.size
  have B_7 := B_3.trans (b_6.mono B_3.size)
  have H_8 := (b_6.block _ (box_lt H_4)).trans H_4
  go_wp2
  go_ret
  exact ⟨rfl, B_7⟩
set_option maxHeartbeats 4000000 in
set_option maxRecDepth 100000 in
theorem szDriver_yes (d : DrvD) (A : DrvA) (left : Int) (w : World) (h : (d.p.gs.length : Int) + (d.p.ys.length : Int) + (d.i.length : Int) + (d.o.length : Int) ≤ left) (h1 : left ≤ 4611686018427387904) :
    Calls Try.prog 11 #[.agg (drvC d A), .int .i64 left] w fun e w' => e = .returned (.int .i64 (left - (d.p.gs.length : Int) - (d.p.ys.length : Int) - (d.i.length : Int) - (d.o.length : Int))) ∧ Below w.heap.size w w' := by
  have b0 : Below w.heap.size w (w.alloc (.cells (drvC d A) 35)) := (Below.refl _ _).alloc (Nat.le_refl _) _
  have H0 := heap_new_at w (.cells (drvC d A) 35) _ rfl
  go_enter Try.func11, Try.ntmps11
  go_wp2_with (first
    | (refine wpList_load_box _ rfl (by rfl) (b := w.heap.size) (off := 0) (n := 18) rfl H0 Try.underlying33 (by kernel_rfl) (Nat.le_of_ble_eq_true rfl) (portC d.p A.p) rfl ?_))
  refine name_calls fun W hW => ?_
  have bW : Below w.heap.size w W := by rw [hW]; exact b0
  have h1 : W.heap[w.heap.size]? = some (.cells (drvC d A) 35 (0, 0)) := by rw [hW]; exact H0
  have zW : w.heap.size + 1 ≤ W.heap.size := by rw [hW]; simp
  clear hW b0 H0
  refine (szPort_yes d.p A.p left W (by omega) (by omega)).mono ?_
  rintro e w_1 ⟨rfl, b_2⟩
  have zw_1 := b_2.size
  have B_3 := bW.trans (b_2.mono bW.size)
  have H_4 := (b_2.block _ (box_lt h1)).trans h1
  have c_5 := box_cell H_4 18 (v := .slice A.ai d.i.length A.ci) rfl
  have lc_5 := box_lt H_4
  go_wp2_with fail
  refine (szIntS_yes A.ai d.i.length A.ci (left - (d.p.gs.length : Int) - (d.p.ys.length : Int)) _ (by omega) (by omega)).mono ?_
  rintro e wq ⟨rfl, rfl⟩
  have c_6 := box_cell H_4 19 (v := .slice A.ao d.o.length A.co) rfl
  have lc_6 := box_lt H_4
  go_wp2_with fail
  refine (szIntS_yes A.ao d.o.length A.co ((left - (d.p.gs.length : Int) - (d.p.ys.length : Int)) - (d.i.length : Int)) _ (by omega) (by omega)).mono ?_
  rintro e wq ⟨rfl, rfl⟩
  go_wp2
  go_ret
  exact ⟨rfl, B_3⟩
set_option maxHeartbeats 4000000 in
set_option maxRecDepth 100000 in
theorem szDriver_no (d : DrvD) (A : DrvA) (left : Int) (w : World) (h : left < (d.p.gs.length : Int) + (d.p.ys.length : Int) + (d.i.length : Int) + (d.o.length : Int)) (h0 : 0 ≤ left) (h1 : left ≤ 4611686018427387904) (lg : d.p.gs.length ≤ 9223372036854775807) (ly : d.p.ys.length ≤ 9223372036854775807) (li : d.i.length ≤ 9223372036854775807) (lo : d.o.length ≤ 9223372036854775807) :
    Calls Try.prog 11 #[.agg (drvC d A), .int .i64 left] w fun e w' => e = .returned (.int .i64 (-1)) ∧ Below w.heap.size w w' := by
  by_cases hg0 : (d.p.gs.length : Int) + (d.p.ys.length : Int) ≤ left
  case neg =>
    have hg' : left < (d.p.gs.length : Int) + (d.p.ys.length : Int) := by omega
    have b0 : Below w.heap.size w (w.alloc (.cells (drvC d A) 35)) := (Below.refl _ _).alloc (Nat.le_refl _) _
    have H0 := heap_new_at w (.cells (drvC d A) 35) _ rfl
    go_enter Try.func11, Try.ntmps11
    go_wp2_with (first
      | (refine wpList_load_box _ rfl (by rfl) (b := w.heap.size) (off := 0) (n := 18) rfl H0 Try.underlying33 (by kernel_rfl) (Nat.le_of_ble_eq_true rfl) (portC d.p A.p) rfl ?_))
    refine name_calls fun W hW => ?_
    have bW : Below w.heap.size w W := by rw [hW]; exact b0
    have h1 : W.heap[w.heap.size]? = some (.cells (drvC d A) 35 (0, 0)) := by rw [hW]; exact H0
    have zW : w.heap.size + 1 ≤ W.heap.size := by rw [hW]; simp
    clear hW b0 H0
    refine (szPort_no d.p A.p left W (by omega) (by omega) (by omega) (by omega) (by omega)).mono ?_
    rintro e w_1 ⟨rfl, b_2⟩
    have zw_1 := b_2.size
    have B_3 := bW.trans (b_2.mono bW.size)
    have H_4 := (b_2.block _ (box_lt h1)).trans h1
    go_wp2
    go_ret
    exact ⟨rfl, B_3⟩
  by_cases hg1 : (d.i.length : Int) ≤ left - (d.p.gs.length : Int) - (d.p.ys.length : Int)
  case neg =>
    have hg' : left - (d.p.gs.length : Int) - (d.p.ys.length : Int) < (d.i.length : Int) := by omega
    have b0 : Below w.heap.size w (w.alloc (.cells (drvC d A) 35)) := (Below.refl _ _).alloc (Nat.le_refl _) _
    have H0 := heap_new_at w (.cells (drvC d A) 35) _ rfl
    go_enter Try.func11, Try.ntmps11
    go_wp2_with (first
      | (refine wpList_load_box _ rfl (by rfl) (b := w.heap.size) (off := 0) (n := 18) rfl H0 Try.underlying33 (by kernel_rfl) (Nat.le_of_ble_eq_true rfl) (portC d.p A.p) rfl ?_))
    refine name_calls fun W hW => ?_
    have bW : Below w.heap.size w W := by rw [hW]; exact b0
    have h1 : W.heap[w.heap.size]? = some (.cells (drvC d A) 35 (0, 0)) := by rw [hW]; exact H0
    have zW : w.heap.size + 1 ≤ W.heap.size := by rw [hW]; simp
    clear hW b0 H0
    refine (szPort_yes d.p A.p left W (by omega) (by omega)).mono ?_
    rintro e w_1 ⟨rfl, b_2⟩
    have zw_1 := b_2.size
    have B_3 := bW.trans (b_2.mono bW.size)
    have H_4 := (b_2.block _ (box_lt h1)).trans h1
    have c_5 := box_cell H_4 18 (v := .slice A.ai d.i.length A.ci) rfl
    have lc_5 := box_lt H_4
    go_wp2_with fail
    refine (szIntS_no A.ai d.i.length A.ci (left - (d.p.gs.length : Int) - (d.p.ys.length : Int)) _ (by omega) (by omega) (by omega)).mono ?_
    rintro e wq ⟨rfl, rfl⟩
    go_wp2
    go_ret
    exact ⟨rfl, B_3⟩
  have b0 : Below w.heap.size w (w.alloc (.cells (drvC d A) 35)) := (Below.refl _ _).alloc (Nat.le_refl _) _
  have H0 := heap_new_at w (.cells (drvC d A) 35) _ rfl
  go_enter Try.func11, Try.ntmps11
  go_wp2_with (first
    | (refine wpList_load_box _ rfl (by rfl) (b := w.heap.size) (off := 0) (n := 18) rfl H0 Try.underlying33 (by kernel_rfl) (Nat.le_of_ble_eq_true rfl) (portC d.p A.p) rfl ?_))
  refine name_calls fun W hW => ?_
  have bW : Below w.heap.size w W := by rw [hW]; exact b0
  have h1 : W.heap[w.heap.size]? = some (.cells (drvC d A) 35 (0, 0)) := by rw [hW]; exact H0
  have zW : w.heap.size + 1 ≤ W.heap.size := by rw [hW]; simp
  clear hW b0 H0
  refine (szPort_yes d.p A.p left W (by omega) (by omega)).mono ?_
  rintro e w_1 ⟨rfl, b_2⟩
  have zw_1 := b_2.size
  have B_3 := bW.trans (b_2.mono bW.size)
  have H_4 := (b_2.block _ (box_lt h1)).trans h1
  have c_5 := box_cell H_4 18 (v := .slice A.ai d.i.length A.ci) rfl
  have lc_5 := box_lt H_4
  go_wp2_with fail
  refine (szIntS_yes A.ai d.i.length A.ci (left - (d.p.gs.length : Int) - (d.p.ys.length : Int)) _ (by omega) (by omega)).mono ?_
  rintro e wq ⟨rfl, rfl⟩
  have c_6 := box_cell H_4 19 (v := .slice A.ao d.o.length A.co) rfl
  have lc_6 := box_lt H_4
  go_wp2_with fail
  refine (szIntS_no A.ao d.o.length A.co ((left - (d.p.gs.length : Int) - (d.p.ys.length : Int)) - (d.i.length : Int)) _ (by omega) (by omega) (by omega)).mono ?_
  rintro e wq ⟨rfl, rfl⟩
  go_wp2
  go_ret
  exact ⟨rfl, B_3⟩
set_option maxHeartbeats 4000000 in
set_option maxRecDepth 100000 in
theorem toPort_any (d : PortD) (A : PortA) (w : World) (hm : PortM w d A) (lg : d.gs.length ≤ 1048576) (ly : d.ys.length ≤ 1048576) :
    Calls Try.prog 38 #[.agg (portC d A)] w fun e w' => ∃ A1 : PortA, e = .returned (.agg (portC d A1)) ∧ OwnG w' w.heap.size A1.ax A1.cx d.gs ∧ OwnI w' w.heap.size A1.ay A1.cy d.ys ∧ Below w.heap.size w w' := by
  have b0 : Below w.heap.size w (((w.alloc (.cells (portC d A) 33)).alloc (.cells (portC zPort zPortA) 44)).alloc (.cells (portC zPort zPortA) 44)) := (((Below.refl _ _).alloc (Nat.le_refl _) _).alloc (by simp) _).alloc (by simp; omega) _
  have H0 := box_alloc (box_alloc (heap_new_at w (.cells (portC d A) 33) _ rfl) (.cells (portC zPort zPortA) 44)) (.cells (portC zPort zPortA) 44)
  have G0 := box_alloc (heap_new_at (w.alloc (.cells (portC d A) 33)) (.cells (portC zPort zPortA) 44) (w.heap.size + 1) (by simp)) (.cells (portC zPort zPortA) 44)
  have F0 := heap_new_at ((w.alloc (.cells (portC d A) 33)).alloc (.cells (portC zPort zPortA) 44)) (.cells (portC zPort zPortA) 44) (w.heap.size + 1 + 1) (by simp)
  go_enter Try.func38, Try.ntmps38
  go_wp2_with (first
    | (refine wpList_load_box _ rfl (by rfl) (b := w.heap.size) (off := 0) (n := 3) rfl H0 Try.underlying23 (by kernel_rfl) (Nat.le_of_ble_eq_true rfl) (#[.int .i64 d.b, .int .i64 d.p, .int .i64 d.s]) rfl ?_))
  refine name_calls fun W hW => ?_
  have bW : Below w.heap.size w W := by rw [hW]; exact b0
  have h1 : W.heap[w.heap.size]? = some (.cells (portC d A) 33 (0, 0)) := by rw [hW]; exact H0
  have h2 : W.heap[w.heap.size + 1]? = some (.cells ((portC zPort zPortA)) 44 (0, 0)) := by rw [hW]; exact G0
  have h3 : W.heap[w.heap.size + 1 + 1]? = some (.cells ((portC zPort zPortA)) 44 (0, 0)) := by rw [hW]; exact F0
  have zW : w.heap.size + 1 + 1 + 1 ≤ W.heap.size := by rw [hW]; simp
  clear hW b0 H0 G0 F0
  refine (toFormat_any d.b d.p d.s W).mono ?_
  rintro e w_1 ⟨rfl, b_2⟩
  have zw_1 := b_2.size
  have B_3 := bW.trans (b_2.mono bW.size)
  have H_4 := (b_2.block _ (box_lt h1)).trans h1
  have H_5 := (b_2.block _ (box_lt h2)).trans h2
  have H_6 := (b_2.block _ (box_lt h3)).trans h3
  go_wp2_with (first
    | (refine wpList_store_any _ rfl rfl (by rfl) (b := w.heap.size + 1 + 1) (off := 0) (n := 3) rfl rfl (vs := #[.int .i64 d.b, .int .i64 d.p, .int .i64 d.s]) rfl H_6 (by kernel_rfl) rfl rfl (Nat.le_of_ble_eq_true rfl) (portC { zPort with b := d.b, p := d.p, s := d.s } zPortA) rfl ?_
       intro w_7 H_8 g_9
       have zw_7 := g_9.size
       have B_10 := below_only B_3 g_9 (by omega)
       have H_11 := box_only' H_4 g_9 (by omega)
       have H_12 := box_only' H_5 g_9 (by omega)
       have c_13 := box_cell H_11 3 (v := .int .i64 d.en) rfl
       have lc_13 := box_lt H_11
       have c_14 := box_cell H_11 4 (v := .int .i64 d.co) rfl
       have lc_14 := box_lt H_11
       skip)
    | (refine wpList_store_any _ rfl rfl (by rfl) (b := w.heap.size + 1 + 1) (off := 3) (n := 1) rfl rfl (vs := #[.int .i64 d.en]) rfl H_8 (by kernel_rfl) rfl rfl (Nat.le_of_ble_eq_true rfl) (portC { zPort with b := d.b, p := d.p, s := d.s, en := d.en } zPortA) rfl ?_
       intro w_15 H_16 g_17
       have zw_15 := g_17.size
       have B_18 := below_only B_10 g_17 (by omega)
       have H_19 := box_only' H_11 g_17 (by omega)
       have H_20 := box_only' H_12 g_17 (by omega)
       have c_21 := box_cell H_19 4 (v := .int .i64 d.co) rfl
       have lc_21 := box_lt H_19
       skip)
    | (refine wpList_store_any _ rfl rfl (by rfl) (b := w.heap.size + 1 + 1) (off := 4) (n := 1) rfl rfl (vs := #[.int .i64 d.co]) rfl H_16 (by kernel_rfl) rfl rfl (Nat.le_of_ble_eq_true rfl) (portC { zPort with b := d.b, p := d.p, s := d.s, en := d.en, co := d.co } zPortA) rfl ?_
       intro w_22 H_23 g_24
       have zw_22 := g_24.size
       have B_25 := below_only B_18 g_24 (by omega)
       have H_26 := box_only' H_19 g_24 (by omega)
       have H_27 := box_only' H_20 g_24 (by omega)
       skip)
    | (refine wpList_load_box _ rfl (by rfl) (b := w.heap.size) (off := 5) (n := 5) rfl H_26 Try.underlying26 (by kernel_rfl) (Nat.le_of_ble_eq_true rfl) (#[.int .i64 d.r, .int .i64 d.t, .slice A.ax d.gs.length A.cx, .bool d.l, .int .i64 d.ag]) rfl ?_
       skip))
  refine (toReceiver_any d.r d.t d.l d.ag A.ax d.gs A.cx w_22 (hm.1.below B_25) lg).mono ?_
  rintro e w_28 ⟨a1, c1, rfl, o1, b_29⟩
  have zw_28 := b_29.size
  have B_30 := B_25.trans (b_29.mono B_25.size)
  have H_31 := (b_29.block _ (box_lt H_26)).trans H_26
  have H_32 := (b_29.block _ (box_lt H_27)).trans H_27
  have H_33 := (b_29.block _ (box_lt H_23)).trans H_23
  go_wp2_with (first
    | (refine wpList_store_any _ rfl rfl (by rfl) (b := w.heap.size + 1 + 1) (off := 5) (n := 5) rfl rfl (vs := #[.int .i64 d.r, .int .i64 d.t, .slice a1 d.gs.length c1, .bool d.l, .int .i64 d.ag]) rfl H_33 (by kernel_rfl) rfl rfl (Nat.le_of_ble_eq_true rfl) (portC { zPort with b := d.b, p := d.p, s := d.s, en := d.en, co := d.co, r := d.r, t := d.t, gs := d.gs, l := d.l, ag := d.ag } ⟨a1, c1, none, 0⟩) rfl ?_
       intro w_34 H_35 g_36
       have zw_34 := g_36.size
       have B_37 := below_only B_30 g_36 (by omega)
       have H_38 := box_only' H_31 g_36 (by omega)
       have H_39 := box_only' H_32 g_36 (by omega)
       have o_40 := own_ty o1 H_33 (by decide) g_36
       skip)
    | (refine wpList_load_box _ rfl (by rfl) (b := w.heap.size) (off := 10) (n := 4) rfl H_38 Try.underlying29 (by kernel_rfl) (Nat.le_of_ble_eq_true rfl) (#[.int .i64 d.sr, .slice A.ay d.ys.length A.cy, .int .i64 d.sh, .int .i64 d.sl]) rfl ?_
       skip))
  refine (toSender_any d.sr d.sh d.sl A.ay d.ys A.cy w_34 (hm.2.below B_37) ly).mono ?_
  rintro e w_41 ⟨a2, c2, rfl, o2, b_42⟩
  have zw_41 := b_42.size
  have B_43 := B_37.trans (b_42.mono B_37.size)
  have H_44 := (b_42.block _ (box_lt H_38)).trans H_38
  have H_45 := (b_42.block _ (box_lt H_39)).trans H_39
  have H_46 := (b_42.block _ (box_lt H_35)).trans H_35
  have o_47 := own_below o_40 b_42
  go_wp2_with (first
    | (refine wpList_store_any _ rfl rfl (by rfl) (b := w.heap.size + 1 + 1) (off := 10) (n := 4) rfl rfl (vs := #[.int .i64 d.sr, .slice a2 d.ys.length c2, .int .i64 d.sh, .int .i64 d.sl]) rfl H_46 (by kernel_rfl) rfl rfl (Nat.le_of_ble_eq_true rfl) (portC { zPort with b := d.b, p := d.p, s := d.s, en := d.en, co := d.co, r := d.r, t := d.t, gs := d.gs, l := d.l, ag := d.ag, sr := d.sr, ys := d.ys, sh := d.sh, sl := d.sl } ⟨a1, c1, a2, c2⟩) rfl ?_
       intro w_48 H_49 g_50
       have zw_48 := g_50.size
       have B_51 := below_only B_43 g_50 (by omega)
       have H_52 := box_only' H_44 g_50 (by omega)
       have H_53 := box_only' H_45 g_50 (by omega)
       have o_54 := own_ty o_47 H_46 (by decide) g_50
       have o_55 := own_ty o2 H_46 (by decide) g_50
       skip)
    | (refine wpList_load_box _ rfl (by rfl) (b := w.heap.size) (off := 14) (n := 4) rfl H_52 Try.underlying31 (by kernel_rfl) (Nat.le_of_ble_eq_true rfl) (#[.bool d.m1, .bool d.m2, .bool d.m3, .bool d.m4]) rfl ?_
       skip))
  refine (toModem_any d.m1 d.m2 d.m3 d.m4 w_48).mono ?_
  rintro e w_56 ⟨rfl, b_57⟩
  have zw_56 := b_57.size
  have B_58 := B_51.trans (b_57.mono B_51.size)
  have H_59 := (b_57.block _ (box_lt H_52)).trans H_52
  have H_60 := (b_57.block _ (box_lt H_53)).trans H_53
  have H_61 := (b_57.block _ (box_lt H_49)).trans H_49
  have o_62 := own_below o_54 b_57
  have o_63 := own_below o_55 b_57
  go_wp2_with (first
    | (refine wpList_store_any _ rfl rfl (by rfl) (b := w.heap.size + 1 + 1) (off := 14) (n := 4) rfl rfl (vs := #[.bool d.m1, .bool d.m2, .bool d.m3, .bool d.m4]) rfl H_61 (by kernel_rfl) rfl rfl (Nat.le_of_ble_eq_true rfl) (portC d ⟨a1, c1, a2, c2⟩) rfl ?_
       intro w_64 H_65 g_66
       have zw_64 := g_66.size
       have B_67 := below_only B_58 g_66 (by omega)
       have H_68 := box_only' H_59 g_66 (by omega)
       have H_69 := box_only' H_60 g_66 (by omega)
       have o_70 := own_ty o_62 H_61 (by decide) g_66
       have o_71 := own_ty o_63 H_61 (by decide) g_66
       skip)
    | (refine wpList_load_box _ rfl (by rfl) (b := w.heap.size + 1 + 1) (off := 0) (n := 18) rfl H_65 Try.underlying44 (by kernel_rfl) (Nat.le_of_ble_eq_true rfl) (portC d ⟨a1, c1, a2, c2⟩) rfl ?_
       skip)
    | (refine wpList_store_any _ rfl rfl (by rfl) (b := w.heap.size + 1) (off := 0) (n := 18) rfl rfl (vs := portC d ⟨a1, c1, a2, c2⟩) rfl H_69 (by kernel_rfl) rfl rfl (Nat.le_of_ble_eq_true rfl) (portC d ⟨a1, c1, a2, c2⟩) rfl ?_
       intro w_72 H_73 g_74
       have zw_72 := g_74.size
       have B_75 := below_only B_67 g_74 (by omega)
       have H_76 := box_only' H_68 g_74 (by omega)
       have H_77 := box_only' H_65 g_74 (by omega)
       have o_78 := own_ty o_70 H_69 (by decide) g_74
       have o_79 := own_ty o_71 H_69 (by decide) g_74
       skip))
  refine bodyPost_ret (results_cell Try.results38 rfl (load_box (P := Try.prog) H_73 Try.underlying44 (by kernel_rfl) rfl)) rfl ?_
  exact ⟨⟨a1, c1, a2, c2⟩, rfl, own_base o_78 (by omega), own_base o_79 (by omega), B_75⟩
set_option maxHeartbeats 4000000 in
set_option maxRecDepth 100000 in
theorem toDriver_any (d : DrvD) (A : DrvA) (w : World) (hm : DrvM w d A) (hl : DrvL d) :
    Calls Try.prog 13 #[.agg (drvC d A)] w fun e w' => ∃ A1 : DrvA, e = .returned (.agg (drvC d A1)) ∧ DrvO w' w.heap.size d A1 ∧ DrvS A1 ∧ Below w.heap.size w w' := by
  have b0 : Below w.heap.size w (((w.alloc (.cells (drvC d A) 35)).alloc (.cells (drvC zDrv zDrvA) 46)).alloc (.cells (drvC zDrv zDrvA) 46)) := (((Below.refl _ _).alloc (Nat.le_refl _) _).alloc (by simp) _).alloc (by simp; omega) _
  have H0 := box_alloc (box_alloc (heap_new_at w (.cells (drvC d A) 35) _ rfl) (.cells (drvC zDrv zDrvA) 46)) (.cells (drvC zDrv zDrvA) 46)
  have G0 := box_alloc (heap_new_at (w.alloc (.cells (drvC d A) 35)) (.cells (drvC zDrv zDrvA) 46) (w.heap.size + 1) (by simp)) (.cells (drvC zDrv zDrvA) 46)
  have F0 := heap_new_at ((w.alloc (.cells (drvC d A) 35)).alloc (.cells (drvC zDrv zDrvA) 46)) (.cells (drvC zDrv zDrvA) 46) (w.heap.size + 1 + 1) (by simp)
  go_enter Try.func13, Try.ntmps13
  go_wp2_with (first
    | (refine wpList_load_box _ rfl (by rfl) (b := w.heap.size) (off := 0) (n := 18) rfl H0 Try.underlying33 (by kernel_rfl) (Nat.le_of_ble_eq_true rfl) (portC d.p A.p) rfl ?_))
  refine name_calls fun W hW => ?_
  have bW : Below w.heap.size w W := by rw [hW]; exact b0
  have h1 : W.heap[w.heap.size]? = some (.cells (drvC d A) 35 (0, 0)) := by rw [hW]; exact H0
  have h2 : W.heap[w.heap.size + 1]? = some (.cells ((drvC zDrv zDrvA)) 46 (0, 0)) := by rw [hW]; exact G0
  have h3 : W.heap[w.heap.size + 1 + 1]? = some (.cells ((drvC zDrv zDrvA)) 46 (0, 0)) := by rw [hW]; exact F0
  have zW : w.heap.size + 1 + 1 + 1 ≤ W.heap.size := by rw [hW]; simp
  clear hW b0 H0 G0 F0
  refine (toPort_any d.p A.p W (hm.1.below bW) hl.1 hl.2.1).mono ?_
  rintro e w_1 ⟨Ap, rfl, o1, o2, b_2⟩
  have zw_1 := b_2.size
  have B_3 := bW.trans (b_2.mono bW.size)
  have H_4 := (b_2.block _ (box_lt h1)).trans h1
  have H_5 := (b_2.block _ (box_lt h2)).trans h2
  have H_6 := (b_2.block _ (box_lt h3)).trans h3
  have iy := own_in o2
  go_wp2_with (first
    | (refine wpList_store_any _ rfl rfl (by rfl) (b := w.heap.size + 1 + 1) (off := 0) (n := 18) rfl rfl (vs := portC d.p Ap) rfl H_6 (by kernel_rfl) rfl rfl (Nat.le_of_ble_eq_true rfl) (drvC { zDrv with p := d.p } ⟨Ap, none, 0, none, 0⟩) rfl ?_
       intro w_7 H_8 g_9
       have zw_7 := g_9.size
       have B_10 := below_only B_3 g_9 (by omega)
       have H_11 := box_only' H_4 g_9 (by omega)
       have H_12 := box_only' H_5 g_9 (by omega)
       have o_13 := own_ty o1 H_6 (by decide) g_9
       have o_14 := own_ty o2 H_6 (by decide) g_9
       have c_15 := box_cell H_11 18 (v := .slice A.ai d.i.length A.ci) rfl
       have lc_15 := box_lt H_11
       skip))
  refine (toIntS_any A.ai d.i A.ci w_7 (hm.2.1.below B_10) hl.2.2.1).mono ?_
  rintro e w_16 ⟨a1, c1, rfl, o3, b_17⟩
  have zw_16 := b_17.size
  have B_18 := B_10.trans (b_17.mono B_10.size)
  have H_19 := (b_17.block _ (box_lt H_11)).trans H_11
  have H_20 := (b_17.block _ (box_lt H_12)).trans H_12
  have H_21 := (b_17.block _ (box_lt H_8)).trans H_8
  have o_22 := own_below o_13 b_17
  have o_23 := own_below o_14 b_17
  have ii := own_in o3
  go_wp2_with (first
    | (refine wpList_store_any _ rfl rfl (by rfl) (b := w.heap.size + 1 + 1) (off := 18) (n := 1) rfl rfl (vs := #[.slice a1 d.i.length c1]) rfl H_21 (by kernel_rfl) rfl rfl (Nat.le_of_ble_eq_true rfl) (drvC { zDrv with p := d.p, i := d.i } ⟨Ap, a1, c1, none, 0⟩) rfl ?_
       intro w_24 H_25 g_26
       have zw_24 := g_26.size
       have B_27 := below_only B_18 g_26 (by omega)
       have H_28 := box_only' H_19 g_26 (by omega)
       have H_29 := box_only' H_20 g_26 (by omega)
       have o_30 := own_ty o_22 H_21 (by decide) g_26
       have o_31 := own_ty o_23 H_21 (by decide) g_26
       have o_32 := own_ty o3 H_21 (by decide) g_26
       have c_33 := box_cell H_28 19 (v := .slice A.ao d.o.length A.co) rfl
       have lc_33 := box_lt H_28
       skip))
  refine (toIntS_any A.ao d.o A.co w_24 (hm.2.2.below B_27) hl.2.2.2).mono ?_
  rintro e w_34 ⟨a2, c2, rfl, o4, b_35⟩
  have zw_34 := b_35.size
  have B_36 := B_27.trans (b_35.mono B_27.size)
  have H_37 := (b_35.block _ (box_lt H_28)).trans H_28
  have H_38 := (b_35.block _ (box_lt H_29)).trans H_29
  have H_39 := (b_35.block _ (box_lt H_25)).trans H_25
  have o_40 := own_below o_30 b_35
  have o_41 := own_below o_31 b_35
  have o_42 := own_below o_32 b_35
  have io := own_in o4
  go_wp2_with (first
    | (refine wpList_store_any _ rfl rfl (by rfl) (b := w.heap.size + 1 + 1) (off := 19) (n := 1) rfl rfl (vs := #[.slice a2 d.o.length c2]) rfl H_39 (by kernel_rfl) rfl rfl (Nat.le_of_ble_eq_true rfl) (drvC { zDrv with p := d.p, i := d.i, o := d.o } ⟨Ap, a1, c1, a2, c2⟩) rfl ?_
       intro w_43 H_44 g_45
       have zw_43 := g_45.size
       have B_46 := below_only B_36 g_45 (by omega)
       have H_47 := box_only' H_37 g_45 (by omega)
       have H_48 := box_only' H_38 g_45 (by omega)
       have o_49 := own_ty o_40 H_39 (by decide) g_45
       have o_50 := own_ty o_41 H_39 (by decide) g_45
       have o_51 := own_ty o_42 H_39 (by decide) g_45
       have o_52 := own_ty o4 H_39 (by decide) g_45
       have c_53 := box_cell H_47 20 (v := .int .i64 d.wr) rfl
       have lc_53 := box_lt H_47
       skip)
    | (refine wpList_store_any _ rfl rfl (by rfl) (b := w.heap.size + 1 + 1) (off := 20) (n := 1) rfl rfl (vs := #[.int .i64 d.wr]) rfl H_44 (by kernel_rfl) rfl rfl (Nat.le_of_ble_eq_true rfl) (drvC { zDrv with p := d.p, i := d.i, o := d.o, wr := d.wr } ⟨Ap, a1, c1, a2, c2⟩) rfl ?_
       intro w_54 H_55 g_56
       have zw_54 := g_56.size
       have B_57 := below_only B_46 g_56 (by omega)
       have H_58 := box_only' H_47 g_56 (by omega)
       have H_59 := box_only' H_48 g_56 (by omega)
       have o_60 := own_ty o_49 H_44 (by decide) g_56
       have o_61 := own_ty o_50 H_44 (by decide) g_56
       have o_62 := own_ty o_51 H_44 (by decide) g_56
       have o_63 := own_ty o_52 H_44 (by decide) g_56
       have c_64 := box_cell H_58 21 (v := .int .i64 d.lo) rfl
       have lc_64 := box_lt H_58
       skip)
    | (refine wpList_store_any _ rfl rfl (by rfl) (b := w.heap.size + 1 + 1) (off := 21) (n := 1) rfl rfl (vs := #[.int .i64 d.lo]) rfl H_55 (by kernel_rfl) rfl rfl (Nat.le_of_ble_eq_true rfl) (drvC d ⟨Ap, a1, c1, a2, c2⟩) rfl ?_
       intro w_65 H_66 g_67
       have zw_65 := g_67.size
       have B_68 := below_only B_57 g_67 (by omega)
       have H_69 := box_only' H_58 g_67 (by omega)
       have H_70 := box_only' H_59 g_67 (by omega)
       have o_71 := own_ty o_60 H_55 (by decide) g_67
       have o_72 := own_ty o_61 H_55 (by decide) g_67
       have o_73 := own_ty o_62 H_55 (by decide) g_67
       have o_74 := own_ty o_63 H_55 (by decide) g_67
       skip)
    | (refine wpList_load_box _ rfl (by rfl) (b := w.heap.size + 1 + 1) (off := 0) (n := 22) rfl H_66 Try.underlying46 (by kernel_rfl) (Nat.le_of_ble_eq_true rfl) (drvC d ⟨Ap, a1, c1, a2, c2⟩) rfl ?_
       skip)
    | (refine wpList_store_any _ rfl rfl (by rfl) (b := w.heap.size + 1) (off := 0) (n := 22) rfl rfl (vs := drvC d ⟨Ap, a1, c1, a2, c2⟩) rfl H_70 (by kernel_rfl) rfl rfl (Nat.le_of_ble_eq_true rfl) (drvC d ⟨Ap, a1, c1, a2, c2⟩) rfl ?_
       intro w_75 H_76 g_77
       have zw_75 := g_77.size
       have B_78 := below_only B_68 g_77 (by omega)
       have H_79 := box_only' H_69 g_77 (by omega)
       have H_80 := box_only' H_66 g_77 (by omega)
       have o_81 := own_ty o_71 H_70 (by decide) g_77
       have o_82 := own_ty o_72 H_70 (by decide) g_77
       have o_83 := own_ty o_73 H_70 (by decide) g_77
       have o_84 := own_ty o_74 H_70 (by decide) g_77
       skip))
  refine bodyPost_ret (results_cell Try.results13 rfl (load_box (P := Try.prog) H_76 Try.underlying46 (by kernel_rfl) rfl)) rfl ?_
  exact ⟨⟨Ap, a1, c1, a2, c2⟩, rfl, ⟨own_base o_81 (by omega), own_base o_82 (by omega), own_base o_83 (by omega), own_base o_84 (by omega)⟩, ⟨iy.apart ii (.inl (by omega)), iy.apart io (.inl (by omega)), ii.apart io (.inl (by omega))⟩, B_78⟩
set_option maxHeartbeats 4000000 in
set_option maxRecDepth 100000 in
theorem eqPort_eq (d : PortD) (A B : PortA) (w : World) (hA : PortM w d A) (hB : PortM w d B) (lg : d.gs.length ≤ 1048576) (ly : d.ys.length ≤ 1048576) :
    Calls Try.prog 40 #[.agg (portC d A), .agg (portC d B)] w fun e w' => e = .returned (.bool true) ∧ Below w.heap.size w w' := by
  have b0 : Below w.heap.size w ((w.alloc (.cells (portC d A) 44)).alloc (.cells (portC d B) 44)) := ((Below.refl _ _).alloc (Nat.le_refl _) _).alloc (by simp) _
  have H0 := box_alloc (heap_new_at w (.cells (portC d A) 44) _ rfl) (.cells (portC d B) 44)
  have G0 := heap_new_at (w.alloc (.cells (portC d A) 44)) (.cells (portC d B) 44) (w.heap.size + 1) (by simp)
  go_enter Try.func40, Try.ntmps40
  go_wp2_with (first
    | (refine wpList_load_box _ rfl (by rfl) (b := w.heap.size) (off := 0) (n := 3) rfl H0 Try.underlying37 (by kernel_rfl) (Nat.le_of_ble_eq_true rfl) (#[.int .i64 d.b, .int .i64 d.p, .int .i64 d.s]) rfl ?_)
    | (refine wpList_load_box _ rfl (by rfl) (b := w.heap.size + 1) (off := 0) (n := 3) rfl G0 Try.underlying37 (by kernel_rfl) (Nat.le_of_ble_eq_true rfl) (#[.int .i64 d.b, .int .i64 d.p, .int .i64 d.s]) rfl ?_))
  refine name_calls fun W hW => ?_
  have bW : Below w.heap.size w W := by rw [hW]; exact b0
  have h1 : W.heap[w.heap.size]? = some (.cells (portC d A) 44 (0, 0)) := by rw [hW]; exact H0
  have h2 : W.heap[w.heap.size + 1]? = some (.cells (portC d B) 44 (0, 0)) := by rw [hW]; exact G0
  have zW : w.heap.size + 2 ≤ W.heap.size := by rw [hW]; simp
  clear hW b0 H0 G0
  refine (eqFormat_eq d.b d.p d.s W).mono ?_
  rintro e w_1 ⟨rfl, b_2⟩
  have zw_1 := b_2.size
  have B_3 := bW.trans (b_2.mono bW.size)
  have H_4 := (b_2.block _ (box_lt h1)).trans h1
  have H_5 := (b_2.block _ (box_lt h2)).trans h2
  have c_6 := box_cell H_4 3 (v := .int .i64 d.en) rfl
  have lc_6 := box_lt H_4
  have c_7 := box_cell H_4 4 (v := .int .i64 d.co) rfl
  have lc_7 := box_lt H_4
  have c_8 := box_cell H_5 3 (v := .int .i64 d.en) rfl
  have lc_8 := box_lt H_5
  have c_9 := box_cell H_5 4 (v := .int .i64 d.co) rfl
  have lc_9 := box_lt H_5
  go_wp2_with (first
    | (refine wpList_load_box _ rfl (by rfl) (b := w.heap.size) (off := 5) (n := 5) rfl H_4 Try.underlying40 (by kernel_rfl) (Nat.le_of_ble_eq_true rfl) (#[.int .i64 d.r, .int .i64 d.t, .slice A.ax d.gs.length A.cx, .bool d.l, .int .i64 d.ag]) rfl ?_
       skip)
    | (refine wpList_load_box _ rfl (by rfl) (b := w.heap.size + 1) (off := 5) (n := 5) rfl H_5 Try.underlying40 (by kernel_rfl) (Nat.le_of_ble_eq_true rfl) (#[.int .i64 d.r, .int .i64 d.t, .slice B.ax d.gs.length B.cx, .bool d.l, .int .i64 d.ag]) rfl ?_
       skip))
  refine (eqReceiver_any d.r d.t d.l d.ag d.r d.t d.l d.ag A.ax B.ax d.gs d.gs A.cx B.cx w_1 (hA.1.below B_3) (hB.1.below B_3) (by omega) (by omega)).mono ?_
  rintro e w_10 ⟨rfl, b_11⟩
  have zw_10 := b_11.size
  have B_12 := B_3.trans (b_11.mono B_3.size)
  have H_13 := (b_11.block _ (box_lt H_4)).trans H_4
  have H_14 := (b_11.block _ (box_lt H_5)).trans H_5
  go_wp2_with (first
    | (refine wpList_load_box _ rfl (by rfl) (b := w.heap.size) (off := 10) (n := 4) rfl H_13 Try.underlying41 (by kernel_rfl) (Nat.le_of_ble_eq_true rfl) (#[.int .i64 d.sr, .slice A.ay d.ys.length A.cy, .int .i64 d.sh, .int .i64 d.sl]) rfl ?_
       skip)
    | (refine wpList_load_box _ rfl (by rfl) (b := w.heap.size + 1) (off := 10) (n := 4) rfl H_14 Try.underlying41 (by kernel_rfl) (Nat.le_of_ble_eq_true rfl) (#[.int .i64 d.sr, .slice B.ay d.ys.length B.cy, .int .i64 d.sh, .int .i64 d.sl]) rfl ?_
       skip))
  refine (eqSender_any d.sr d.sh d.sl d.sr d.sh d.sl A.ay B.ay d.ys d.ys A.cy B.cy w_10 (hA.2.below B_12) (hB.2.below B_12) (by omega) (by omega)).mono ?_
  rintro e w_15 ⟨rfl, b_16⟩
  have zw_15 := b_16.size
  have B_17 := B_12.trans (b_16.mono B_12.size)
  have H_18 := (b_16.block _ (box_lt H_13)).trans H_13
  have H_19 := (b_16.block _ (box_lt H_14)).trans H_14
  go_wp2_with (first
    | (refine wpList_load_box _ rfl (by rfl) (b := w.heap.size) (off := 14) (n := 4) rfl H_18 Try.underlying42 (by kernel_rfl) (Nat.le_of_ble_eq_true rfl) (#[.bool d.m1, .bool d.m2, .bool d.m3, .bool d.m4]) rfl ?_
       skip)
    | (refine wpList_load_box _ rfl (by rfl) (b := w.heap.size + 1) (off := 14) (n := 4) rfl H_19 Try.underlying42 (by kernel_rfl) (Nat.le_of_ble_eq_true rfl) (#[.bool d.m1, .bool d.m2, .bool d.m3, .bool d.m4]) rfl ?_
       skip))
  refine (eqModem_eq d.m1 d.m2 d.m3 d.m4 w_15).mono ?_
  rintro e w_20 ⟨rfl, b_21⟩
  have zw_20 := b_21.size
  have B_22 := B_17.trans (b_21.mono B_17.size)
  have H_23 := (b_21.block _ (box_lt H_18)).trans H_18
  have H_24 := (b_21.block _ (box_lt H_19)).trans H_19
  go_wp2
  go_ret
  exact ⟨rfl, B_22⟩
set_option maxHeartbeats 4000000 in
set_option maxRecDepth 100000 in
theorem eqDriver_eq (d : DrvD) (A B : DrvA) (w : World) (hA : DrvM w d A) (hB : DrvM w d B) (hl : DrvL d) :
    Calls Try.prog 15 #[.agg (drvC d A), .agg (drvC d B)] w fun e w' => e = .returned (.bool true) ∧ Below w.heap.size w w' := by
  have li := hl.2.2.1
  have lo := hl.2.2.2
  have b0 : Below w.heap.size w ((w.alloc (.cells (drvC d A) 46)).alloc (.cells (drvC d B) 46)) := ((Below.refl _ _).alloc (Nat.le_refl _) _).alloc (by simp) _
  have H0 := box_alloc (heap_new_at w (.cells (drvC d A) 46) _ rfl) (.cells (drvC d B) 46)
  have G0 := heap_new_at (w.alloc (.cells (drvC d A) 46)) (.cells (drvC d B) 46) (w.heap.size + 1) (by simp)
  go_enter Try.func15, Try.ntmps15
  go_wp2_with (first
    | (refine wpList_load_box _ rfl (by rfl) (b := w.heap.size) (off := 0) (n := 18) rfl H0 Try.underlying44 (by kernel_rfl) (Nat.le_of_ble_eq_true rfl) (portC d.p A.p) rfl ?_)
    | (refine wpList_load_box _ rfl (by rfl) (b := w.heap.size + 1) (off := 0) (n := 18) rfl G0 Try.underlying44 (by kernel_rfl) (Nat.le_of_ble_eq_true rfl) (portC d.p B.p) rfl ?_))
  refine name_calls fun W hW => ?_
  have bW : Below w.heap.size w W := by rw [hW]; exact b0
  have h1 : W.heap[w.heap.size]? = some (.cells (drvC d A) 46 (0, 0)) := by rw [hW]; exact H0
  have h2 : W.heap[w.heap.size + 1]? = some (.cells (drvC d B) 46 (0, 0)) := by rw [hW]; exact G0
  have zW : w.heap.size + 2 ≤ W.heap.size := by rw [hW]; simp
  clear hW b0 H0 G0
  refine (eqPort_eq d.p A.p B.p W (hA.1.below bW) (hB.1.below bW) hl.1 hl.2.1).mono ?_
  rintro e w_1 ⟨rfl, b_2⟩
  have zw_1 := b_2.size
  have B_3 := bW.trans (b_2.mono bW.size)
  have H_4 := (b_2.block _ (box_lt h1)).trans h1
  have H_5 := (b_2.block _ (box_lt h2)).trans h2
  have c_6 := box_cell H_4 18 (v := .slice A.ai d.i.length A.ci) rfl
  have lc_6 := box_lt H_4
  have c_7 := box_cell H_5 18 (v := .slice B.ai d.i.length B.ci) rfl
  have lc_7 := box_lt H_5
  go_wp2_with fail
  refine (eqIntS_below A.ai B.ai d.i d.i A.ci B.ci w_1 (hA.2.1.below B_3) (hB.2.1.below B_3) (by omega) (by omega)).mono ?_
  rintro e w_8 ⟨rfl, b_9⟩
  have zw_8 := b_9.size
  have B_10 := B_3.trans (b_9.mono B_3.size)
  have H_11 := (b_9.block _ (box_lt H_4)).trans H_4
  have H_12 := (b_9.block _ (box_lt H_5)).trans H_5
  have c_13 := box_cell H_11 19 (v := .slice A.ao d.o.length A.co) rfl
  have lc_13 := box_lt H_11
  have c_14 := box_cell H_12 19 (v := .slice B.ao d.o.length B.co) rfl
  have lc_14 := box_lt H_12
  go_wp2_with fail
  refine (eqIntS_below A.ao B.ao d.o d.o A.co B.co w_8 (hA.2.2.below B_10) (hB.2.2.below B_10) (by omega) (by omega)).mono ?_
  rintro e w_15 ⟨rfl, b_16⟩
  have zw_15 := b_16.size
  have B_17 := B_10.trans (b_16.mono B_10.size)
  have H_18 := (b_16.block _ (box_lt H_11)).trans H_11
  have H_19 := (b_16.block _ (box_lt H_12)).trans H_12
  have c_20 := box_cell H_18 20 (v := .int .i64 d.wr) rfl
  have lc_20 := box_lt H_18
  have c_21 := box_cell H_18 21 (v := .int .i64 d.lo) rfl
  have lc_21 := box_lt H_18
  have c_22 := box_cell H_19 20 (v := .int .i64 d.wr) rfl
  have lc_22 := box_lt H_19
  have c_23 := box_cell H_19 21 (v := .int .i64 d.lo) rfl
  have lc_23 := box_lt H_19
  go_wp2
  go_ret
  exact ⟨rfl, B_17⟩
end Go.Proofs.Ytkmampichfbppaa
