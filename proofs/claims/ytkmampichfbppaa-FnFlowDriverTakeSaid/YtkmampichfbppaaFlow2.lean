/- Drivers: the line that tells that bytes are wanted. -/
import Derived.Test.YtkmampichfbppaaFlow
namespace Go.Proofs.Ytkmampichfbppaa
open Go.RowKit

def flowC (hi lo : Int) (d : DrvD) : Int := d.p.co % 2 + (if flowW hi lo (d.i.length : Int) (decide (d.p.co / 2 % 2 = 1)) then 2 else 0)
def flowR (hi lo : Int) (d : DrvD) : SdR := if flowVB hi lo && drvB d then ⟨{ d with p := { d.p with co := flowC hi lo d } }, true⟩ else ⟨zDrv, false⟩
theorem flowR_no {hi lo : Int} {d : DrvD} (h : (flowVB hi lo && drvB d) = false) : flowR hi lo d = ⟨zDrv, false⟩ := by simp [flowR, h]
theorem flowR_yes {hi lo : Int} {d : DrvD} {co : Int} (h : (flowVB hi lo && drvB d) = true) (he : flowC hi lo d = co) : flowR hi lo d = ⟨{ d with p := { d.p with co := co } }, true⟩ := by simp [flowR, h, he]
theorem co_or {co : Int} (h0 : 0 ≤ co) (h1 : co ≤ 3) : bits .or .i64 co 2 = co % 2 + 2 := by
  have : co = 0 ∨ co = 1 ∨ co = 2 ∨ co = 3 := by omega
  rcases this with h | h | h | h <;> subst h <;> decide
theorem co_clear {co : Int} (h0 : 0 ≤ co) (h1 : co ≤ 3) : bits .andNot .i64 co 2 = co % 2 := by
  have : co = 0 ∨ co = 1 ∨ co = 2 ∨ co = 3 := by omega
  rcases this with h | h | h | h <;> subst h <;> decide
theorem co_bit1 {co : Int} (h0 : 0 ≤ co) (h1 : co ≤ 3) (h : co / 2 % 2 = 1) : bits .and .i64 co 2 = 2 := by
  have : co = 2 ∨ co = 3 := by omega
  rcases this with h | h <;> subst h <;> decide
theorem co_bit0 {co : Int} (h0 : 0 ≤ co) (h1 : co ≤ 3) (h : ¬ co / 2 % 2 = 1) : bits .and .i64 co 2 = 0 := by
  have : co = 0 ∨ co = 1 := by omega
  rcases this with h | h <;> subst h <;> decide

set_option maxHeartbeats 4000000 in
set_option maxRecDepth 100000 in
theorem implFlowDriver_any (hi lo : Int) (d : DrvD) (A : DrvA) (w : World) (hm : DrvM w d A) (hl : DrvL d) (hN : DrvN d A) :
    Calls Try.prog 30 #[.agg #[.int .i64 hi, .int .i64 lo], .agg (drvC d A)] w (SendP w (flowR hi lo d)) := by
  cases hf : flowVB hi lo
  · have HR := Lib.hid (flowR_no (hi := hi) (lo := lo) (d := d) (by simp [hf]))
    rw [HR.out]
    have b0 : Below w.heap.size w (((w.alloc (.cells #[.int .i64 hi, .int .i64 lo] 68)).alloc (.cells (drvC d A) 46)).alloc (.cells (drvC zDrv zDrvA) 46)) := (((Below.refl _ _).alloc (Nat.le_refl _) _).alloc (by simp) _).alloc (by simp; omega) _
    have F0 := box_alloc (box_alloc (heap_new_at w (.cells #[.int .i64 hi, .int .i64 lo] 68) _ rfl) (.cells (drvC d A) 46)) (.cells (drvC zDrv zDrvA) 46)
    have H0 := box_alloc (heap_new_at (w.alloc (.cells #[.int .i64 hi, .int .i64 lo] 68)) (.cells (drvC d A) 46) (w.heap.size + 1) (by simp)) (.cells (drvC zDrv zDrvA) 46)
    have G0 := heap_new_at ((w.alloc (.cells #[.int .i64 hi, .int .i64 lo] 68)).alloc (.cells (drvC d A) 46)) (.cells (drvC zDrv zDrvA) 46) (w.heap.size + 1 + 1) (by simp)
    go_enter Try.func30, Try.ntmps30
    go_wp2_with (first
      | (refine wpList_load_box _ rfl (by rfl) (b := w.heap.size) (off := 0) (n := 2) rfl F0 Try.underlying68 (by kernel_rfl) (Nat.le_of_ble_eq_true rfl) (#[.int .i64 hi, .int .i64 lo]) rfl ?_))
    refine name_calls fun W hW => ?_
    have bW : Below w.heap.size w W := by rw [hW]; exact b0
    have h0 : W.heap[w.heap.size]? = some (.cells #[.int .i64 hi, .int .i64 lo] 68 (0, 0)) := by rw [hW]; exact F0
    have h1 : W.heap[w.heap.size + 1]? = some (.cells (drvC d A) 46 (0, 0)) := by rw [hW]; exact H0
    have h2 : W.heap[w.heap.size + 1 + 1]? = some (.cells (drvC zDrv zDrvA) 46 (0, 0)) := by rw [hW]; exact G0
    have zW : w.heap.size + 1 + 1 + 1 ≤ W.heap.size := by rw [hW]; simp
    clear hW b0 F0 H0 G0
    refine (implFlowValid_any hi lo W).mono ?_
    rintro e w_1 ⟨rfl, b_2⟩
    have zw_1 := b_2.size
    have B_3 := bW.trans (b_2.mono bW.size)
    have H_4 := (b_2.block _ (box_lt h0)).trans h0
    have H_5 := (b_2.block _ (box_lt h1)).trans h1
    have H_6 := (b_2.block _ (box_lt h2)).trans h2
    go_wp2_with (first
      | (refine wpList_store_any _ rfl rfl (by rfl) (b := w.heap.size + 1 + 1) (off := 0) (n := 22) rfl rfl (vs := (drvC zDrv zDrvA)) rfl H_6 (by kernel_rfl) rfl rfl (Nat.le_of_ble_eq_true rfl) ((drvC zDrv zDrvA)) rfl ?_
         intro w_7 H_8 g_9
         have zw_7 := g_9.size
         have B_10 := below_only B_3 g_9 (by omega)
         have H_11 := box_only' H_4 g_9 (by omega)
         have H_12 := box_only' H_5 g_9 (by omega)
         skip))
    refine bodyPost_ret (results_cell2 Try.results30 rfl rfl (load_box (P := Try.prog) H_8 Try.underlying46 (by kernel_rfl) rfl)) rfl ?_
    exact ⟨zDrvA, rfl, zDrvO _ _, zDrvS, B_10⟩
  cases hv : drvB d
  · have HR := Lib.hid (flowR_no (hi := hi) (lo := lo) (d := d) (by simp [hf, hv]))
    rw [HR.out]
    have b0 : Below w.heap.size w (((w.alloc (.cells #[.int .i64 hi, .int .i64 lo] 68)).alloc (.cells (drvC d A) 46)).alloc (.cells (drvC zDrv zDrvA) 46)) := (((Below.refl _ _).alloc (Nat.le_refl _) _).alloc (by simp) _).alloc (by simp; omega) _
    have F0 := box_alloc (box_alloc (heap_new_at w (.cells #[.int .i64 hi, .int .i64 lo] 68) _ rfl) (.cells (drvC d A) 46)) (.cells (drvC zDrv zDrvA) 46)
    have H0 := box_alloc (heap_new_at (w.alloc (.cells #[.int .i64 hi, .int .i64 lo] 68)) (.cells (drvC d A) 46) (w.heap.size + 1) (by simp)) (.cells (drvC zDrv zDrvA) 46)
    have G0 := heap_new_at ((w.alloc (.cells #[.int .i64 hi, .int .i64 lo] 68)).alloc (.cells (drvC d A) 46)) (.cells (drvC zDrv zDrvA) 46) (w.heap.size + 1 + 1) (by simp)
    go_enter Try.func30, Try.ntmps30
    go_wp2_with (first
      | (refine wpList_load_box _ rfl (by rfl) (b := w.heap.size) (off := 0) (n := 2) rfl F0 Try.underlying68 (by kernel_rfl) (Nat.le_of_ble_eq_true rfl) (#[.int .i64 hi, .int .i64 lo]) rfl ?_))
    refine name_calls fun W hW => ?_
    have bW : Below w.heap.size w W := by rw [hW]; exact b0
    have h0 : W.heap[w.heap.size]? = some (.cells #[.int .i64 hi, .int .i64 lo] 68 (0, 0)) := by rw [hW]; exact F0
    have h1 : W.heap[w.heap.size + 1]? = some (.cells (drvC d A) 46 (0, 0)) := by rw [hW]; exact H0
    have h2 : W.heap[w.heap.size + 1 + 1]? = some (.cells (drvC zDrv zDrvA) 46 (0, 0)) := by rw [hW]; exact G0
    have zW : w.heap.size + 1 + 1 + 1 ≤ W.heap.size := by rw [hW]; simp
    clear hW b0 F0 H0 G0
    refine (implFlowValid_any hi lo W).mono ?_
    rintro e w_1 ⟨rfl, b_2⟩
    have zw_1 := b_2.size
    have B_3 := bW.trans (b_2.mono bW.size)
    have H_4 := (b_2.block _ (box_lt h0)).trans h0
    have H_5 := (b_2.block _ (box_lt h1)).trans h1
    have H_6 := (b_2.block _ (box_lt h2)).trans h2
    go_wp2_with (first
      | (refine wpList_load_box _ rfl (by rfl) (b := w.heap.size + 1) (off := 0) (n := 22) rfl H_5 Try.underlying46 (by kernel_rfl) (Nat.le_of_ble_eq_true rfl) (drvC d A) rfl ?_
         skip))
    refine (implDriverValid_any d A w_1 (hm.below B_3) hl).mono ?_
    rintro e w_7 ⟨rfl, b_8⟩
    have zw_7 := b_8.size
    have B_9 := B_3.trans (b_8.mono B_3.size)
    have H_10 := (b_8.block _ (box_lt H_4)).trans H_4
    have H_11 := (b_8.block _ (box_lt H_5)).trans H_5
    have H_12 := (b_8.block _ (box_lt H_6)).trans H_6
    go_wp2_with (first
      | (refine wpList_store_any _ rfl rfl (by rfl) (b := w.heap.size + 1 + 1) (off := 0) (n := 22) rfl rfl (vs := (drvC zDrv zDrvA)) rfl H_12 (by kernel_rfl) rfl rfl (Nat.le_of_ble_eq_true rfl) ((drvC zDrv zDrvA)) rfl ?_
         intro w_13 H_14 g_15
         have zw_13 := g_15.size
         have B_16 := below_only B_9 g_15 (by omega)
         have H_17 := box_only' H_10 g_15 (by omega)
         have H_18 := box_only' H_11 g_15 (by omega)
         skip))
    refine bodyPost_ret (results_cell2 Try.results30 rfl rfl (load_box (P := Try.prog) H_14 Try.underlying46 (by kernel_rfl) rfl)) rfl ?_
    exact ⟨zDrvA, rfl, zDrvO _ _, zDrvS, B_16⟩
  have hlen := drvB_len hv
  have hlg := hlen.1
  have hli := hlen.2.2.1
  have hen := drvB_en hv
  have hc0 := hen.2.2.1
  have hc1 := hen.2.2.2
  clear hen
  have hall : (flowVB hi lo && drvB d) = true := by simp [hf, hv]
  have HALL := Lib.hid hall
  clear hall
  by_cases hbit : d.p.co / 2 % 2 = 1
  · have hbd : decide (d.p.co / 2 % 2 = 1) = true := by simpa using hbit
    have hand := co_bit1 hc0 hc1 hbit
    clear hbit
    have htm : d.p.co.tmod 2 = d.p.co % 2 := Int.tmod_eq_emod_of_nonneg hc0
    have hwr : IntKind.i64.wrap (d.p.co % 2 + 2) = d.p.co % 2 + 2 := IntWalk.i64_in _ (by omega)
    cases hw : flowW hi lo (d.i.length : Int) true
    · have HR := Lib.hid (flowR_yes (co := bits .andNot .i64 d.p.co 2) HALL.out (by rw [co_clear hc0 hc1]; simp [flowC, hbd, hw]))
      have b0 : Below w.heap.size w (((w.alloc (.cells #[.int .i64 hi, .int .i64 lo] 68)).alloc (.cells (drvC d A) 46)).alloc (.cells (drvC zDrv zDrvA) 46)) := (((Below.refl _ _).alloc (Nat.le_refl _) _).alloc (by simp) _).alloc (by simp; omega) _
      have F0 := box_alloc (box_alloc (heap_new_at w (.cells #[.int .i64 hi, .int .i64 lo] 68) _ rfl) (.cells (drvC d A) 46)) (.cells (drvC zDrv zDrvA) 46)
      have H0 := box_alloc (heap_new_at (w.alloc (.cells #[.int .i64 hi, .int .i64 lo] 68)) (.cells (drvC d A) 46) (w.heap.size + 1) (by simp)) (.cells (drvC zDrv zDrvA) 46)
      have G0 := heap_new_at ((w.alloc (.cells #[.int .i64 hi, .int .i64 lo] 68)).alloc (.cells (drvC d A) 46)) (.cells (drvC zDrv zDrvA) 46) (w.heap.size + 1 + 1) (by simp)
      go_enter Try.func30, Try.ntmps30
      go_wp2_with (first
        | (refine wpList_load_box _ rfl (by rfl) (b := w.heap.size) (off := 0) (n := 2) rfl F0 Try.underlying68 (by kernel_rfl) (Nat.le_of_ble_eq_true rfl) (#[.int .i64 hi, .int .i64 lo]) rfl ?_))
      refine name_calls fun W hW => ?_
      have bW : Below w.heap.size w W := by rw [hW]; exact b0
      have h0 : W.heap[w.heap.size]? = some (.cells #[.int .i64 hi, .int .i64 lo] 68 (0, 0)) := by rw [hW]; exact F0
      have h1 : W.heap[w.heap.size + 1]? = some (.cells (drvC d A) 46 (0, 0)) := by rw [hW]; exact H0
      have h2 : W.heap[w.heap.size + 1 + 1]? = some (.cells (drvC zDrv zDrvA) 46 (0, 0)) := by rw [hW]; exact G0
      have zW : w.heap.size + 1 + 1 + 1 ≤ W.heap.size := by rw [hW]; simp
      clear hW b0 F0 H0 G0
      refine (implFlowValid_any hi lo W).mono ?_
      rintro e w_1 ⟨rfl, b_2⟩
      have zw_1 := b_2.size
      have B_3 := bW.trans (b_2.mono bW.size)
      have H_4 := (b_2.block _ (box_lt h0)).trans h0
      have H_5 := (b_2.block _ (box_lt h1)).trans h1
      have H_6 := (b_2.block _ (box_lt h2)).trans h2
      go_wp2_with (first
        | (refine wpList_load_box _ rfl (by rfl) (b := w.heap.size + 1) (off := 0) (n := 22) rfl H_5 Try.underlying46 (by kernel_rfl) (Nat.le_of_ble_eq_true rfl) (drvC d A) rfl ?_
           skip))
      refine (implDriverValid_any d A w_1 (hm.below B_3) hl).mono ?_
      rintro e w_7 ⟨rfl, b_8⟩
      have zw_7 := b_8.size
      have B_9 := B_3.trans (b_8.mono B_3.size)
      have H_10 := (b_8.block _ (box_lt H_4)).trans H_4
      have H_11 := (b_8.block _ (box_lt H_5)).trans H_5
      have H_12 := (b_8.block _ (box_lt H_6)).trans H_6
      go_wp2_with (first
        | (refine wpList_load_box _ rfl (by rfl) (b := w.heap.size + 1) (off := 0) (n := 22) rfl H_11 Try.underlying46 (by kernel_rfl) (Nat.le_of_ble_eq_true rfl) (drvC d A) rfl ?_
           skip))
      refine (driverCopy_any d A w_7 (hm.below B_9) hl (by omega) hN).mono ?_
      rintro e w_13 ⟨⟨⟨ax, cx, ay, cy⟩, ai, ci, ao, co⟩, rfl, DO, b_14⟩
      have zw_13 := b_14.size
      have B_15 := B_9.trans (b_14.mono B_9.size)
      have H_16 := (b_14.block _ (box_lt H_10)).trans H_10
      have H_17 := (b_14.block _ (box_lt H_11)).trans H_11
      have H_18 := (b_14.block _ (box_lt H_12)).trans H_12
      have DS := DO.s
      obtain ⟨⟨Ox, Oy, Oi, Oo⟩, _⟩ := DO
      dsimp only at Ox Oy Oi Oo
      go_wp2_with (first
        | (refine wpList_store_any _ rfl rfl (by rfl) (b := w.heap.size + 1) (off := 0) (n := 22) rfl rfl (vs := drvC d ⟨⟨ax, cx, ay, cy⟩, ai, ci, ao, co⟩) rfl H_17 (by kernel_rfl) rfl rfl (Nat.le_of_ble_eq_true rfl) (drvC d ⟨⟨ax, cx, ay, cy⟩, ai, ci, ao, co⟩) rfl ?_
           intro w_19 H_20 g_21
           have zw_19 := g_21.size
           have B_22 := below_only B_15 g_21 (by omega)
           have H_23 := box_only' H_16 g_21 (by omega)
           have H_24 := box_only' H_18 g_21 (by omega)
           have o_25 := own_ty Ox H_17 (by decide) g_21
           have o_26 := own_ty Oy H_17 (by decide) g_21
           have o_27 := own_ty Oi H_17 (by decide) g_21
           have o_28 := own_ty Oo H_17 (by decide) g_21
           skip)
        | (refine wpList_load_box _ rfl (by rfl) (b := w.heap.size) (off := 0) (n := 2) rfl H_23 Try.underlying68 (by kernel_rfl) (Nat.le_of_ble_eq_true rfl) (#[.int .i64 hi, .int .i64 lo]) rfl ?_
           have c_29 := box_cell H_20 18 (v := .slice ai d.i.length ci) rfl
           have lc_29 := box_lt H_20
           have c_30 := box_cell H_20 4 (v := .int .i64 d.p.co) rfl
           have lc_30 := box_lt H_20
           skip))
      refine (implFlowNext_any hi lo (d.i.length : Int) true w_19 hf).mono ?_
      rintro e w_31 ⟨rfl, b_32⟩
      have zw_31 := b_32.size
      have B_33 := B_22.trans (b_32.mono B_22.size)
      have H_34 := (b_32.block _ (box_lt H_23)).trans H_23
      have H_35 := (b_32.block _ (box_lt H_20)).trans H_20
      have H_36 := (b_32.block _ (box_lt H_24)).trans H_24
      have o_37 := own_below o_25 b_32
      have o_38 := own_below o_26 b_32
      have o_39 := own_below o_27 b_32
      have o_40 := own_below o_28 b_32
      have c_41 := box_cell H_35 4 (v := .int .i64 d.p.co) rfl
      have lc_41 := box_lt H_35
      go_wp2_with (first
        | (refine wpList_store_any _ rfl rfl (by rfl) (b := w.heap.size + 1) (off := 4) (n := 1) rfl rfl (vs := #[.int .i64 (bits .andNot .i64 d.p.co 2)]) rfl H_35 (by kernel_rfl) rfl rfl (Nat.le_of_ble_eq_true rfl) (drvC { d with p := { d.p with co := (bits .andNot .i64 d.p.co 2) } } ⟨⟨ax, cx, ay, cy⟩, ai, ci, ao, co⟩) rfl ?_
           intro w_42 H_43 g_44
           have zw_42 := g_44.size
           have B_45 := below_only B_33 g_44 (by omega)
           have H_46 := box_only' H_34 g_44 (by omega)
           have H_47 := box_only' H_36 g_44 (by omega)
           have o_48 := own_ty o_37 H_35 (by decide) g_44
           have o_49 := own_ty o_38 H_35 (by decide) g_44
           have o_50 := own_ty o_39 H_35 (by decide) g_44
           have o_51 := own_ty o_40 H_35 (by decide) g_44
           skip)
        | (refine wpList_load_box _ rfl (by rfl) (b := w.heap.size + 1) (off := 0) (n := 22) rfl H_43 Try.underlying46 (by kernel_rfl) (Nat.le_of_ble_eq_true rfl) (drvC { d with p := { d.p with co := (bits .andNot .i64 d.p.co 2) } } ⟨⟨ax, cx, ay, cy⟩, ai, ci, ao, co⟩) rfl ?_
           skip)
        | (refine wpList_store_any _ rfl rfl (by rfl) (b := w.heap.size + 1 + 1) (off := 0) (n := 22) rfl rfl (vs := drvC { d with p := { d.p with co := (bits .andNot .i64 d.p.co 2) } } ⟨⟨ax, cx, ay, cy⟩, ai, ci, ao, co⟩) rfl H_47 (by kernel_rfl) rfl rfl (Nat.le_of_ble_eq_true rfl) (drvC { d with p := { d.p with co := (bits .andNot .i64 d.p.co 2) } } ⟨⟨ax, cx, ay, cy⟩, ai, ci, ao, co⟩) rfl ?_
           intro w_52 H_53 g_54
           have zw_52 := g_54.size
           have B_55 := below_only B_45 g_54 (by omega)
           have H_56 := box_only' H_46 g_54 (by omega)
           have H_57 := box_only' H_43 g_54 (by omega)
           have o_58 := own_ty o_48 H_47 (by decide) g_54
           have o_59 := own_ty o_49 H_47 (by decide) g_54
           have o_60 := own_ty o_50 H_47 (by decide) g_54
           have o_61 := own_ty o_51 H_47 (by decide) g_54
           skip))
      refine bodyPost_ret (results_cell2 (u := .bool true) Try.results30 rfl rfl (load_box (P := Try.prog) H_53 Try.underlying46 (by kernel_rfl) rfl)) rfl ?_
      rw [HR.out]
      exact ⟨⟨⟨ax, cx, ay, cy⟩, ai, ci, ao, co⟩, rfl, ⟨own_base o_58 (by omega), own_base o_59 (by omega), own_base o_60 (by omega), own_base o_61 (by omega)⟩, DS, B_55⟩
    · have HR := Lib.hid (flowR_yes (co := bits .or .i64 d.p.co 2) HALL.out (by rw [co_or hc0 hc1]; simp [flowC, hbd, hw]))
      have b0 : Below w.heap.size w (((w.alloc (.cells #[.int .i64 hi, .int .i64 lo] 68)).alloc (.cells (drvC d A) 46)).alloc (.cells (drvC zDrv zDrvA) 46)) := (((Below.refl _ _).alloc (Nat.le_refl _) _).alloc (by simp) _).alloc (by simp; omega) _
      have F0 := box_alloc (box_alloc (heap_new_at w (.cells #[.int .i64 hi, .int .i64 lo] 68) _ rfl) (.cells (drvC d A) 46)) (.cells (drvC zDrv zDrvA) 46)
      have H0 := box_alloc (heap_new_at (w.alloc (.cells #[.int .i64 hi, .int .i64 lo] 68)) (.cells (drvC d A) 46) (w.heap.size + 1) (by simp)) (.cells (drvC zDrv zDrvA) 46)
      have G0 := heap_new_at ((w.alloc (.cells #[.int .i64 hi, .int .i64 lo] 68)).alloc (.cells (drvC d A) 46)) (.cells (drvC zDrv zDrvA) 46) (w.heap.size + 1 + 1) (by simp)
      go_enter Try.func30, Try.ntmps30
      go_wp2_with (first
        | (refine wpList_load_box _ rfl (by rfl) (b := w.heap.size) (off := 0) (n := 2) rfl F0 Try.underlying68 (by kernel_rfl) (Nat.le_of_ble_eq_true rfl) (#[.int .i64 hi, .int .i64 lo]) rfl ?_))
      refine name_calls fun W hW => ?_
      have bW : Below w.heap.size w W := by rw [hW]; exact b0
      have h0 : W.heap[w.heap.size]? = some (.cells #[.int .i64 hi, .int .i64 lo] 68 (0, 0)) := by rw [hW]; exact F0
      have h1 : W.heap[w.heap.size + 1]? = some (.cells (drvC d A) 46 (0, 0)) := by rw [hW]; exact H0
      have h2 : W.heap[w.heap.size + 1 + 1]? = some (.cells (drvC zDrv zDrvA) 46 (0, 0)) := by rw [hW]; exact G0
      have zW : w.heap.size + 1 + 1 + 1 ≤ W.heap.size := by rw [hW]; simp
      clear hW b0 F0 H0 G0
      refine (implFlowValid_any hi lo W).mono ?_
      rintro e w_1 ⟨rfl, b_2⟩
      have zw_1 := b_2.size
      have B_3 := bW.trans (b_2.mono bW.size)
      have H_4 := (b_2.block _ (box_lt h0)).trans h0
      have H_5 := (b_2.block _ (box_lt h1)).trans h1
      have H_6 := (b_2.block _ (box_lt h2)).trans h2
      go_wp2_with (first
        | (refine wpList_load_box _ rfl (by rfl) (b := w.heap.size + 1) (off := 0) (n := 22) rfl H_5 Try.underlying46 (by kernel_rfl) (Nat.le_of_ble_eq_true rfl) (drvC d A) rfl ?_
           skip))
      refine (implDriverValid_any d A w_1 (hm.below B_3) hl).mono ?_
      rintro e w_7 ⟨rfl, b_8⟩
      have zw_7 := b_8.size
      have B_9 := B_3.trans (b_8.mono B_3.size)
      have H_10 := (b_8.block _ (box_lt H_4)).trans H_4
      have H_11 := (b_8.block _ (box_lt H_5)).trans H_5
      have H_12 := (b_8.block _ (box_lt H_6)).trans H_6
      go_wp2_with (first
        | (refine wpList_load_box _ rfl (by rfl) (b := w.heap.size + 1) (off := 0) (n := 22) rfl H_11 Try.underlying46 (by kernel_rfl) (Nat.le_of_ble_eq_true rfl) (drvC d A) rfl ?_
           skip))
      refine (driverCopy_any d A w_7 (hm.below B_9) hl (by omega) hN).mono ?_
      rintro e w_13 ⟨⟨⟨ax, cx, ay, cy⟩, ai, ci, ao, co⟩, rfl, DO, b_14⟩
      have zw_13 := b_14.size
      have B_15 := B_9.trans (b_14.mono B_9.size)
      have H_16 := (b_14.block _ (box_lt H_10)).trans H_10
      have H_17 := (b_14.block _ (box_lt H_11)).trans H_11
      have H_18 := (b_14.block _ (box_lt H_12)).trans H_12
      have DS := DO.s
      obtain ⟨⟨Ox, Oy, Oi, Oo⟩, _⟩ := DO
      dsimp only at Ox Oy Oi Oo
      go_wp2_with (first
        | (refine wpList_store_any _ rfl rfl (by rfl) (b := w.heap.size + 1) (off := 0) (n := 22) rfl rfl (vs := drvC d ⟨⟨ax, cx, ay, cy⟩, ai, ci, ao, co⟩) rfl H_17 (by kernel_rfl) rfl rfl (Nat.le_of_ble_eq_true rfl) (drvC d ⟨⟨ax, cx, ay, cy⟩, ai, ci, ao, co⟩) rfl ?_
           intro w_19 H_20 g_21
           have zw_19 := g_21.size
           have B_22 := below_only B_15 g_21 (by omega)
           have H_23 := box_only' H_16 g_21 (by omega)
           have H_24 := box_only' H_18 g_21 (by omega)
           have o_25 := own_ty Ox H_17 (by decide) g_21
           have o_26 := own_ty Oy H_17 (by decide) g_21
           have o_27 := own_ty Oi H_17 (by decide) g_21
           have o_28 := own_ty Oo H_17 (by decide) g_21
           skip)
        | (refine wpList_load_box _ rfl (by rfl) (b := w.heap.size) (off := 0) (n := 2) rfl H_23 Try.underlying68 (by kernel_rfl) (Nat.le_of_ble_eq_true rfl) (#[.int .i64 hi, .int .i64 lo]) rfl ?_
           have c_29 := box_cell H_20 18 (v := .slice ai d.i.length ci) rfl
           have lc_29 := box_lt H_20
           have c_30 := box_cell H_20 4 (v := .int .i64 d.p.co) rfl
           have lc_30 := box_lt H_20
           skip))
      refine (implFlowNext_any hi lo (d.i.length : Int) true w_19 hf).mono ?_
      rintro e w_31 ⟨rfl, b_32⟩
      have zw_31 := b_32.size
      have B_33 := B_22.trans (b_32.mono B_22.size)
      have H_34 := (b_32.block _ (box_lt H_23)).trans H_23
      have H_35 := (b_32.block _ (box_lt H_20)).trans H_20
      have H_36 := (b_32.block _ (box_lt H_24)).trans H_24
      have o_37 := own_below o_25 b_32
      have o_38 := own_below o_26 b_32
      have o_39 := own_below o_27 b_32
      have o_40 := own_below o_28 b_32
      have c_41 := box_cell H_35 4 (v := .int .i64 d.p.co) rfl
      have lc_41 := box_lt H_35
      go_wp2_with (first
        | (refine wpList_store_any _ rfl rfl (by rfl) (b := w.heap.size + 1) (off := 4) (n := 1) rfl rfl (vs := #[.int .i64 (bits .or .i64 d.p.co 2)]) rfl H_35 (by kernel_rfl) rfl rfl (Nat.le_of_ble_eq_true rfl) (drvC { d with p := { d.p with co := (bits .or .i64 d.p.co 2) } } ⟨⟨ax, cx, ay, cy⟩, ai, ci, ao, co⟩) rfl ?_
           intro w_42 H_43 g_44
           have zw_42 := g_44.size
           have B_45 := below_only B_33 g_44 (by omega)
           have H_46 := box_only' H_34 g_44 (by omega)
           have H_47 := box_only' H_36 g_44 (by omega)
           have o_48 := own_ty o_37 H_35 (by decide) g_44
           have o_49 := own_ty o_38 H_35 (by decide) g_44
           have o_50 := own_ty o_39 H_35 (by decide) g_44
           have o_51 := own_ty o_40 H_35 (by decide) g_44
           skip)
        | (refine wpList_load_box _ rfl (by rfl) (b := w.heap.size + 1) (off := 0) (n := 22) rfl H_43 Try.underlying46 (by kernel_rfl) (Nat.le_of_ble_eq_true rfl) (drvC { d with p := { d.p with co := (bits .or .i64 d.p.co 2) } } ⟨⟨ax, cx, ay, cy⟩, ai, ci, ao, co⟩) rfl ?_
           skip)
        | (refine wpList_store_any _ rfl rfl (by rfl) (b := w.heap.size + 1 + 1) (off := 0) (n := 22) rfl rfl (vs := drvC { d with p := { d.p with co := (bits .or .i64 d.p.co 2) } } ⟨⟨ax, cx, ay, cy⟩, ai, ci, ao, co⟩) rfl H_47 (by kernel_rfl) rfl rfl (Nat.le_of_ble_eq_true rfl) (drvC { d with p := { d.p with co := (bits .or .i64 d.p.co 2) } } ⟨⟨ax, cx, ay, cy⟩, ai, ci, ao, co⟩) rfl ?_
           intro w_52 H_53 g_54
           have zw_52 := g_54.size
           have B_55 := below_only B_45 g_54 (by omega)
           have H_56 := box_only' H_46 g_54 (by omega)
           have H_57 := box_only' H_43 g_54 (by omega)
           have o_58 := own_ty o_48 H_47 (by decide) g_54
           have o_59 := own_ty o_49 H_47 (by decide) g_54
           have o_60 := own_ty o_50 H_47 (by decide) g_54
           have o_61 := own_ty o_51 H_47 (by decide) g_54
           skip))
      refine bodyPost_ret (results_cell2 (u := .bool true) Try.results30 rfl rfl (load_box (P := Try.prog) H_53 Try.underlying46 (by kernel_rfl) rfl)) rfl ?_
      rw [HR.out]
      exact ⟨⟨⟨ax, cx, ay, cy⟩, ai, ci, ao, co⟩, rfl, ⟨own_base o_58 (by omega), own_base o_59 (by omega), own_base o_60 (by omega), own_base o_61 (by omega)⟩, DS, B_55⟩
  · have hbd : decide (d.p.co / 2 % 2 = 1) = false := by simpa using hbit
    have hand := co_bit0 hc0 hc1 hbit
    clear hbit
    have htm : d.p.co.tmod 2 = d.p.co % 2 := Int.tmod_eq_emod_of_nonneg hc0
    have hwr : IntKind.i64.wrap (d.p.co % 2 + 2) = d.p.co % 2 + 2 := IntWalk.i64_in _ (by omega)
    cases hw : flowW hi lo (d.i.length : Int) false
    · have HR := Lib.hid (flowR_yes (co := bits .andNot .i64 d.p.co 2) HALL.out (by rw [co_clear hc0 hc1]; simp [flowC, hbd, hw]))
      have b0 : Below w.heap.size w (((w.alloc (.cells #[.int .i64 hi, .int .i64 lo] 68)).alloc (.cells (drvC d A) 46)).alloc (.cells (drvC zDrv zDrvA) 46)) := (((Below.refl _ _).alloc (Nat.le_refl _) _).alloc (by simp) _).alloc (by simp; omega) _
      have F0 := box_alloc (box_alloc (heap_new_at w (.cells #[.int .i64 hi, .int .i64 lo] 68) _ rfl) (.cells (drvC d A) 46)) (.cells (drvC zDrv zDrvA) 46)
      have H0 := box_alloc (heap_new_at (w.alloc (.cells #[.int .i64 hi, .int .i64 lo] 68)) (.cells (drvC d A) 46) (w.heap.size + 1) (by simp)) (.cells (drvC zDrv zDrvA) 46)
      have G0 := heap_new_at ((w.alloc (.cells #[.int .i64 hi, .int .i64 lo] 68)).alloc (.cells (drvC d A) 46)) (.cells (drvC zDrv zDrvA) 46) (w.heap.size + 1 + 1) (by simp)
      go_enter Try.func30, Try.ntmps30
      go_wp2_with (first
        | (refine wpList_load_box _ rfl (by rfl) (b := w.heap.size) (off := 0) (n := 2) rfl F0 Try.underlying68 (by kernel_rfl) (Nat.le_of_ble_eq_true rfl) (#[.int .i64 hi, .int .i64 lo]) rfl ?_))
      refine name_calls fun W hW => ?_
      have bW : Below w.heap.size w W := by rw [hW]; exact b0
      have h0 : W.heap[w.heap.size]? = some (.cells #[.int .i64 hi, .int .i64 lo] 68 (0, 0)) := by rw [hW]; exact F0
      have h1 : W.heap[w.heap.size + 1]? = some (.cells (drvC d A) 46 (0, 0)) := by rw [hW]; exact H0
      have h2 : W.heap[w.heap.size + 1 + 1]? = some (.cells (drvC zDrv zDrvA) 46 (0, 0)) := by rw [hW]; exact G0
      have zW : w.heap.size + 1 + 1 + 1 ≤ W.heap.size := by rw [hW]; simp
      clear hW b0 F0 H0 G0
      refine (implFlowValid_any hi lo W).mono ?_
      rintro e w_1 ⟨rfl, b_2⟩
      have zw_1 := b_2.size
      have B_3 := bW.trans (b_2.mono bW.size)
      have H_4 := (b_2.block _ (box_lt h0)).trans h0
      have H_5 := (b_2.block _ (box_lt h1)).trans h1
      have H_6 := (b_2.block _ (box_lt h2)).trans h2
      go_wp2_with (first
        | (refine wpList_load_box _ rfl (by rfl) (b := w.heap.size + 1) (off := 0) (n := 22) rfl H_5 Try.underlying46 (by kernel_rfl) (Nat.le_of_ble_eq_true rfl) (drvC d A) rfl ?_
           skip))
      refine (implDriverValid_any d A w_1 (hm.below B_3) hl).mono ?_
      rintro e w_7 ⟨rfl, b_8⟩
      have zw_7 := b_8.size
      have B_9 := B_3.trans (b_8.mono B_3.size)
      have H_10 := (b_8.block _ (box_lt H_4)).trans H_4
      have H_11 := (b_8.block _ (box_lt H_5)).trans H_5
      have H_12 := (b_8.block _ (box_lt H_6)).trans H_6
      go_wp2_with (first
        | (refine wpList_load_box _ rfl (by rfl) (b := w.heap.size + 1) (off := 0) (n := 22) rfl H_11 Try.underlying46 (by kernel_rfl) (Nat.le_of_ble_eq_true rfl) (drvC d A) rfl ?_
           skip))
      refine (driverCopy_any d A w_7 (hm.below B_9) hl (by omega) hN).mono ?_
      rintro e w_13 ⟨⟨⟨ax, cx, ay, cy⟩, ai, ci, ao, co⟩, rfl, DO, b_14⟩
      have zw_13 := b_14.size
      have B_15 := B_9.trans (b_14.mono B_9.size)
      have H_16 := (b_14.block _ (box_lt H_10)).trans H_10
      have H_17 := (b_14.block _ (box_lt H_11)).trans H_11
      have H_18 := (b_14.block _ (box_lt H_12)).trans H_12
      have DS := DO.s
      obtain ⟨⟨Ox, Oy, Oi, Oo⟩, _⟩ := DO
      dsimp only at Ox Oy Oi Oo
      go_wp2_with (first
        | (refine wpList_store_any _ rfl rfl (by rfl) (b := w.heap.size + 1) (off := 0) (n := 22) rfl rfl (vs := drvC d ⟨⟨ax, cx, ay, cy⟩, ai, ci, ao, co⟩) rfl H_17 (by kernel_rfl) rfl rfl (Nat.le_of_ble_eq_true rfl) (drvC d ⟨⟨ax, cx, ay, cy⟩, ai, ci, ao, co⟩) rfl ?_
           intro w_19 H_20 g_21
           have zw_19 := g_21.size
           have B_22 := below_only B_15 g_21 (by omega)
           have H_23 := box_only' H_16 g_21 (by omega)
           have H_24 := box_only' H_18 g_21 (by omega)
           have o_25 := own_ty Ox H_17 (by decide) g_21
           have o_26 := own_ty Oy H_17 (by decide) g_21
           have o_27 := own_ty Oi H_17 (by decide) g_21
           have o_28 := own_ty Oo H_17 (by decide) g_21
           skip)
        | (refine wpList_load_box _ rfl (by rfl) (b := w.heap.size) (off := 0) (n := 2) rfl H_23 Try.underlying68 (by kernel_rfl) (Nat.le_of_ble_eq_true rfl) (#[.int .i64 hi, .int .i64 lo]) rfl ?_
           have c_29 := box_cell H_20 18 (v := .slice ai d.i.length ci) rfl
           have lc_29 := box_lt H_20
           have c_30 := box_cell H_20 4 (v := .int .i64 d.p.co) rfl
           have lc_30 := box_lt H_20
           skip))
      refine (implFlowNext_any hi lo (d.i.length : Int) false w_19 hf).mono ?_
      rintro e w_31 ⟨rfl, b_32⟩
      have zw_31 := b_32.size
      have B_33 := B_22.trans (b_32.mono B_22.size)
      have H_34 := (b_32.block _ (box_lt H_23)).trans H_23
      have H_35 := (b_32.block _ (box_lt H_20)).trans H_20
      have H_36 := (b_32.block _ (box_lt H_24)).trans H_24
      have o_37 := own_below o_25 b_32
      have o_38 := own_below o_26 b_32
      have o_39 := own_below o_27 b_32
      have o_40 := own_below o_28 b_32
      have c_41 := box_cell H_35 4 (v := .int .i64 d.p.co) rfl
      have lc_41 := box_lt H_35
      go_wp2_with (first
        | (refine wpList_store_any _ rfl rfl (by rfl) (b := w.heap.size + 1) (off := 4) (n := 1) rfl rfl (vs := #[.int .i64 (bits .andNot .i64 d.p.co 2)]) rfl H_35 (by kernel_rfl) rfl rfl (Nat.le_of_ble_eq_true rfl) (drvC { d with p := { d.p with co := (bits .andNot .i64 d.p.co 2) } } ⟨⟨ax, cx, ay, cy⟩, ai, ci, ao, co⟩) rfl ?_
           intro w_42 H_43 g_44
           have zw_42 := g_44.size
           have B_45 := below_only B_33 g_44 (by omega)
           have H_46 := box_only' H_34 g_44 (by omega)
           have H_47 := box_only' H_36 g_44 (by omega)
           have o_48 := own_ty o_37 H_35 (by decide) g_44
           have o_49 := own_ty o_38 H_35 (by decide) g_44
           have o_50 := own_ty o_39 H_35 (by decide) g_44
           have o_51 := own_ty o_40 H_35 (by decide) g_44
           skip)
        | (refine wpList_load_box _ rfl (by rfl) (b := w.heap.size + 1) (off := 0) (n := 22) rfl H_43 Try.underlying46 (by kernel_rfl) (Nat.le_of_ble_eq_true rfl) (drvC { d with p := { d.p with co := (bits .andNot .i64 d.p.co 2) } } ⟨⟨ax, cx, ay, cy⟩, ai, ci, ao, co⟩) rfl ?_
           skip)
        | (refine wpList_store_any _ rfl rfl (by rfl) (b := w.heap.size + 1 + 1) (off := 0) (n := 22) rfl rfl (vs := drvC { d with p := { d.p with co := (bits .andNot .i64 d.p.co 2) } } ⟨⟨ax, cx, ay, cy⟩, ai, ci, ao, co⟩) rfl H_47 (by kernel_rfl) rfl rfl (Nat.le_of_ble_eq_true rfl) (drvC { d with p := { d.p with co := (bits .andNot .i64 d.p.co 2) } } ⟨⟨ax, cx, ay, cy⟩, ai, ci, ao, co⟩) rfl ?_
           intro w_52 H_53 g_54
           have zw_52 := g_54.size
           have B_55 := below_only B_45 g_54 (by omega)
           have H_56 := box_only' H_46 g_54 (by omega)
           have H_57 := box_only' H_43 g_54 (by omega)
           have o_58 := own_ty o_48 H_47 (by decide) g_54
           have o_59 := own_ty o_49 H_47 (by decide) g_54
           have o_60 := own_ty o_50 H_47 (by decide) g_54
           have o_61 := own_ty o_51 H_47 (by decide) g_54
           skip))
      refine bodyPost_ret (results_cell2 (u := .bool true) Try.results30 rfl rfl (load_box (P := Try.prog) H_53 Try.underlying46 (by kernel_rfl) rfl)) rfl ?_
      rw [HR.out]
      exact ⟨⟨⟨ax, cx, ay, cy⟩, ai, ci, ao, co⟩, rfl, ⟨own_base o_58 (by omega), own_base o_59 (by omega), own_base o_60 (by omega), own_base o_61 (by omega)⟩, DS, B_55⟩
    · have HR := Lib.hid (flowR_yes (co := bits .or .i64 d.p.co 2) HALL.out (by rw [co_or hc0 hc1]; simp [flowC, hbd, hw]))
      have b0 : Below w.heap.size w (((w.alloc (.cells #[.int .i64 hi, .int .i64 lo] 68)).alloc (.cells (drvC d A) 46)).alloc (.cells (drvC zDrv zDrvA) 46)) := (((Below.refl _ _).alloc (Nat.le_refl _) _).alloc (by simp) _).alloc (by simp; omega) _
      have F0 := box_alloc (box_alloc (heap_new_at w (.cells #[.int .i64 hi, .int .i64 lo] 68) _ rfl) (.cells (drvC d A) 46)) (.cells (drvC zDrv zDrvA) 46)
      have H0 := box_alloc (heap_new_at (w.alloc (.cells #[.int .i64 hi, .int .i64 lo] 68)) (.cells (drvC d A) 46) (w.heap.size + 1) (by simp)) (.cells (drvC zDrv zDrvA) 46)
      have G0 := heap_new_at ((w.alloc (.cells #[.int .i64 hi, .int .i64 lo] 68)).alloc (.cells (drvC d A) 46)) (.cells (drvC zDrv zDrvA) 46) (w.heap.size + 1 + 1) (by simp)
      go_enter Try.func30, Try.ntmps30
      go_wp2_with (first
        | (refine wpList_load_box _ rfl (by rfl) (b := w.heap.size) (off := 0) (n := 2) rfl F0 Try.underlying68 (by kernel_rfl) (Nat.le_of_ble_eq_true rfl) (#[.int .i64 hi, .int .i64 lo]) rfl ?_))
      refine name_calls fun W hW => ?_
      have bW : Below w.heap.size w W := by rw [hW]; exact b0
      have h0 : W.heap[w.heap.size]? = some (.cells #[.int .i64 hi, .int .i64 lo] 68 (0, 0)) := by rw [hW]; exact F0
      have h1 : W.heap[w.heap.size + 1]? = some (.cells (drvC d A) 46 (0, 0)) := by rw [hW]; exact H0
      have h2 : W.heap[w.heap.size + 1 + 1]? = some (.cells (drvC zDrv zDrvA) 46 (0, 0)) := by rw [hW]; exact G0
      have zW : w.heap.size + 1 + 1 + 1 ≤ W.heap.size := by rw [hW]; simp
      clear hW b0 F0 H0 G0
      refine (implFlowValid_any hi lo W).mono ?_
      rintro e w_1 ⟨rfl, b_2⟩
      have zw_1 := b_2.size
      have B_3 := bW.trans (b_2.mono bW.size)
      have H_4 := (b_2.block _ (box_lt h0)).trans h0
      have H_5 := (b_2.block _ (box_lt h1)).trans h1
      have H_6 := (b_2.block _ (box_lt h2)).trans h2
      go_wp2_with (first
        | (refine wpList_load_box _ rfl (by rfl) (b := w.heap.size + 1) (off := 0) (n := 22) rfl H_5 Try.underlying46 (by kernel_rfl) (Nat.le_of_ble_eq_true rfl) (drvC d A) rfl ?_
           skip))
      refine (implDriverValid_any d A w_1 (hm.below B_3) hl).mono ?_
      rintro e w_7 ⟨rfl, b_8⟩
      have zw_7 := b_8.size
      have B_9 := B_3.trans (b_8.mono B_3.size)
      have H_10 := (b_8.block _ (box_lt H_4)).trans H_4
      have H_11 := (b_8.block _ (box_lt H_5)).trans H_5
      have H_12 := (b_8.block _ (box_lt H_6)).trans H_6
      go_wp2_with (first
        | (refine wpList_load_box _ rfl (by rfl) (b := w.heap.size + 1) (off := 0) (n := 22) rfl H_11 Try.underlying46 (by kernel_rfl) (Nat.le_of_ble_eq_true rfl) (drvC d A) rfl ?_
           skip))
      refine (driverCopy_any d A w_7 (hm.below B_9) hl (by omega) hN).mono ?_
      rintro e w_13 ⟨⟨⟨ax, cx, ay, cy⟩, ai, ci, ao, co⟩, rfl, DO, b_14⟩
      have zw_13 := b_14.size
      have B_15 := B_9.trans (b_14.mono B_9.size)
      have H_16 := (b_14.block _ (box_lt H_10)).trans H_10
      have H_17 := (b_14.block _ (box_lt H_11)).trans H_11
      have H_18 := (b_14.block _ (box_lt H_12)).trans H_12
      have DS := DO.s
      obtain ⟨⟨Ox, Oy, Oi, Oo⟩, _⟩ := DO
      dsimp only at Ox Oy Oi Oo
      go_wp2_with (first
        | (refine wpList_store_any _ rfl rfl (by rfl) (b := w.heap.size + 1) (off := 0) (n := 22) rfl rfl (vs := drvC d ⟨⟨ax, cx, ay, cy⟩, ai, ci, ao, co⟩) rfl H_17 (by kernel_rfl) rfl rfl (Nat.le_of_ble_eq_true rfl) (drvC d ⟨⟨ax, cx, ay, cy⟩, ai, ci, ao, co⟩) rfl ?_
           intro w_19 H_20 g_21
           have zw_19 := g_21.size
           have B_22 := below_only B_15 g_21 (by omega)
           have H_23 := box_only' H_16 g_21 (by omega)
           have H_24 := box_only' H_18 g_21 (by omega)
           have o_25 := own_ty Ox H_17 (by decide) g_21
           have o_26 := own_ty Oy H_17 (by decide) g_21
           have o_27 := own_ty Oi H_17 (by decide) g_21
           have o_28 := own_ty Oo H_17 (by decide) g_21
           skip)
        | (refine wpList_load_box _ rfl (by rfl) (b := w.heap.size) (off := 0) (n := 2) rfl H_23 Try.underlying68 (by kernel_rfl) (Nat.le_of_ble_eq_true rfl) (#[.int .i64 hi, .int .i64 lo]) rfl ?_
           have c_29 := box_cell H_20 18 (v := .slice ai d.i.length ci) rfl
           have lc_29 := box_lt H_20
           have c_30 := box_cell H_20 4 (v := .int .i64 d.p.co) rfl
           have lc_30 := box_lt H_20
           skip))
      refine (implFlowNext_any hi lo (d.i.length : Int) false w_19 hf).mono ?_
      rintro e w_31 ⟨rfl, b_32⟩
      have zw_31 := b_32.size
      have B_33 := B_22.trans (b_32.mono B_22.size)
      have H_34 := (b_32.block _ (box_lt H_23)).trans H_23
      have H_35 := (b_32.block _ (box_lt H_20)).trans H_20
      have H_36 := (b_32.block _ (box_lt H_24)).trans H_24
      have o_37 := own_below o_25 b_32
      have o_38 := own_below o_26 b_32
      have o_39 := own_below o_27 b_32
      have o_40 := own_below o_28 b_32
      have c_41 := box_cell H_35 4 (v := .int .i64 d.p.co) rfl
      have lc_41 := box_lt H_35
      go_wp2_with (first
        | (refine wpList_store_any _ rfl rfl (by rfl) (b := w.heap.size + 1) (off := 4) (n := 1) rfl rfl (vs := #[.int .i64 (bits .or .i64 d.p.co 2)]) rfl H_35 (by kernel_rfl) rfl rfl (Nat.le_of_ble_eq_true rfl) (drvC { d with p := { d.p with co := (bits .or .i64 d.p.co 2) } } ⟨⟨ax, cx, ay, cy⟩, ai, ci, ao, co⟩) rfl ?_
           intro w_42 H_43 g_44
           have zw_42 := g_44.size
           have B_45 := below_only B_33 g_44 (by omega)
           have H_46 := box_only' H_34 g_44 (by omega)
           have H_47 := box_only' H_36 g_44 (by omega)
           have o_48 := own_ty o_37 H_35 (by decide) g_44
           have o_49 := own_ty o_38 H_35 (by decide) g_44
           have o_50 := own_ty o_39 H_35 (by decide) g_44
           have o_51 := own_ty o_40 H_35 (by decide) g_44
           skip)
        | (refine wpList_load_box _ rfl (by rfl) (b := w.heap.size + 1) (off := 0) (n := 22) rfl H_43 Try.underlying46 (by kernel_rfl) (Nat.le_of_ble_eq_true rfl) (drvC { d with p := { d.p with co := (bits .or .i64 d.p.co 2) } } ⟨⟨ax, cx, ay, cy⟩, ai, ci, ao, co⟩) rfl ?_
           skip)
        | (refine wpList_store_any _ rfl rfl (by rfl) (b := w.heap.size + 1 + 1) (off := 0) (n := 22) rfl rfl (vs := drvC { d with p := { d.p with co := (bits .or .i64 d.p.co 2) } } ⟨⟨ax, cx, ay, cy⟩, ai, ci, ao, co⟩) rfl H_47 (by kernel_rfl) rfl rfl (Nat.le_of_ble_eq_true rfl) (drvC { d with p := { d.p with co := (bits .or .i64 d.p.co 2) } } ⟨⟨ax, cx, ay, cy⟩, ai, ci, ao, co⟩) rfl ?_
           intro w_52 H_53 g_54
           have zw_52 := g_54.size
           have B_55 := below_only B_45 g_54 (by omega)
           have H_56 := box_only' H_46 g_54 (by omega)
           have H_57 := box_only' H_43 g_54 (by omega)
           have o_58 := own_ty o_48 H_47 (by decide) g_54
           have o_59 := own_ty o_49 H_47 (by decide) g_54
           have o_60 := own_ty o_50 H_47 (by decide) g_54
           have o_61 := own_ty o_51 H_47 (by decide) g_54
           skip))
      refine bodyPost_ret (results_cell2 (u := .bool true) Try.results30 rfl rfl (load_box (P := Try.prog) H_53 Try.underlying46 (by kernel_rfl) rfl)) rfl ?_
      rw [HR.out]
      exact ⟨⟨⟨ax, cx, ay, cy⟩, ai, ci, ao, co⟩, rfl, ⟨own_base o_58 (by omega), own_base o_59 (by omega), own_base o_60 (by omega), own_base o_61 (by omega)⟩, DS, B_55⟩
set_option maxHeartbeats 4000000 in
set_option maxRecDepth 100000 in
theorem specFlowDriver_any (hi lo : Int) (d : DrvD) (A : DrvA) (w : World) (hm : DrvM w d A) (hl : DrvL d) (hN : DrvN d A) :
    Calls Try.prog 31 #[.agg #[.int .i64 hi, .int .i64 lo], .agg (drvC d A)] w (SendP w (flowR hi lo d)) := by
  cases hf : flowVB hi lo
  · have HR := Lib.hid (flowR_no (hi := hi) (lo := lo) (d := d) (by simp [hf]))
    rw [HR.out]
    have b0 : Below w.heap.size w (((w.alloc (.cells #[.int .i64 hi, .int .i64 lo] 68)).alloc (.cells (drvC d A) 46)).alloc (.cells (drvC zDrv zDrvA) 46)) := (((Below.refl _ _).alloc (Nat.le_refl _) _).alloc (by simp) _).alloc (by simp; omega) _
    have F0 := box_alloc (box_alloc (heap_new_at w (.cells #[.int .i64 hi, .int .i64 lo] 68) _ rfl) (.cells (drvC d A) 46)) (.cells (drvC zDrv zDrvA) 46)
    have H0 := box_alloc (heap_new_at (w.alloc (.cells #[.int .i64 hi, .int .i64 lo] 68)) (.cells (drvC d A) 46) (w.heap.size + 1) (by simp)) (.cells (drvC zDrv zDrvA) 46)
    have G0 := heap_new_at ((w.alloc (.cells #[.int .i64 hi, .int .i64 lo] 68)).alloc (.cells (drvC d A) 46)) (.cells (drvC zDrv zDrvA) 46) (w.heap.size + 1 + 1) (by simp)
    go_enter Try.func31, Try.ntmps31
    go_wp2_with (first
      | (refine wpList_load_box _ rfl (by rfl) (b := w.heap.size) (off := 0) (n := 2) rfl F0 Try.underlying68 (by kernel_rfl) (Nat.le_of_ble_eq_true rfl) (#[.int .i64 hi, .int .i64 lo]) rfl ?_))
    refine name_calls fun W hW => ?_
    have bW : Below w.heap.size w W := by rw [hW]; exact b0
    have h0 : W.heap[w.heap.size]? = some (.cells #[.int .i64 hi, .int .i64 lo] 68 (0, 0)) := by rw [hW]; exact F0
    have h1 : W.heap[w.heap.size + 1]? = some (.cells (drvC d A) 46 (0, 0)) := by rw [hW]; exact H0
    have h2 : W.heap[w.heap.size + 1 + 1]? = some (.cells (drvC zDrv zDrvA) 46 (0, 0)) := by rw [hW]; exact G0
    have zW : w.heap.size + 1 + 1 + 1 ≤ W.heap.size := by rw [hW]; simp
    clear hW b0 F0 H0 G0
    refine (specFlowValid_any hi lo W).mono ?_
    rintro e w_1 ⟨rfl, b_2⟩
    have zw_1 := b_2.size
    have B_3 := bW.trans (b_2.mono bW.size)
    have H_4 := (b_2.block _ (box_lt h0)).trans h0
    have H_5 := (b_2.block _ (box_lt h1)).trans h1
    have H_6 := (b_2.block _ (box_lt h2)).trans h2
    go_wp2_with (first
      | (refine wpList_store_any _ rfl rfl (by rfl) (b := w.heap.size + 1 + 1) (off := 0) (n := 22) rfl rfl (vs := (drvC zDrv zDrvA)) rfl H_6 (by kernel_rfl) rfl rfl (Nat.le_of_ble_eq_true rfl) ((drvC zDrv zDrvA)) rfl ?_
         intro w_7 H_8 g_9
         have zw_7 := g_9.size
         have B_10 := below_only B_3 g_9 (by omega)
         have H_11 := box_only' H_4 g_9 (by omega)
         have H_12 := box_only' H_5 g_9 (by omega)
         skip))
    refine bodyPost_ret (results_cell2 Try.results31 rfl rfl (load_box (P := Try.prog) H_8 Try.underlying46 (by kernel_rfl) rfl)) rfl ?_
    exact ⟨zDrvA, rfl, zDrvO _ _, zDrvS, B_10⟩
  cases hv : drvB d
  · have HR := Lib.hid (flowR_no (hi := hi) (lo := lo) (d := d) (by simp [hf, hv]))
    rw [HR.out]
    have b0 : Below w.heap.size w (((w.alloc (.cells #[.int .i64 hi, .int .i64 lo] 68)).alloc (.cells (drvC d A) 46)).alloc (.cells (drvC zDrv zDrvA) 46)) := (((Below.refl _ _).alloc (Nat.le_refl _) _).alloc (by simp) _).alloc (by simp; omega) _
    have F0 := box_alloc (box_alloc (heap_new_at w (.cells #[.int .i64 hi, .int .i64 lo] 68) _ rfl) (.cells (drvC d A) 46)) (.cells (drvC zDrv zDrvA) 46)
    have H0 := box_alloc (heap_new_at (w.alloc (.cells #[.int .i64 hi, .int .i64 lo] 68)) (.cells (drvC d A) 46) (w.heap.size + 1) (by simp)) (.cells (drvC zDrv zDrvA) 46)
    have G0 := heap_new_at ((w.alloc (.cells #[.int .i64 hi, .int .i64 lo] 68)).alloc (.cells (drvC d A) 46)) (.cells (drvC zDrv zDrvA) 46) (w.heap.size + 1 + 1) (by simp)
    go_enter Try.func31, Try.ntmps31
    go_wp2_with (first
      | (refine wpList_load_box _ rfl (by rfl) (b := w.heap.size) (off := 0) (n := 2) rfl F0 Try.underlying68 (by kernel_rfl) (Nat.le_of_ble_eq_true rfl) (#[.int .i64 hi, .int .i64 lo]) rfl ?_))
    refine name_calls fun W hW => ?_
    have bW : Below w.heap.size w W := by rw [hW]; exact b0
    have h0 : W.heap[w.heap.size]? = some (.cells #[.int .i64 hi, .int .i64 lo] 68 (0, 0)) := by rw [hW]; exact F0
    have h1 : W.heap[w.heap.size + 1]? = some (.cells (drvC d A) 46 (0, 0)) := by rw [hW]; exact H0
    have h2 : W.heap[w.heap.size + 1 + 1]? = some (.cells (drvC zDrv zDrvA) 46 (0, 0)) := by rw [hW]; exact G0
    have zW : w.heap.size + 1 + 1 + 1 ≤ W.heap.size := by rw [hW]; simp
    clear hW b0 F0 H0 G0
    refine (specFlowValid_any hi lo W).mono ?_
    rintro e w_1 ⟨rfl, b_2⟩
    have zw_1 := b_2.size
    have B_3 := bW.trans (b_2.mono bW.size)
    have H_4 := (b_2.block _ (box_lt h0)).trans h0
    have H_5 := (b_2.block _ (box_lt h1)).trans h1
    have H_6 := (b_2.block _ (box_lt h2)).trans h2
    go_wp2_with (first
      | (refine wpList_load_box _ rfl (by rfl) (b := w.heap.size + 1) (off := 0) (n := 22) rfl H_5 Try.underlying46 (by kernel_rfl) (Nat.le_of_ble_eq_true rfl) (drvC d A) rfl ?_
         skip))
    refine (specDriverValid_any d A w_1 (hm.below B_3) hl).mono ?_
    rintro e w_7 ⟨rfl, b_8⟩
    have zw_7 := b_8.size
    have B_9 := B_3.trans (b_8.mono B_3.size)
    have H_10 := (b_8.block _ (box_lt H_4)).trans H_4
    have H_11 := (b_8.block _ (box_lt H_5)).trans H_5
    have H_12 := (b_8.block _ (box_lt H_6)).trans H_6
    go_wp2_with (first
      | (refine wpList_store_any _ rfl rfl (by rfl) (b := w.heap.size + 1 + 1) (off := 0) (n := 22) rfl rfl (vs := (drvC zDrv zDrvA)) rfl H_12 (by kernel_rfl) rfl rfl (Nat.le_of_ble_eq_true rfl) ((drvC zDrv zDrvA)) rfl ?_
         intro w_13 H_14 g_15
         have zw_13 := g_15.size
         have B_16 := below_only B_9 g_15 (by omega)
         have H_17 := box_only' H_10 g_15 (by omega)
         have H_18 := box_only' H_11 g_15 (by omega)
         skip))
    refine bodyPost_ret (results_cell2 Try.results31 rfl rfl (load_box (P := Try.prog) H_14 Try.underlying46 (by kernel_rfl) rfl)) rfl ?_
    exact ⟨zDrvA, rfl, zDrvO _ _, zDrvS, B_16⟩
  have hlen := drvB_len hv
  have hlg := hlen.1
  have hli := hlen.2.2.1
  have hen := drvB_en hv
  have hc0 := hen.2.2.1
  have hc1 := hen.2.2.2
  clear hen
  have hall : (flowVB hi lo && drvB d) = true := by simp [hf, hv]
  have HALL := Lib.hid hall
  clear hall
  by_cases hbit : d.p.co / 2 % 2 = 1
  · have hbd : decide (d.p.co / 2 % 2 = 1) = true := by simpa using hbit
    have hand := co_bit1 hc0 hc1 hbit
    clear hbit
    have htm : d.p.co.tmod 2 = d.p.co % 2 := Int.tmod_eq_emod_of_nonneg hc0
    have hwr : IntKind.i64.wrap (d.p.co % 2 + 2) = d.p.co % 2 + 2 := IntWalk.i64_in _ (by omega)
    cases hw : flowW hi lo (d.i.length : Int) true
    · have HR := Lib.hid (flowR_yes (co := d.p.co % 2) HALL.out (by simp [flowC, hbd, hw]))
      have b0 : Below w.heap.size w (((w.alloc (.cells #[.int .i64 hi, .int .i64 lo] 68)).alloc (.cells (drvC d A) 46)).alloc (.cells (drvC zDrv zDrvA) 46)) := (((Below.refl _ _).alloc (Nat.le_refl _) _).alloc (by simp) _).alloc (by simp; omega) _
      have F0 := box_alloc (box_alloc (heap_new_at w (.cells #[.int .i64 hi, .int .i64 lo] 68) _ rfl) (.cells (drvC d A) 46)) (.cells (drvC zDrv zDrvA) 46)
      have H0 := box_alloc (heap_new_at (w.alloc (.cells #[.int .i64 hi, .int .i64 lo] 68)) (.cells (drvC d A) 46) (w.heap.size + 1) (by simp)) (.cells (drvC zDrv zDrvA) 46)
      have G0 := heap_new_at ((w.alloc (.cells #[.int .i64 hi, .int .i64 lo] 68)).alloc (.cells (drvC d A) 46)) (.cells (drvC zDrv zDrvA) 46) (w.heap.size + 1 + 1) (by simp)
      go_enter Try.func31, Try.ntmps31
      go_wp2_with (first
        | (refine wpList_load_box _ rfl (by rfl) (b := w.heap.size) (off := 0) (n := 2) rfl F0 Try.underlying68 (by kernel_rfl) (Nat.le_of_ble_eq_true rfl) (#[.int .i64 hi, .int .i64 lo]) rfl ?_))
      refine name_calls fun W hW => ?_
      have bW : Below w.heap.size w W := by rw [hW]; exact b0
      have h0 : W.heap[w.heap.size]? = some (.cells #[.int .i64 hi, .int .i64 lo] 68 (0, 0)) := by rw [hW]; exact F0
      have h1 : W.heap[w.heap.size + 1]? = some (.cells (drvC d A) 46 (0, 0)) := by rw [hW]; exact H0
      have h2 : W.heap[w.heap.size + 1 + 1]? = some (.cells (drvC zDrv zDrvA) 46 (0, 0)) := by rw [hW]; exact G0
      have zW : w.heap.size + 1 + 1 + 1 ≤ W.heap.size := by rw [hW]; simp
      clear hW b0 F0 H0 G0
      refine (specFlowValid_any hi lo W).mono ?_
      rintro e w_1 ⟨rfl, b_2⟩
      have zw_1 := b_2.size
      have B_3 := bW.trans (b_2.mono bW.size)
      have H_4 := (b_2.block _ (box_lt h0)).trans h0
      have H_5 := (b_2.block _ (box_lt h1)).trans h1
      have H_6 := (b_2.block _ (box_lt h2)).trans h2
      go_wp2_with (first
        | (refine wpList_load_box _ rfl (by rfl) (b := w.heap.size + 1) (off := 0) (n := 22) rfl H_5 Try.underlying46 (by kernel_rfl) (Nat.le_of_ble_eq_true rfl) (drvC d A) rfl ?_
           skip))
      refine (specDriverValid_any d A w_1 (hm.below B_3) hl).mono ?_
      rintro e w_7 ⟨rfl, b_8⟩
      have zw_7 := b_8.size
      have B_9 := B_3.trans (b_8.mono B_3.size)
      have H_10 := (b_8.block _ (box_lt H_4)).trans H_4
      have H_11 := (b_8.block _ (box_lt H_5)).trans H_5
      have H_12 := (b_8.block _ (box_lt H_6)).trans H_6
      go_wp2_with (first
        | (refine wpList_load_box _ rfl (by rfl) (b := w.heap.size + 1) (off := 0) (n := 22) rfl H_11 Try.underlying46 (by kernel_rfl) (Nat.le_of_ble_eq_true rfl) (drvC d A) rfl ?_
           skip))
      refine (l21Copy_any d A w_7 (hm.below B_9) hl (by omega) hN).mono ?_
      rintro e w_13 ⟨⟨⟨ax, cx, ay, cy⟩, ai, ci, ao, co⟩, rfl, DO, b_14⟩
      have zw_13 := b_14.size
      have B_15 := B_9.trans (b_14.mono B_9.size)
      have H_16 := (b_14.block _ (box_lt H_10)).trans H_10
      have H_17 := (b_14.block _ (box_lt H_11)).trans H_11
      have H_18 := (b_14.block _ (box_lt H_12)).trans H_12
      have DS := DO.s
      obtain ⟨⟨Ox, Oy, Oi, Oo⟩, _⟩ := DO
      dsimp only at Ox Oy Oi Oo
      go_wp2_with (first
        | (refine wpList_store_any _ rfl rfl (by rfl) (b := w_13.heap.size) (off := 0) (n := 22) rfl rfl (vs := (drvC d ⟨⟨ax, cx, ay, cy⟩, ai, ci, ao, co⟩)) rfl (heap_new_at w_13 (.cells (drvC zDrv zDrvA) 46) _ rfl) (by kernel_rfl) rfl rfl (Nat.le_of_ble_eq_true rfl) ((drvC d ⟨⟨ax, cx, ay, cy⟩, ai, ci, ao, co⟩)) rfl ?_
           intro w_19 H_20 g_21
           have b_22 : Below w_13.heap.size w_13 w_19 := below_only ((Below.refl _ _).alloc (Nat.le_refl _) _) g_21 (Nat.le_refl _)
           have zw_19 := b_22.size
           have B_23 := B_15.trans (b_22.mono B_15.size)
           have lH_20 := box_lt H_20
           have H_24 := (b_22.block _ (box_lt H_16)).trans H_16
           have H_25 := (b_22.block _ (box_lt H_17)).trans H_17
           have H_26 := (b_22.block _ (box_lt H_18)).trans H_18
           have o_27 := own_below Ox b_22
           have o_28 := own_below Oy b_22
           have o_29 := own_below Oi b_22
           have o_30 := own_below Oo b_22
           have c_31 := box_cell H_25 4 (v := .int .i64 d.p.co) rfl
           have lc_31 := box_lt H_25
           skip))
      have p0 : ∀ p : After w_19, p.w.cell? ⟨w.heap.size, 0, none⟩ = some (.int .i64 hi) := fun p => p.cell (box_cell H_24 0 rfl)
      have p1 : ∀ p : After w_19, p.w.cell? ⟨w.heap.size, 1, none⟩ = some (.int .i64 lo) := fun p => p.cell (box_cell H_24 1 rfl)
      have p2 : ∀ p : After w_19, p.w.cell? ⟨w.heap.size + 1, 18, none⟩ = some (.slice A.ai d.i.length A.ci) := fun p => p.cell (box_cell H_25 18 rfl)
      have p3 : ∀ p : After w_19, p.w.cell? ⟨w.heap.size + 1, 4, none⟩ = some (.int .i64 d.p.co) := fun p => p.cell (box_cell H_25 4 rfl)
      have HB1 := Lib.hid (fun v => l13Bit2_any d.p.co v hc0 (by omega))
      rw [hbd] at HB1
      have HF1 := Lib.hid (fun v => specFlowNext_any hi lo (d.i.length : Int) true v hf)
      rw [hw] at HF1
      refine wp_region_after (by kernel_rfl) (by kernel_rfl) ?_
      repeat (go_big_quiet_step (((first | (go_at_call 44; exact After.call (calls_below (HB1.out _))) | (go_at_call 57; exact After.call (HF1.out _))))))
      refine wpQuiet_nil ?_
      intro p
      clear p0 p1 p2 p3
      obtain ⟨wp, bp⟩ := p
      dsimp only
      have zwp := bp.size
      have Bp := B_23.trans (bp.mono B_23.size)
      have H_32 := (bp.block _ (box_lt H_24)).trans H_24
      have H_33 := (bp.block _ (box_lt H_25)).trans H_25
      have H_34 := (bp.block _ (box_lt H_26)).trans H_26
      have H_35 := (bp.block _ (box_lt H_20)).trans H_20
      have o_36 := own_below o_27 bp
      have o_37 := own_below o_28 bp
      have o_38 := own_below o_29 bp
      have o_39 := own_below o_30 bp
      have c_40 := box_cell H_35 4 (v := .int .i64 d.p.co) rfl
      have lc_40 := box_lt H_35
      go_wp2_with (first
        | (refine wpList_store_any _ rfl rfl (by rfl) (b := w_13.heap.size) (off := 4) (n := 1) rfl rfl (vs := #[.int .i64 (d.p.co % 2)]) rfl H_35 (by kernel_rfl) rfl rfl (Nat.le_of_ble_eq_true rfl) (drvC { d with p := { d.p with co := (d.p.co % 2) } } ⟨⟨ax, cx, ay, cy⟩, ai, ci, ao, co⟩) rfl ?_
           intro w_41 H_42 g_43
           have zw_41 := g_43.size
           have B_44 := below_only Bp g_43 (by omega)
           have H_45 := box_only' H_32 g_43 (by omega)
           have H_46 := box_only' H_33 g_43 (by omega)
           have H_47 := box_only' H_34 g_43 (by omega)
           have o_48 := own_ty o_36 H_35 (by decide) g_43
           have o_49 := own_ty o_37 H_35 (by decide) g_43
           have o_50 := own_ty o_38 H_35 (by decide) g_43
           have o_51 := own_ty o_39 H_35 (by decide) g_43
           skip)
        | (refine wpList_load_box _ rfl (by rfl) (b := w_13.heap.size) (off := 0) (n := 22) rfl H_42 Try.underlying46 (by kernel_rfl) (Nat.le_of_ble_eq_true rfl) (drvC { d with p := { d.p with co := (d.p.co % 2) } } ⟨⟨ax, cx, ay, cy⟩, ai, ci, ao, co⟩) rfl ?_
           skip)
        | (refine wpList_store_any _ rfl rfl (by rfl) (b := w.heap.size + 1 + 1) (off := 0) (n := 22) rfl rfl (vs := drvC { d with p := { d.p with co := (d.p.co % 2) } } ⟨⟨ax, cx, ay, cy⟩, ai, ci, ao, co⟩) rfl H_47 (by kernel_rfl) rfl rfl (Nat.le_of_ble_eq_true rfl) (drvC { d with p := { d.p with co := (d.p.co % 2) } } ⟨⟨ax, cx, ay, cy⟩, ai, ci, ao, co⟩) rfl ?_
           intro w_52 H_53 g_54
           have zw_52 := g_54.size
           have B_55 := below_only B_44 g_54 (by omega)
           have H_56 := box_only' H_45 g_54 (by omega)
           have H_57 := box_only' H_46 g_54 (by omega)
           have H_58 := box_only' H_42 g_54 (by omega)
           have o_59 := own_ty o_48 H_47 (by decide) g_54
           have o_60 := own_ty o_49 H_47 (by decide) g_54
           have o_61 := own_ty o_50 H_47 (by decide) g_54
           have o_62 := own_ty o_51 H_47 (by decide) g_54
           skip))
      refine bodyPost_ret (results_cell2 (u := .bool true) Try.results31 rfl rfl (load_box (P := Try.prog) H_53 Try.underlying46 (by kernel_rfl) rfl)) rfl ?_
      rw [HR.out]
      exact ⟨⟨⟨ax, cx, ay, cy⟩, ai, ci, ao, co⟩, rfl, ⟨own_base o_59 (by omega), own_base o_60 (by omega), own_base o_61 (by omega), own_base o_62 (by omega)⟩, DS, B_55⟩
    · have HR := Lib.hid (flowR_yes (co := d.p.co % 2 + 2) HALL.out (by simp [flowC, hbd, hw]))
      have b0 : Below w.heap.size w (((w.alloc (.cells #[.int .i64 hi, .int .i64 lo] 68)).alloc (.cells (drvC d A) 46)).alloc (.cells (drvC zDrv zDrvA) 46)) := (((Below.refl _ _).alloc (Nat.le_refl _) _).alloc (by simp) _).alloc (by simp; omega) _
      have F0 := box_alloc (box_alloc (heap_new_at w (.cells #[.int .i64 hi, .int .i64 lo] 68) _ rfl) (.cells (drvC d A) 46)) (.cells (drvC zDrv zDrvA) 46)
      have H0 := box_alloc (heap_new_at (w.alloc (.cells #[.int .i64 hi, .int .i64 lo] 68)) (.cells (drvC d A) 46) (w.heap.size + 1) (by simp)) (.cells (drvC zDrv zDrvA) 46)
      have G0 := heap_new_at ((w.alloc (.cells #[.int .i64 hi, .int .i64 lo] 68)).alloc (.cells (drvC d A) 46)) (.cells (drvC zDrv zDrvA) 46) (w.heap.size + 1 + 1) (by simp)
      go_enter Try.func31, Try.ntmps31
      go_wp2_with (first
        | (refine wpList_load_box _ rfl (by rfl) (b := w.heap.size) (off := 0) (n := 2) rfl F0 Try.underlying68 (by kernel_rfl) (Nat.le_of_ble_eq_true rfl) (#[.int .i64 hi, .int .i64 lo]) rfl ?_))
      refine name_calls fun W hW => ?_
      have bW : Below w.heap.size w W := by rw [hW]; exact b0
      have h0 : W.heap[w.heap.size]? = some (.cells #[.int .i64 hi, .int .i64 lo] 68 (0, 0)) := by rw [hW]; exact F0
      have h1 : W.heap[w.heap.size + 1]? = some (.cells (drvC d A) 46 (0, 0)) := by rw [hW]; exact H0
      have h2 : W.heap[w.heap.size + 1 + 1]? = some (.cells (drvC zDrv zDrvA) 46 (0, 0)) := by rw [hW]; exact G0
      have zW : w.heap.size + 1 + 1 + 1 ≤ W.heap.size := by rw [hW]; simp
      clear hW b0 F0 H0 G0
      refine (specFlowValid_any hi lo W).mono ?_
      rintro e w_1 ⟨rfl, b_2⟩
      have zw_1 := b_2.size
      have B_3 := bW.trans (b_2.mono bW.size)
      have H_4 := (b_2.block _ (box_lt h0)).trans h0
      have H_5 := (b_2.block _ (box_lt h1)).trans h1
      have H_6 := (b_2.block _ (box_lt h2)).trans h2
      go_wp2_with (first
        | (refine wpList_load_box _ rfl (by rfl) (b := w.heap.size + 1) (off := 0) (n := 22) rfl H_5 Try.underlying46 (by kernel_rfl) (Nat.le_of_ble_eq_true rfl) (drvC d A) rfl ?_
           skip))
      refine (specDriverValid_any d A w_1 (hm.below B_3) hl).mono ?_
      rintro e w_7 ⟨rfl, b_8⟩
      have zw_7 := b_8.size
      have B_9 := B_3.trans (b_8.mono B_3.size)
      have H_10 := (b_8.block _ (box_lt H_4)).trans H_4
      have H_11 := (b_8.block _ (box_lt H_5)).trans H_5
      have H_12 := (b_8.block _ (box_lt H_6)).trans H_6
      go_wp2_with (first
        | (refine wpList_load_box _ rfl (by rfl) (b := w.heap.size + 1) (off := 0) (n := 22) rfl H_11 Try.underlying46 (by kernel_rfl) (Nat.le_of_ble_eq_true rfl) (drvC d A) rfl ?_
           skip))
      refine (l21Copy_any d A w_7 (hm.below B_9) hl (by omega) hN).mono ?_
      rintro e w_13 ⟨⟨⟨ax, cx, ay, cy⟩, ai, ci, ao, co⟩, rfl, DO, b_14⟩
      have zw_13 := b_14.size
      have B_15 := B_9.trans (b_14.mono B_9.size)
      have H_16 := (b_14.block _ (box_lt H_10)).trans H_10
      have H_17 := (b_14.block _ (box_lt H_11)).trans H_11
      have H_18 := (b_14.block _ (box_lt H_12)).trans H_12
      have DS := DO.s
      obtain ⟨⟨Ox, Oy, Oi, Oo⟩, _⟩ := DO
      dsimp only at Ox Oy Oi Oo
      go_wp2_with (first
        | (refine wpList_store_any _ rfl rfl (by rfl) (b := w_13.heap.size) (off := 0) (n := 22) rfl rfl (vs := (drvC d ⟨⟨ax, cx, ay, cy⟩, ai, ci, ao, co⟩)) rfl (heap_new_at w_13 (.cells (drvC zDrv zDrvA) 46) _ rfl) (by kernel_rfl) rfl rfl (Nat.le_of_ble_eq_true rfl) ((drvC d ⟨⟨ax, cx, ay, cy⟩, ai, ci, ao, co⟩)) rfl ?_
           intro w_19 H_20 g_21
           have b_22 : Below w_13.heap.size w_13 w_19 := below_only ((Below.refl _ _).alloc (Nat.le_refl _) _) g_21 (Nat.le_refl _)
           have zw_19 := b_22.size
           have B_23 := B_15.trans (b_22.mono B_15.size)
           have lH_20 := box_lt H_20
           have H_24 := (b_22.block _ (box_lt H_16)).trans H_16
           have H_25 := (b_22.block _ (box_lt H_17)).trans H_17
           have H_26 := (b_22.block _ (box_lt H_18)).trans H_18
           have o_27 := own_below Ox b_22
           have o_28 := own_below Oy b_22
           have o_29 := own_below Oi b_22
           have o_30 := own_below Oo b_22
           have c_31 := box_cell H_25 4 (v := .int .i64 d.p.co) rfl
           have lc_31 := box_lt H_25
           skip))
      have p0 : ∀ p : After w_19, p.w.cell? ⟨w.heap.size, 0, none⟩ = some (.int .i64 hi) := fun p => p.cell (box_cell H_24 0 rfl)
      have p1 : ∀ p : After w_19, p.w.cell? ⟨w.heap.size, 1, none⟩ = some (.int .i64 lo) := fun p => p.cell (box_cell H_24 1 rfl)
      have p2 : ∀ p : After w_19, p.w.cell? ⟨w.heap.size + 1, 18, none⟩ = some (.slice A.ai d.i.length A.ci) := fun p => p.cell (box_cell H_25 18 rfl)
      have p3 : ∀ p : After w_19, p.w.cell? ⟨w.heap.size + 1, 4, none⟩ = some (.int .i64 d.p.co) := fun p => p.cell (box_cell H_25 4 rfl)
      have HB1 := Lib.hid (fun v => l13Bit2_any d.p.co v hc0 (by omega))
      rw [hbd] at HB1
      have HF1 := Lib.hid (fun v => specFlowNext_any hi lo (d.i.length : Int) true v hf)
      rw [hw] at HF1
      refine wp_region_after (by kernel_rfl) (by kernel_rfl) ?_
      repeat (go_big_quiet_step (((first | (go_at_call 44; exact After.call (calls_below (HB1.out _))) | (go_at_call 57; exact After.call (HF1.out _))))))
      refine wpQuiet_nil ?_
      intro p
      clear p0 p1 p2 p3
      obtain ⟨wp, bp⟩ := p
      dsimp only
      have zwp := bp.size
      have Bp := B_23.trans (bp.mono B_23.size)
      have H_32 := (bp.block _ (box_lt H_24)).trans H_24
      have H_33 := (bp.block _ (box_lt H_25)).trans H_25
      have H_34 := (bp.block _ (box_lt H_26)).trans H_26
      have H_35 := (bp.block _ (box_lt H_20)).trans H_20
      have o_36 := own_below o_27 bp
      have o_37 := own_below o_28 bp
      have o_38 := own_below o_29 bp
      have o_39 := own_below o_30 bp
      have c_40 := box_cell H_35 4 (v := .int .i64 d.p.co) rfl
      have lc_40 := box_lt H_35
      go_wp2_with (first
        | (refine wpList_store_any _ rfl rfl (by rfl) (b := w_13.heap.size) (off := 4) (n := 1) rfl rfl (vs := #[.int .i64 (d.p.co % 2 + 2)]) rfl H_35 (by kernel_rfl) rfl rfl (Nat.le_of_ble_eq_true rfl) (drvC { d with p := { d.p with co := (d.p.co % 2 + 2) } } ⟨⟨ax, cx, ay, cy⟩, ai, ci, ao, co⟩) rfl ?_
           intro w_41 H_42 g_43
           have zw_41 := g_43.size
           have B_44 := below_only Bp g_43 (by omega)
           have H_45 := box_only' H_32 g_43 (by omega)
           have H_46 := box_only' H_33 g_43 (by omega)
           have H_47 := box_only' H_34 g_43 (by omega)
           have o_48 := own_ty o_36 H_35 (by decide) g_43
           have o_49 := own_ty o_37 H_35 (by decide) g_43
           have o_50 := own_ty o_38 H_35 (by decide) g_43
           have o_51 := own_ty o_39 H_35 (by decide) g_43
           skip)
        | (refine wpList_load_box _ rfl (by rfl) (b := w_13.heap.size) (off := 0) (n := 22) rfl H_42 Try.underlying46 (by kernel_rfl) (Nat.le_of_ble_eq_true rfl) (drvC { d with p := { d.p with co := (d.p.co % 2 + 2) } } ⟨⟨ax, cx, ay, cy⟩, ai, ci, ao, co⟩) rfl ?_
           skip)
        | (refine wpList_store_any _ rfl rfl (by rfl) (b := w.heap.size + 1 + 1) (off := 0) (n := 22) rfl rfl (vs := drvC { d with p := { d.p with co := (d.p.co % 2 + 2) } } ⟨⟨ax, cx, ay, cy⟩, ai, ci, ao, co⟩) rfl H_47 (by kernel_rfl) rfl rfl (Nat.le_of_ble_eq_true rfl) (drvC { d with p := { d.p with co := (d.p.co % 2 + 2) } } ⟨⟨ax, cx, ay, cy⟩, ai, ci, ao, co⟩) rfl ?_
           intro w_52 H_53 g_54
           have zw_52 := g_54.size
           have B_55 := below_only B_44 g_54 (by omega)
           have H_56 := box_only' H_45 g_54 (by omega)
           have H_57 := box_only' H_46 g_54 (by omega)
           have H_58 := box_only' H_42 g_54 (by omega)
           have o_59 := own_ty o_48 H_47 (by decide) g_54
           have o_60 := own_ty o_49 H_47 (by decide) g_54
           have o_61 := own_ty o_50 H_47 (by decide) g_54
           have o_62 := own_ty o_51 H_47 (by decide) g_54
           skip))
      refine bodyPost_ret (results_cell2 (u := .bool true) Try.results31 rfl rfl (load_box (P := Try.prog) H_53 Try.underlying46 (by kernel_rfl) rfl)) rfl ?_
      rw [HR.out]
      exact ⟨⟨⟨ax, cx, ay, cy⟩, ai, ci, ao, co⟩, rfl, ⟨own_base o_59 (by omega), own_base o_60 (by omega), own_base o_61 (by omega), own_base o_62 (by omega)⟩, DS, B_55⟩
  · have hbd : decide (d.p.co / 2 % 2 = 1) = false := by simpa using hbit
    have hand := co_bit0 hc0 hc1 hbit
    clear hbit
    have htm : d.p.co.tmod 2 = d.p.co % 2 := Int.tmod_eq_emod_of_nonneg hc0
    have hwr : IntKind.i64.wrap (d.p.co % 2 + 2) = d.p.co % 2 + 2 := IntWalk.i64_in _ (by omega)
    cases hw : flowW hi lo (d.i.length : Int) false
    · have HR := Lib.hid (flowR_yes (co := d.p.co % 2) HALL.out (by simp [flowC, hbd, hw]))
      have b0 : Below w.heap.size w (((w.alloc (.cells #[.int .i64 hi, .int .i64 lo] 68)).alloc (.cells (drvC d A) 46)).alloc (.cells (drvC zDrv zDrvA) 46)) := (((Below.refl _ _).alloc (Nat.le_refl _) _).alloc (by simp) _).alloc (by simp; omega) _
      have F0 := box_alloc (box_alloc (heap_new_at w (.cells #[.int .i64 hi, .int .i64 lo] 68) _ rfl) (.cells (drvC d A) 46)) (.cells (drvC zDrv zDrvA) 46)
      have H0 := box_alloc (heap_new_at (w.alloc (.cells #[.int .i64 hi, .int .i64 lo] 68)) (.cells (drvC d A) 46) (w.heap.size + 1) (by simp)) (.cells (drvC zDrv zDrvA) 46)
      have G0 := heap_new_at ((w.alloc (.cells #[.int .i64 hi, .int .i64 lo] 68)).alloc (.cells (drvC d A) 46)) (.cells (drvC zDrv zDrvA) 46) (w.heap.size + 1 + 1) (by simp)
      go_enter Try.func31, Try.ntmps31
      go_wp2_with (first
        | (refine wpList_load_box _ rfl (by rfl) (b := w.heap.size) (off := 0) (n := 2) rfl F0 Try.underlying68 (by kernel_rfl) (Nat.le_of_ble_eq_true rfl) (#[.int .i64 hi, .int .i64 lo]) rfl ?_))
      refine name_calls fun W hW => ?_
      have bW : Below w.heap.size w W := by rw [hW]; exact b0
      have h0 : W.heap[w.heap.size]? = some (.cells #[.int .i64 hi, .int .i64 lo] 68 (0, 0)) := by rw [hW]; exact F0
      have h1 : W.heap[w.heap.size + 1]? = some (.cells (drvC d A) 46 (0, 0)) := by rw [hW]; exact H0
      have h2 : W.heap[w.heap.size + 1 + 1]? = some (.cells (drvC zDrv zDrvA) 46 (0, 0)) := by rw [hW]; exact G0
      have zW : w.heap.size + 1 + 1 + 1 ≤ W.heap.size := by rw [hW]; simp
      clear hW b0 F0 H0 G0
      refine (specFlowValid_any hi lo W).mono ?_
      rintro e w_1 ⟨rfl, b_2⟩
      have zw_1 := b_2.size
      have B_3 := bW.trans (b_2.mono bW.size)
      have H_4 := (b_2.block _ (box_lt h0)).trans h0
      have H_5 := (b_2.block _ (box_lt h1)).trans h1
      have H_6 := (b_2.block _ (box_lt h2)).trans h2
      go_wp2_with (first
        | (refine wpList_load_box _ rfl (by rfl) (b := w.heap.size + 1) (off := 0) (n := 22) rfl H_5 Try.underlying46 (by kernel_rfl) (Nat.le_of_ble_eq_true rfl) (drvC d A) rfl ?_
           skip))
      refine (specDriverValid_any d A w_1 (hm.below B_3) hl).mono ?_
      rintro e w_7 ⟨rfl, b_8⟩
      have zw_7 := b_8.size
      have B_9 := B_3.trans (b_8.mono B_3.size)
      have H_10 := (b_8.block _ (box_lt H_4)).trans H_4
      have H_11 := (b_8.block _ (box_lt H_5)).trans H_5
      have H_12 := (b_8.block _ (box_lt H_6)).trans H_6
      go_wp2_with (first
        | (refine wpList_load_box _ rfl (by rfl) (b := w.heap.size + 1) (off := 0) (n := 22) rfl H_11 Try.underlying46 (by kernel_rfl) (Nat.le_of_ble_eq_true rfl) (drvC d A) rfl ?_
           skip))
      refine (l21Copy_any d A w_7 (hm.below B_9) hl (by omega) hN).mono ?_
      rintro e w_13 ⟨⟨⟨ax, cx, ay, cy⟩, ai, ci, ao, co⟩, rfl, DO, b_14⟩
      have zw_13 := b_14.size
      have B_15 := B_9.trans (b_14.mono B_9.size)
      have H_16 := (b_14.block _ (box_lt H_10)).trans H_10
      have H_17 := (b_14.block _ (box_lt H_11)).trans H_11
      have H_18 := (b_14.block _ (box_lt H_12)).trans H_12
      have DS := DO.s
      obtain ⟨⟨Ox, Oy, Oi, Oo⟩, _⟩ := DO
      dsimp only at Ox Oy Oi Oo
      go_wp2_with (first
        | (refine wpList_store_any _ rfl rfl (by rfl) (b := w_13.heap.size) (off := 0) (n := 22) rfl rfl (vs := (drvC d ⟨⟨ax, cx, ay, cy⟩, ai, ci, ao, co⟩)) rfl (heap_new_at w_13 (.cells (drvC zDrv zDrvA) 46) _ rfl) (by kernel_rfl) rfl rfl (Nat.le_of_ble_eq_true rfl) ((drvC d ⟨⟨ax, cx, ay, cy⟩, ai, ci, ao, co⟩)) rfl ?_
           intro w_19 H_20 g_21
           have b_22 : Below w_13.heap.size w_13 w_19 := below_only ((Below.refl _ _).alloc (Nat.le_refl _) _) g_21 (Nat.le_refl _)
           have zw_19 := b_22.size
           have B_23 := B_15.trans (b_22.mono B_15.size)
           have lH_20 := box_lt H_20
           have H_24 := (b_22.block _ (box_lt H_16)).trans H_16
           have H_25 := (b_22.block _ (box_lt H_17)).trans H_17
           have H_26 := (b_22.block _ (box_lt H_18)).trans H_18
           have o_27 := own_below Ox b_22
           have o_28 := own_below Oy b_22
           have o_29 := own_below Oi b_22
           have o_30 := own_below Oo b_22
           have c_31 := box_cell H_25 4 (v := .int .i64 d.p.co) rfl
           have lc_31 := box_lt H_25
           skip))
      have p0 : ∀ p : After w_19, p.w.cell? ⟨w.heap.size, 0, none⟩ = some (.int .i64 hi) := fun p => p.cell (box_cell H_24 0 rfl)
      have p1 : ∀ p : After w_19, p.w.cell? ⟨w.heap.size, 1, none⟩ = some (.int .i64 lo) := fun p => p.cell (box_cell H_24 1 rfl)
      have p2 : ∀ p : After w_19, p.w.cell? ⟨w.heap.size + 1, 18, none⟩ = some (.slice A.ai d.i.length A.ci) := fun p => p.cell (box_cell H_25 18 rfl)
      have p3 : ∀ p : After w_19, p.w.cell? ⟨w.heap.size + 1, 4, none⟩ = some (.int .i64 d.p.co) := fun p => p.cell (box_cell H_25 4 rfl)
      have HB1 := Lib.hid (fun v => l13Bit2_any d.p.co v hc0 (by omega))
      rw [hbd] at HB1
      have HF1 := Lib.hid (fun v => specFlowNext_any hi lo (d.i.length : Int) false v hf)
      rw [hw] at HF1
      refine wp_region_after (by kernel_rfl) (by kernel_rfl) ?_
      repeat (go_big_quiet_step (((first | (go_at_call 44; exact After.call (calls_below (HB1.out _))) | (go_at_call 57; exact After.call (HF1.out _))))))
      refine wpQuiet_nil ?_
      intro p
      clear p0 p1 p2 p3
      obtain ⟨wp, bp⟩ := p
      dsimp only
      have zwp := bp.size
      have Bp := B_23.trans (bp.mono B_23.size)
      have H_32 := (bp.block _ (box_lt H_24)).trans H_24
      have H_33 := (bp.block _ (box_lt H_25)).trans H_25
      have H_34 := (bp.block _ (box_lt H_26)).trans H_26
      have H_35 := (bp.block _ (box_lt H_20)).trans H_20
      have o_36 := own_below o_27 bp
      have o_37 := own_below o_28 bp
      have o_38 := own_below o_29 bp
      have o_39 := own_below o_30 bp
      have c_40 := box_cell H_35 4 (v := .int .i64 d.p.co) rfl
      have lc_40 := box_lt H_35
      go_wp2_with (first
        | (refine wpList_store_any _ rfl rfl (by rfl) (b := w_13.heap.size) (off := 4) (n := 1) rfl rfl (vs := #[.int .i64 (d.p.co % 2)]) rfl H_35 (by kernel_rfl) rfl rfl (Nat.le_of_ble_eq_true rfl) (drvC { d with p := { d.p with co := (d.p.co % 2) } } ⟨⟨ax, cx, ay, cy⟩, ai, ci, ao, co⟩) rfl ?_
           intro w_41 H_42 g_43
           have zw_41 := g_43.size
           have B_44 := below_only Bp g_43 (by omega)
           have H_45 := box_only' H_32 g_43 (by omega)
           have H_46 := box_only' H_33 g_43 (by omega)
           have H_47 := box_only' H_34 g_43 (by omega)
           have o_48 := own_ty o_36 H_35 (by decide) g_43
           have o_49 := own_ty o_37 H_35 (by decide) g_43
           have o_50 := own_ty o_38 H_35 (by decide) g_43
           have o_51 := own_ty o_39 H_35 (by decide) g_43
           skip)
        | (refine wpList_load_box _ rfl (by rfl) (b := w_13.heap.size) (off := 0) (n := 22) rfl H_42 Try.underlying46 (by kernel_rfl) (Nat.le_of_ble_eq_true rfl) (drvC { d with p := { d.p with co := (d.p.co % 2) } } ⟨⟨ax, cx, ay, cy⟩, ai, ci, ao, co⟩) rfl ?_
           skip)
        | (refine wpList_store_any _ rfl rfl (by rfl) (b := w.heap.size + 1 + 1) (off := 0) (n := 22) rfl rfl (vs := drvC { d with p := { d.p with co := (d.p.co % 2) } } ⟨⟨ax, cx, ay, cy⟩, ai, ci, ao, co⟩) rfl H_47 (by kernel_rfl) rfl rfl (Nat.le_of_ble_eq_true rfl) (drvC { d with p := { d.p with co := (d.p.co % 2) } } ⟨⟨ax, cx, ay, cy⟩, ai, ci, ao, co⟩) rfl ?_
           intro w_52 H_53 g_54
           have zw_52 := g_54.size
           have B_55 := below_only B_44 g_54 (by omega)
           have H_56 := box_only' H_45 g_54 (by omega)
           have H_57 := box_only' H_46 g_54 (by omega)
           have H_58 := box_only' H_42 g_54 (by omega)
           have o_59 := own_ty o_48 H_47 (by decide) g_54
           have o_60 := own_ty o_49 H_47 (by decide) g_54
           have o_61 := own_ty o_50 H_47 (by decide) g_54
           have o_62 := own_ty o_51 H_47 (by decide) g_54
           skip))
      refine bodyPost_ret (results_cell2 (u := .bool true) Try.results31 rfl rfl (load_box (P := Try.prog) H_53 Try.underlying46 (by kernel_rfl) rfl)) rfl ?_
      rw [HR.out]
      exact ⟨⟨⟨ax, cx, ay, cy⟩, ai, ci, ao, co⟩, rfl, ⟨own_base o_59 (by omega), own_base o_60 (by omega), own_base o_61 (by omega), own_base o_62 (by omega)⟩, DS, B_55⟩
    · have HR := Lib.hid (flowR_yes (co := d.p.co % 2 + 2) HALL.out (by simp [flowC, hbd, hw]))
      have b0 : Below w.heap.size w (((w.alloc (.cells #[.int .i64 hi, .int .i64 lo] 68)).alloc (.cells (drvC d A) 46)).alloc (.cells (drvC zDrv zDrvA) 46)) := (((Below.refl _ _).alloc (Nat.le_refl _) _).alloc (by simp) _).alloc (by simp; omega) _
      have F0 := box_alloc (box_alloc (heap_new_at w (.cells #[.int .i64 hi, .int .i64 lo] 68) _ rfl) (.cells (drvC d A) 46)) (.cells (drvC zDrv zDrvA) 46)
      have H0 := box_alloc (heap_new_at (w.alloc (.cells #[.int .i64 hi, .int .i64 lo] 68)) (.cells (drvC d A) 46) (w.heap.size + 1) (by simp)) (.cells (drvC zDrv zDrvA) 46)
      have G0 := heap_new_at ((w.alloc (.cells #[.int .i64 hi, .int .i64 lo] 68)).alloc (.cells (drvC d A) 46)) (.cells (drvC zDrv zDrvA) 46) (w.heap.size + 1 + 1) (by simp)
      go_enter Try.func31, Try.ntmps31
      go_wp2_with (first
        | (refine wpList_load_box _ rfl (by rfl) (b := w.heap.size) (off := 0) (n := 2) rfl F0 Try.underlying68 (by kernel_rfl) (Nat.le_of_ble_eq_true rfl) (#[.int .i64 hi, .int .i64 lo]) rfl ?_))
      refine name_calls fun W hW => ?_
      have bW : Below w.heap.size w W := by rw [hW]; exact b0
      have h0 : W.heap[w.heap.size]? = some (.cells #[.int .i64 hi, .int .i64 lo] 68 (0, 0)) := by rw [hW]; exact F0
      have h1 : W.heap[w.heap.size + 1]? = some (.cells (drvC d A) 46 (0, 0)) := by rw [hW]; exact H0
      have h2 : W.heap[w.heap.size + 1 + 1]? = some (.cells (drvC zDrv zDrvA) 46 (0, 0)) := by rw [hW]; exact G0
      have zW : w.heap.size + 1 + 1 + 1 ≤ W.heap.size := by rw [hW]; simp
      clear hW b0 F0 H0 G0
      refine (specFlowValid_any hi lo W).mono ?_
      rintro e w_1 ⟨rfl, b_2⟩
      have zw_1 := b_2.size
      have B_3 := bW.trans (b_2.mono bW.size)
      have H_4 := (b_2.block _ (box_lt h0)).trans h0
      have H_5 := (b_2.block _ (box_lt h1)).trans h1
      have H_6 := (b_2.block _ (box_lt h2)).trans h2
      go_wp2_with (first
        | (refine wpList_load_box _ rfl (by rfl) (b := w.heap.size + 1) (off := 0) (n := 22) rfl H_5 Try.underlying46 (by kernel_rfl) (Nat.le_of_ble_eq_true rfl) (drvC d A) rfl ?_
           skip))
      refine (specDriverValid_any d A w_1 (hm.below B_3) hl).mono ?_
      rintro e w_7 ⟨rfl, b_8⟩
      have zw_7 := b_8.size
      have B_9 := B_3.trans (b_8.mono B_3.size)
      have H_10 := (b_8.block _ (box_lt H_4)).trans H_4
      have H_11 := (b_8.block _ (box_lt H_5)).trans H_5
      have H_12 := (b_8.block _ (box_lt H_6)).trans H_6
      go_wp2_with (first
        | (refine wpList_load_box _ rfl (by rfl) (b := w.heap.size + 1) (off := 0) (n := 22) rfl H_11 Try.underlying46 (by kernel_rfl) (Nat.le_of_ble_eq_true rfl) (drvC d A) rfl ?_
           skip))
      refine (l21Copy_any d A w_7 (hm.below B_9) hl (by omega) hN).mono ?_
      rintro e w_13 ⟨⟨⟨ax, cx, ay, cy⟩, ai, ci, ao, co⟩, rfl, DO, b_14⟩
      have zw_13 := b_14.size
      have B_15 := B_9.trans (b_14.mono B_9.size)
      have H_16 := (b_14.block _ (box_lt H_10)).trans H_10
      have H_17 := (b_14.block _ (box_lt H_11)).trans H_11
      have H_18 := (b_14.block _ (box_lt H_12)).trans H_12
      have DS := DO.s
      obtain ⟨⟨Ox, Oy, Oi, Oo⟩, _⟩ := DO
      dsimp only at Ox Oy Oi Oo
      go_wp2_with (first
        | (refine wpList_store_any _ rfl rfl (by rfl) (b := w_13.heap.size) (off := 0) (n := 22) rfl rfl (vs := (drvC d ⟨⟨ax, cx, ay, cy⟩, ai, ci, ao, co⟩)) rfl (heap_new_at w_13 (.cells (drvC zDrv zDrvA) 46) _ rfl) (by kernel_rfl) rfl rfl (Nat.le_of_ble_eq_true rfl) ((drvC d ⟨⟨ax, cx, ay, cy⟩, ai, ci, ao, co⟩)) rfl ?_
           intro w_19 H_20 g_21
           have b_22 : Below w_13.heap.size w_13 w_19 := below_only ((Below.refl _ _).alloc (Nat.le_refl _) _) g_21 (Nat.le_refl _)
           have zw_19 := b_22.size
           have B_23 := B_15.trans (b_22.mono B_15.size)
           have lH_20 := box_lt H_20
           have H_24 := (b_22.block _ (box_lt H_16)).trans H_16
           have H_25 := (b_22.block _ (box_lt H_17)).trans H_17
           have H_26 := (b_22.block _ (box_lt H_18)).trans H_18
           have o_27 := own_below Ox b_22
           have o_28 := own_below Oy b_22
           have o_29 := own_below Oi b_22
           have o_30 := own_below Oo b_22
           have c_31 := box_cell H_25 4 (v := .int .i64 d.p.co) rfl
           have lc_31 := box_lt H_25
           skip))
      have p0 : ∀ p : After w_19, p.w.cell? ⟨w.heap.size, 0, none⟩ = some (.int .i64 hi) := fun p => p.cell (box_cell H_24 0 rfl)
      have p1 : ∀ p : After w_19, p.w.cell? ⟨w.heap.size, 1, none⟩ = some (.int .i64 lo) := fun p => p.cell (box_cell H_24 1 rfl)
      have p2 : ∀ p : After w_19, p.w.cell? ⟨w.heap.size + 1, 18, none⟩ = some (.slice A.ai d.i.length A.ci) := fun p => p.cell (box_cell H_25 18 rfl)
      have p3 : ∀ p : After w_19, p.w.cell? ⟨w.heap.size + 1, 4, none⟩ = some (.int .i64 d.p.co) := fun p => p.cell (box_cell H_25 4 rfl)
      have HB1 := Lib.hid (fun v => l13Bit2_any d.p.co v hc0 (by omega))
      rw [hbd] at HB1
      have HF1 := Lib.hid (fun v => specFlowNext_any hi lo (d.i.length : Int) false v hf)
      rw [hw] at HF1
      refine wp_region_after (by kernel_rfl) (by kernel_rfl) ?_
      repeat (go_big_quiet_step (((first | (go_at_call 44; exact After.call (calls_below (HB1.out _))) | (go_at_call 57; exact After.call (HF1.out _))))))
      refine wpQuiet_nil ?_
      intro p
      clear p0 p1 p2 p3
      obtain ⟨wp, bp⟩ := p
      dsimp only
      have zwp := bp.size
      have Bp := B_23.trans (bp.mono B_23.size)
      have H_32 := (bp.block _ (box_lt H_24)).trans H_24
      have H_33 := (bp.block _ (box_lt H_25)).trans H_25
      have H_34 := (bp.block _ (box_lt H_26)).trans H_26
      have H_35 := (bp.block _ (box_lt H_20)).trans H_20
      have o_36 := own_below o_27 bp
      have o_37 := own_below o_28 bp
      have o_38 := own_below o_29 bp
      have o_39 := own_below o_30 bp
      have c_40 := box_cell H_35 4 (v := .int .i64 d.p.co) rfl
      have lc_40 := box_lt H_35
      go_wp2_with (first
        | (refine wpList_store_any _ rfl rfl (by rfl) (b := w_13.heap.size) (off := 4) (n := 1) rfl rfl (vs := #[.int .i64 (d.p.co % 2 + 2)]) rfl H_35 (by kernel_rfl) rfl rfl (Nat.le_of_ble_eq_true rfl) (drvC { d with p := { d.p with co := (d.p.co % 2 + 2) } } ⟨⟨ax, cx, ay, cy⟩, ai, ci, ao, co⟩) rfl ?_
           intro w_41 H_42 g_43
           have zw_41 := g_43.size
           have B_44 := below_only Bp g_43 (by omega)
           have H_45 := box_only' H_32 g_43 (by omega)
           have H_46 := box_only' H_33 g_43 (by omega)
           have H_47 := box_only' H_34 g_43 (by omega)
           have o_48 := own_ty o_36 H_35 (by decide) g_43
           have o_49 := own_ty o_37 H_35 (by decide) g_43
           have o_50 := own_ty o_38 H_35 (by decide) g_43
           have o_51 := own_ty o_39 H_35 (by decide) g_43
           skip)
        | (refine wpList_load_box _ rfl (by rfl) (b := w_13.heap.size) (off := 0) (n := 22) rfl H_42 Try.underlying46 (by kernel_rfl) (Nat.le_of_ble_eq_true rfl) (drvC { d with p := { d.p with co := (d.p.co % 2 + 2) } } ⟨⟨ax, cx, ay, cy⟩, ai, ci, ao, co⟩) rfl ?_
           skip)
        | (refine wpList_store_any _ rfl rfl (by rfl) (b := w.heap.size + 1 + 1) (off := 0) (n := 22) rfl rfl (vs := drvC { d with p := { d.p with co := (d.p.co % 2 + 2) } } ⟨⟨ax, cx, ay, cy⟩, ai, ci, ao, co⟩) rfl H_47 (by kernel_rfl) rfl rfl (Nat.le_of_ble_eq_true rfl) (drvC { d with p := { d.p with co := (d.p.co % 2 + 2) } } ⟨⟨ax, cx, ay, cy⟩, ai, ci, ao, co⟩) rfl ?_
           intro w_52 H_53 g_54
           have zw_52 := g_54.size
           have B_55 := below_only B_44 g_54 (by omega)
           have H_56 := box_only' H_45 g_54 (by omega)
           have H_57 := box_only' H_46 g_54 (by omega)
           have H_58 := box_only' H_42 g_54 (by omega)
           have o_59 := own_ty o_48 H_47 (by decide) g_54
           have o_60 := own_ty o_49 H_47 (by decide) g_54
           have o_61 := own_ty o_50 H_47 (by decide) g_54
           have o_62 := own_ty o_51 H_47 (by decide) g_54
           skip))
      refine bodyPost_ret (results_cell2 (u := .bool true) Try.results31 rfl rfl (load_box (P := Try.prog) H_53 Try.underlying46 (by kernel_rfl) rfl)) rfl ?_
      rw [HR.out]
      exact ⟨⟨⟨ax, cx, ay, cy⟩, ai, ci, ao, co⟩, rfl, ⟨own_base o_59 (by omega), own_base o_60 (by omega), own_base o_61 (by omega), own_base o_62 (by omega)⟩, DS, B_55⟩
end Go.Proofs.Ytkmampichfbppaa
