/- Ports: a register is written: spec. -/
import Derived.Test.YtkmampichfbppaaDoorWrite
namespace Go.Proofs.YtkmampichfbppaaDoor
open Go.RowKit

set_option maxHeartbeats 4000000 in
set_option maxRecDepth 100000 in
theorem specPortWrite_any (d : PortD) (A : PortA) (reg v : Int) (w : World) (hm : PortM w d A) (lg : d.gs.length ≤ 1048576) (ly : d.ys.length ≤ 1048576) (hX : A.ax = none → d.gs.length = 0 ∧ A.cx = 0) (hY : A.ay = none → d.ys.length = 0 ∧ A.cy = 0) :
    Calls Tryd.prog 8 #[.agg (portC d A), .int .i64 reg, .int .i64 v] w (WriteP w (writeR d reg v)) := by
  cases hv : portB d
  · have HR := Lib.hid (writeR_inv hv reg v)
    have b0 : Below w.heap.size w ((w.alloc (.cells (portC d A) 34)).alloc (.cells (portC zPort zPortA) 34)) := ((Below.refl _ _).alloc (Nat.le_refl _) _).alloc (by simp) _
    have H0 := box_alloc (heap_new_at w (.cells (portC d A) 34) _ rfl) (.cells (portC zPort zPortA) 34)
    have G0 := heap_new_at (w.alloc (.cells (portC d A) 34)) (.cells (portC zPort zPortA) 34) (w.heap.size + 1) (by simp)
    go_enter Tryd.func8, Tryd.ntmps8
    go_wp2_with (first
      | (refine wpList_load_box _ rfl (by rfl) (b := w.heap.size) (off := 0) (n := 18) rfl H0 Tryd.underlying34 (by kernel_rfl) (Nat.le_of_ble_eq_true rfl) (portC d A) rfl ?_))
    refine name_calls fun W hW => ?_
    have bW : Below w.heap.size w W := by rw [hW]; exact b0
    have h1 : W.heap[w.heap.size]? = some (.cells (portC d A) 34 (0, 0)) := by rw [hW]; exact H0
    have h2 : W.heap[w.heap.size + 1]? = some (.cells (portC zPort zPortA) 34 (0, 0)) := by rw [hW]; exact G0
    have zW : w.heap.size + 2 ≤ W.heap.size := by rw [hW]; simp
    clear hW b0 H0 G0
    refine (specPortValid_any d A W (hm.below bW) lg ly).mono ?_
    rintro e w_1 ⟨rfl, b_2⟩
    have zw_1 := b_2.size
    have B_3 := bW.trans (b_2.mono bW.size)
    have H_4 := (b_2.block _ (box_lt h1)).trans h1
    have H_5 := (b_2.block _ (box_lt h2)).trans h2
    go_wp2_with (first
      | (refine wpList_store_any _ rfl rfl (by rfl) (b := w.heap.size + 1) (off := 0) (n := 18) rfl rfl (vs := (portC zPort zPortA)) rfl H_5 (by kernel_rfl) rfl rfl (Nat.le_of_ble_eq_true rfl) ((portC zPort zPortA)) rfl ?_
         intro w_6 H_7 g_8
         have zw_6 := g_8.size
         have B_9 := below_only B_3 g_8 (by omega)
         have H_10 := box_only' H_4 g_8 (by omega)
         skip))
    refine bodyPost_ret (results_cell2 Tryd.results8 rfl rfl (load_box (P := Tryd.prog) H_7 Tryd.underlying34 (by kernel_rfl) rfl)) rfl ?_
    rw [HR.out]
    exact ⟨zPortA, rfl, zRowG _ _, zRowI _ _, B_9⟩
  have hlen := portB_len hv
  have hlg := hlen.1
  have hly := hlen.2
  by_cases r0 : reg = 0
  · subst r0
    cases hs : sputB d.sr d.sh d.sl d.ys v
    · have HR := Lib.hid (writeR_none (d := d) (reg := 0) (v := v) (by simp [wrote, hs]))
      have hSR := sputR_no hs
      have b0 : Below w.heap.size w ((w.alloc (.cells (portC d A) 34)).alloc (.cells (portC zPort zPortA) 34)) := ((Below.refl _ _).alloc (Nat.le_refl _) _).alloc (by simp) _
      have H0 := box_alloc (heap_new_at w (.cells (portC d A) 34) _ rfl) (.cells (portC zPort zPortA) 34)
      have G0 := heap_new_at (w.alloc (.cells (portC d A) 34)) (.cells (portC zPort zPortA) 34) (w.heap.size + 1) (by simp)
      go_enter Tryd.func8, Tryd.ntmps8
      go_wp2_with (first
        | (refine wpList_load_box _ rfl (by rfl) (b := w.heap.size) (off := 0) (n := 18) rfl H0 Tryd.underlying34 (by kernel_rfl) (Nat.le_of_ble_eq_true rfl) (portC d A) rfl ?_))
      refine name_calls fun W hW => ?_
      have bW : Below w.heap.size w W := by rw [hW]; exact b0
      have h1 : W.heap[w.heap.size]? = some (.cells (portC d A) 34 (0, 0)) := by rw [hW]; exact H0
      have h2 : W.heap[w.heap.size + 1]? = some (.cells (portC zPort zPortA) 34 (0, 0)) := by rw [hW]; exact G0
      have zW : w.heap.size + 2 ≤ W.heap.size := by rw [hW]; simp
      clear hW b0 H0 G0
      refine (specPortValid_any d A W (hm.below bW) lg ly).mono ?_
      rintro e w_1 ⟨rfl, b_2⟩
      have zw_1 := b_2.size
      have B_3 := bW.trans (b_2.mono bW.size)
      have H_4 := (b_2.block _ (box_lt h1)).trans h1
      have H_5 := (b_2.block _ (box_lt h2)).trans h2
      go_wp2_with (first
        | (refine wpList_load_box _ rfl (by rfl) (b := w.heap.size) (off := 0) (n := 18) rfl H_4 Tryd.underlying34 (by kernel_rfl) (Nat.le_of_ble_eq_true rfl) (portC d A) rfl ?_
           skip))
      refine (l15Copy_any d A w_1 (hm.below B_3) (by omega) (by omega) hX hY).mono ?_
      rintro e w_6 ⟨⟨ax, cx, ay, cy⟩, rfl, Ox, Oy, Ap, b_7⟩
      have zw_6 := b_7.size
      have B_8 := B_3.trans (b_7.mono B_3.size)
      have H_9 := (b_7.block _ (box_lt H_4)).trans H_4
      have H_10 := (b_7.block _ (box_lt H_5)).trans H_5
      clear Ap
      dsimp only at Ox Oy
      go_wp2_with (first
        | (refine wpList_store_any _ rfl rfl (by rfl) (b := w_6.heap.size) (off := 0) (n := 18) rfl rfl (vs := (portC d ⟨ax, cx, ay, cy⟩)) rfl (heap_new_at w_6 (.cells (portC zPort zPortA) 34) _ rfl) (by kernel_rfl) rfl rfl (Nat.le_of_ble_eq_true rfl) ((portC d ⟨ax, cx, ay, cy⟩)) rfl ?_
           intro w_11 H_12 g_13
           have b_14 : Below w_6.heap.size w_6 w_11 := below_only ((Below.refl _ _).alloc (Nat.le_refl _) _) g_13 (Nat.le_refl _)
           have zw_11 := b_14.size
           have B_15 := B_8.trans (b_14.mono B_8.size)
           have lH_12 := box_lt H_12
           have H_16 := (b_14.block _ (box_lt H_9)).trans H_9
           have H_17 := (b_14.block _ (box_lt H_10)).trans H_10
           have o_18 := own_below Ox b_14
           have o_19 := own_below Oy b_14
           skip)
        | (refine wpList_load_box _ rfl (by rfl) (b := w_6.heap.size) (off := 10) (n := 4) rfl H_12 Tryd.underlying30 (by kernel_rfl) (Nat.le_of_ble_eq_true rfl) (#[.int .i64 d.sr, .slice ay d.ys.length cy, .int .i64 d.sh, .int .i64 d.sl]) rfl ?_
           skip))
      refine (sput_at hSR (specSendPut_any d.sr ay d.ys cy d.sh d.sl v w_11 (own_cells o_19) (by omega) (own_nilcap o_19))).mono ?_
      rintro e w_20 ⟨a2, c2, rfl, o2, b_21⟩
      have zw_20 := b_21.size
      have B_22 := B_15.trans (b_21.mono B_15.size)
      have H_23 := (b_21.block _ (box_lt H_16)).trans H_16
      have H_24 := (b_21.block _ (box_lt H_17)).trans H_17
      have H_25 := (b_21.block _ (box_lt H_12)).trans H_12
      have o_26 := own_below o_18 b_21
      have o_27 := own_below o_19 b_21
      go_wp2_with (first
        | (refine wpList_store_any _ rfl rfl (by rfl) (b := w_20.heap.size) (off := 0) (n := 4) rfl rfl (vs := #[.int .i64 0, .slice a2 0 c2, .int .i64 0, .int .i64 0]) rfl (heap_new_at w_20 (.cells #[.int .i64 0, .slice none 0 0, .int .i64 0, .int .i64 0] 30) _ rfl) (by kernel_rfl) rfl rfl (Nat.le_of_ble_eq_true rfl) (#[.int .i64 0, .slice a2 0 c2, .int .i64 0, .int .i64 0]) rfl ?_
           intro w_28 H_29 g_30
           have b_31 : Below w_20.heap.size w_20 w_28 := below_only ((Below.refl _ _).alloc (Nat.le_refl _) _) g_30 (Nat.le_refl _)
           have zw_28 := b_31.size
           have B_32 := B_22.trans (b_31.mono B_22.size)
           have lH_29 := box_lt H_29
           have H_33 := (b_31.block _ (box_lt H_23)).trans H_23
           have H_34 := (b_31.block _ (box_lt H_24)).trans H_24
           have H_35 := (b_31.block _ (box_lt H_25)).trans H_25
           have o_36 := own_below o_26 b_31
           have o_37 := own_below o2 b_31
           skip)
        | (refine wpList_load_box _ rfl (by rfl) (b := w_20.heap.size) (off := 0) (n := 4) rfl H_29 Tryd.underlying30 (by kernel_rfl) (Nat.le_of_ble_eq_true rfl) (#[.int .i64 0, .slice a2 0 c2, .int .i64 0, .int .i64 0]) rfl ?_
           skip)
        | (refine wpList_store_any _ rfl rfl (by rfl) (b := w_6.heap.size) (off := 10) (n := 4) rfl rfl (vs := #[.int .i64 0, .slice a2 0 c2, .int .i64 0, .int .i64 0]) rfl H_35 (by kernel_rfl) rfl rfl (Nat.le_of_ble_eq_true rfl) (portC { d with sr := 0, ys := [], sh := 0, sl := 0 } ⟨ax, cx, a2, c2⟩) rfl ?_
           intro w_38 H_39 g_40
           have zw_38 := g_40.size
           have B_41 := below_only B_32 g_40 (by omega)
           have H_42 := box_only' H_33 g_40 (by omega)
           have H_43 := box_only' H_34 g_40 (by omega)
           have H_44 := box_only' H_29 g_40 (by omega)
           have o_45 := own_ty o_36 H_35 (by decide) g_40
           have o_46 := own_ty o_37 H_35 (by decide) g_40
           skip)
        | (refine wpList_store_any _ rfl rfl (by rfl) (b := w.heap.size + 1) (off := 0) (n := 18) rfl rfl (vs := (portC zPort zPortA)) rfl H_43 (by kernel_rfl) rfl rfl (Nat.le_of_ble_eq_true rfl) ((portC zPort zPortA)) rfl ?_
           intro w_47 H_48 g_49
           have zw_47 := g_49.size
           have B_50 := below_only B_41 g_49 (by omega)
           have H_51 := box_only' H_42 g_49 (by omega)
           have H_52 := box_only' H_39 g_49 (by omega)
           have H_53 := box_only' H_44 g_49 (by omega)
           have o_54 := own_ty o_45 H_43 (by decide) g_49
           have o_55 := own_ty o_46 H_43 (by decide) g_49
           skip))
      refine bodyPost_ret (results_cell2 Tryd.results8 rfl rfl (load_box (P := Tryd.prog) H_48 Tryd.underlying34 (by kernel_rfl) rfl)) rfl ?_
      rw [HR.out]
      exact ⟨zPortA, rfl, zRowG _ _, zRowI _ _, B_50⟩
    · have hwr : wrote d 0 v = some { d with ys := d.ys ++ [v] } := by simp [wrote, hs]
      cases hv2 : portB { d with ys := d.ys ++ [v] }
      · have HR := Lib.hid (writeR_bad hwr hv2)
        have hSR := sputR_yes hs
        obtain ⟨YS, hYS⟩ : ∃ YS, YS = d.ys ++ [v] := ⟨_, rfl⟩
        have hYL : YS.length = d.ys.length + 1 := by rw [hYS]; simp
        have hYa := Nat.le_of_eq hYL
        clear hYL
        have HYS := Lib.hid hYS
        rw [← hYS] at hSR hv2
        clear hYS
        have b0 : Below w.heap.size w ((w.alloc (.cells (portC d A) 34)).alloc (.cells (portC zPort zPortA) 34)) := ((Below.refl _ _).alloc (Nat.le_refl _) _).alloc (by simp) _
        have H0 := box_alloc (heap_new_at w (.cells (portC d A) 34) _ rfl) (.cells (portC zPort zPortA) 34)
        have G0 := heap_new_at (w.alloc (.cells (portC d A) 34)) (.cells (portC zPort zPortA) 34) (w.heap.size + 1) (by simp)
        go_enter Tryd.func8, Tryd.ntmps8
        go_wp2_with (first
          | (refine wpList_load_box _ rfl (by rfl) (b := w.heap.size) (off := 0) (n := 18) rfl H0 Tryd.underlying34 (by kernel_rfl) (Nat.le_of_ble_eq_true rfl) (portC d A) rfl ?_))
        refine name_calls fun W hW => ?_
        have bW : Below w.heap.size w W := by rw [hW]; exact b0
        have h1 : W.heap[w.heap.size]? = some (.cells (portC d A) 34 (0, 0)) := by rw [hW]; exact H0
        have h2 : W.heap[w.heap.size + 1]? = some (.cells (portC zPort zPortA) 34 (0, 0)) := by rw [hW]; exact G0
        have zW : w.heap.size + 2 ≤ W.heap.size := by rw [hW]; simp
        clear hW b0 H0 G0
        refine (specPortValid_any d A W (hm.below bW) lg ly).mono ?_
        rintro e w_1 ⟨rfl, b_2⟩
        have zw_1 := b_2.size
        have B_3 := bW.trans (b_2.mono bW.size)
        have H_4 := (b_2.block _ (box_lt h1)).trans h1
        have H_5 := (b_2.block _ (box_lt h2)).trans h2
        go_wp2_with (first
          | (refine wpList_load_box _ rfl (by rfl) (b := w.heap.size) (off := 0) (n := 18) rfl H_4 Tryd.underlying34 (by kernel_rfl) (Nat.le_of_ble_eq_true rfl) (portC d A) rfl ?_
             skip))
        refine (l15Copy_any d A w_1 (hm.below B_3) (by omega) (by omega) hX hY).mono ?_
        rintro e w_6 ⟨⟨ax, cx, ay, cy⟩, rfl, Ox, Oy, Ap, b_7⟩
        have zw_6 := b_7.size
        have B_8 := B_3.trans (b_7.mono B_3.size)
        have H_9 := (b_7.block _ (box_lt H_4)).trans H_4
        have H_10 := (b_7.block _ (box_lt H_5)).trans H_5
        clear Ap
        dsimp only at Ox Oy
        go_wp2_with (first
          | (refine wpList_store_any _ rfl rfl (by rfl) (b := w_6.heap.size) (off := 0) (n := 18) rfl rfl (vs := (portC d ⟨ax, cx, ay, cy⟩)) rfl (heap_new_at w_6 (.cells (portC zPort zPortA) 34) _ rfl) (by kernel_rfl) rfl rfl (Nat.le_of_ble_eq_true rfl) ((portC d ⟨ax, cx, ay, cy⟩)) rfl ?_
             intro w_11 H_12 g_13
             have b_14 : Below w_6.heap.size w_6 w_11 := below_only ((Below.refl _ _).alloc (Nat.le_refl _) _) g_13 (Nat.le_refl _)
             have zw_11 := b_14.size
             have B_15 := B_8.trans (b_14.mono B_8.size)
             have lH_12 := box_lt H_12
             have H_16 := (b_14.block _ (box_lt H_9)).trans H_9
             have H_17 := (b_14.block _ (box_lt H_10)).trans H_10
             have o_18 := own_below Ox b_14
             have o_19 := own_below Oy b_14
             skip)
          | (refine wpList_load_box _ rfl (by rfl) (b := w_6.heap.size) (off := 10) (n := 4) rfl H_12 Tryd.underlying30 (by kernel_rfl) (Nat.le_of_ble_eq_true rfl) (#[.int .i64 d.sr, .slice ay d.ys.length cy, .int .i64 d.sh, .int .i64 d.sl]) rfl ?_
             skip))
        refine (sput_at hSR (specSendPut_any d.sr ay d.ys cy d.sh d.sl v w_11 (own_cells o_19) (by omega) (own_nilcap o_19))).mono ?_
        rintro e w_20 ⟨a2, c2, rfl, o2, b_21⟩
        have zw_20 := b_21.size
        have B_22 := B_15.trans (b_21.mono B_15.size)
        have H_23 := (b_21.block _ (box_lt H_16)).trans H_16
        have H_24 := (b_21.block _ (box_lt H_17)).trans H_17
        have H_25 := (b_21.block _ (box_lt H_12)).trans H_12
        have o_26 := own_below o_18 b_21
        have o_27 := own_below o_19 b_21
        go_wp2_with (first
          | (refine wpList_store_any _ rfl rfl (by rfl) (b := w_20.heap.size) (off := 0) (n := 4) rfl rfl (vs := #[.int .i64 d.sr, .slice a2 YS.length c2, .int .i64 d.sh, .int .i64 d.sl]) rfl (heap_new_at w_20 (.cells #[.int .i64 0, .slice none 0 0, .int .i64 0, .int .i64 0] 30) _ rfl) (by kernel_rfl) rfl rfl (Nat.le_of_ble_eq_true rfl) (#[.int .i64 d.sr, .slice a2 YS.length c2, .int .i64 d.sh, .int .i64 d.sl]) rfl ?_
             intro w_28 H_29 g_30
             have b_31 : Below w_20.heap.size w_20 w_28 := below_only ((Below.refl _ _).alloc (Nat.le_refl _) _) g_30 (Nat.le_refl _)
             have zw_28 := b_31.size
             have B_32 := B_22.trans (b_31.mono B_22.size)
             have lH_29 := box_lt H_29
             have H_33 := (b_31.block _ (box_lt H_23)).trans H_23
             have H_34 := (b_31.block _ (box_lt H_24)).trans H_24
             have H_35 := (b_31.block _ (box_lt H_25)).trans H_25
             have o_36 := own_below o_26 b_31
             have o_37 := own_below o2 b_31
             skip)
          | (refine wpList_load_box _ rfl (by rfl) (b := w_20.heap.size) (off := 0) (n := 4) rfl H_29 Tryd.underlying30 (by kernel_rfl) (Nat.le_of_ble_eq_true rfl) (#[.int .i64 d.sr, .slice a2 YS.length c2, .int .i64 d.sh, .int .i64 d.sl]) rfl ?_
             skip)
          | (refine wpList_store_any _ rfl rfl (by rfl) (b := w_6.heap.size) (off := 10) (n := 4) rfl rfl (vs := #[.int .i64 d.sr, .slice a2 YS.length c2, .int .i64 d.sh, .int .i64 d.sl]) rfl H_35 (by kernel_rfl) rfl rfl (Nat.le_of_ble_eq_true rfl) (portC { d with ys := YS } ⟨ax, cx, a2, c2⟩) rfl ?_
             intro w_38 H_39 g_40
             have zw_38 := g_40.size
             have B_41 := below_only B_32 g_40 (by omega)
             have H_42 := box_only' H_33 g_40 (by omega)
             have H_43 := box_only' H_34 g_40 (by omega)
             have H_44 := box_only' H_29 g_40 (by omega)
             have o_45 := own_ty o_36 H_35 (by decide) g_40
             have o_46 := own_ty o_37 H_35 (by decide) g_40
             skip)
          | (refine wpList_load_box _ rfl (by rfl) (b := w_6.heap.size) (off := 0) (n := 18) rfl H_39 Tryd.underlying34 (by kernel_rfl) (Nat.le_of_ble_eq_true rfl) (portC { d with ys := YS } ⟨ax, cx, a2, c2⟩) rfl ?_
             skip))
        refine (specPortValid_any { d with ys := YS } ⟨ax, cx, a2, c2⟩ w_38 ⟨own_cells o_45, own_cells o_46⟩ (by dsimp only; omega) (by dsimp only; omega)).mono ?_
        rintro e w_47 ⟨rfl, b_48⟩
        have zw_47 := b_48.size
        have B_49 := B_41.trans (b_48.mono B_41.size)
        have H_50 := (b_48.block _ (box_lt H_42)).trans H_42
        have H_51 := (b_48.block _ (box_lt H_43)).trans H_43
        have H_52 := (b_48.block _ (box_lt H_39)).trans H_39
        have H_53 := (b_48.block _ (box_lt H_44)).trans H_44
        have o_54 := own_below o_45 b_48
        have o_55 := own_below o_46 b_48
        go_wp2_with (first
          | (refine wpList_store_any _ rfl rfl (by rfl) (b := w.heap.size + 1) (off := 0) (n := 18) rfl rfl (vs := (portC zPort zPortA)) rfl H_51 (by kernel_rfl) rfl rfl (Nat.le_of_ble_eq_true rfl) ((portC zPort zPortA)) rfl ?_
             intro w_56 H_57 g_58
             have zw_56 := g_58.size
             have B_59 := below_only B_49 g_58 (by omega)
             have H_60 := box_only' H_50 g_58 (by omega)
             have H_61 := box_only' H_52 g_58 (by omega)
             have H_62 := box_only' H_53 g_58 (by omega)
             have o_63 := own_ty o_54 H_51 (by decide) g_58
             have o_64 := own_ty o_55 H_51 (by decide) g_58
             skip))
        refine bodyPost_ret (results_cell2 Tryd.results8 rfl rfl (load_box (P := Tryd.prog) H_57 Tryd.underlying34 (by kernel_rfl) rfl)) rfl ?_
        rw [HR.out]
        exact ⟨zPortA, rfl, zRowG _ _, zRowI _ _, B_59⟩
      · have HR := Lib.hid (writeR_good hv hwr hv2)
        have hSR := sputR_yes hs
        obtain ⟨YS, hYS⟩ : ∃ YS, YS = d.ys ++ [v] := ⟨_, rfl⟩
        have hYL : YS.length = d.ys.length + 1 := by rw [hYS]; simp
        have hYa := Nat.le_of_eq hYL
        clear hYL
        have HYS := Lib.hid hYS
        rw [← hYS] at hSR hv2; replace HR := Lib.hid HR.out; rw [← hYS] at HR
        clear hYS
        have b0 : Below w.heap.size w ((w.alloc (.cells (portC d A) 34)).alloc (.cells (portC zPort zPortA) 34)) := ((Below.refl _ _).alloc (Nat.le_refl _) _).alloc (by simp) _
        have H0 := box_alloc (heap_new_at w (.cells (portC d A) 34) _ rfl) (.cells (portC zPort zPortA) 34)
        have G0 := heap_new_at (w.alloc (.cells (portC d A) 34)) (.cells (portC zPort zPortA) 34) (w.heap.size + 1) (by simp)
        go_enter Tryd.func8, Tryd.ntmps8
        go_wp2_with (first
          | (refine wpList_load_box _ rfl (by rfl) (b := w.heap.size) (off := 0) (n := 18) rfl H0 Tryd.underlying34 (by kernel_rfl) (Nat.le_of_ble_eq_true rfl) (portC d A) rfl ?_))
        refine name_calls fun W hW => ?_
        have bW : Below w.heap.size w W := by rw [hW]; exact b0
        have h1 : W.heap[w.heap.size]? = some (.cells (portC d A) 34 (0, 0)) := by rw [hW]; exact H0
        have h2 : W.heap[w.heap.size + 1]? = some (.cells (portC zPort zPortA) 34 (0, 0)) := by rw [hW]; exact G0
        have zW : w.heap.size + 2 ≤ W.heap.size := by rw [hW]; simp
        clear hW b0 H0 G0
        refine (specPortValid_any d A W (hm.below bW) lg ly).mono ?_
        rintro e w_1 ⟨rfl, b_2⟩
        have zw_1 := b_2.size
        have B_3 := bW.trans (b_2.mono bW.size)
        have H_4 := (b_2.block _ (box_lt h1)).trans h1
        have H_5 := (b_2.block _ (box_lt h2)).trans h2
        go_wp2_with (first
          | (refine wpList_load_box _ rfl (by rfl) (b := w.heap.size) (off := 0) (n := 18) rfl H_4 Tryd.underlying34 (by kernel_rfl) (Nat.le_of_ble_eq_true rfl) (portC d A) rfl ?_
             skip))
        refine (l15Copy_any d A w_1 (hm.below B_3) (by omega) (by omega) hX hY).mono ?_
        rintro e w_6 ⟨⟨ax, cx, ay, cy⟩, rfl, Ox, Oy, Ap, b_7⟩
        have zw_6 := b_7.size
        have B_8 := B_3.trans (b_7.mono B_3.size)
        have H_9 := (b_7.block _ (box_lt H_4)).trans H_4
        have H_10 := (b_7.block _ (box_lt H_5)).trans H_5
        clear Ap
        dsimp only at Ox Oy
        go_wp2_with (first
          | (refine wpList_store_any _ rfl rfl (by rfl) (b := w_6.heap.size) (off := 0) (n := 18) rfl rfl (vs := (portC d ⟨ax, cx, ay, cy⟩)) rfl (heap_new_at w_6 (.cells (portC zPort zPortA) 34) _ rfl) (by kernel_rfl) rfl rfl (Nat.le_of_ble_eq_true rfl) ((portC d ⟨ax, cx, ay, cy⟩)) rfl ?_
             intro w_11 H_12 g_13
             have b_14 : Below w_6.heap.size w_6 w_11 := below_only ((Below.refl _ _).alloc (Nat.le_refl _) _) g_13 (Nat.le_refl _)
             have zw_11 := b_14.size
             have B_15 := B_8.trans (b_14.mono B_8.size)
             have lH_12 := box_lt H_12
             have H_16 := (b_14.block _ (box_lt H_9)).trans H_9
             have H_17 := (b_14.block _ (box_lt H_10)).trans H_10
             have o_18 := own_below Ox b_14
             have o_19 := own_below Oy b_14
             skip)
          | (refine wpList_load_box _ rfl (by rfl) (b := w_6.heap.size) (off := 10) (n := 4) rfl H_12 Tryd.underlying30 (by kernel_rfl) (Nat.le_of_ble_eq_true rfl) (#[.int .i64 d.sr, .slice ay d.ys.length cy, .int .i64 d.sh, .int .i64 d.sl]) rfl ?_
             skip))
        refine (sput_at hSR (specSendPut_any d.sr ay d.ys cy d.sh d.sl v w_11 (own_cells o_19) (by omega) (own_nilcap o_19))).mono ?_
        rintro e w_20 ⟨a2, c2, rfl, o2, b_21⟩
        have zw_20 := b_21.size
        have B_22 := B_15.trans (b_21.mono B_15.size)
        have H_23 := (b_21.block _ (box_lt H_16)).trans H_16
        have H_24 := (b_21.block _ (box_lt H_17)).trans H_17
        have H_25 := (b_21.block _ (box_lt H_12)).trans H_12
        have o_26 := own_below o_18 b_21
        have o_27 := own_below o_19 b_21
        go_wp2_with (first
          | (refine wpList_store_any _ rfl rfl (by rfl) (b := w_20.heap.size) (off := 0) (n := 4) rfl rfl (vs := #[.int .i64 d.sr, .slice a2 YS.length c2, .int .i64 d.sh, .int .i64 d.sl]) rfl (heap_new_at w_20 (.cells #[.int .i64 0, .slice none 0 0, .int .i64 0, .int .i64 0] 30) _ rfl) (by kernel_rfl) rfl rfl (Nat.le_of_ble_eq_true rfl) (#[.int .i64 d.sr, .slice a2 YS.length c2, .int .i64 d.sh, .int .i64 d.sl]) rfl ?_
             intro w_28 H_29 g_30
             have b_31 : Below w_20.heap.size w_20 w_28 := below_only ((Below.refl _ _).alloc (Nat.le_refl _) _) g_30 (Nat.le_refl _)
             have zw_28 := b_31.size
             have B_32 := B_22.trans (b_31.mono B_22.size)
             have lH_29 := box_lt H_29
             have H_33 := (b_31.block _ (box_lt H_23)).trans H_23
             have H_34 := (b_31.block _ (box_lt H_24)).trans H_24
             have H_35 := (b_31.block _ (box_lt H_25)).trans H_25
             have o_36 := own_below o_26 b_31
             have o_37 := own_below o2 b_31
             skip)
          | (refine wpList_load_box _ rfl (by rfl) (b := w_20.heap.size) (off := 0) (n := 4) rfl H_29 Tryd.underlying30 (by kernel_rfl) (Nat.le_of_ble_eq_true rfl) (#[.int .i64 d.sr, .slice a2 YS.length c2, .int .i64 d.sh, .int .i64 d.sl]) rfl ?_
             skip)
          | (refine wpList_store_any _ rfl rfl (by rfl) (b := w_6.heap.size) (off := 10) (n := 4) rfl rfl (vs := #[.int .i64 d.sr, .slice a2 YS.length c2, .int .i64 d.sh, .int .i64 d.sl]) rfl H_35 (by kernel_rfl) rfl rfl (Nat.le_of_ble_eq_true rfl) (portC { d with ys := YS } ⟨ax, cx, a2, c2⟩) rfl ?_
             intro w_38 H_39 g_40
             have zw_38 := g_40.size
             have B_41 := below_only B_32 g_40 (by omega)
             have H_42 := box_only' H_33 g_40 (by omega)
             have H_43 := box_only' H_34 g_40 (by omega)
             have H_44 := box_only' H_29 g_40 (by omega)
             have o_45 := own_ty o_36 H_35 (by decide) g_40
             have o_46 := own_ty o_37 H_35 (by decide) g_40
             skip)
          | (refine wpList_load_box _ rfl (by rfl) (b := w_6.heap.size) (off := 0) (n := 18) rfl H_39 Tryd.underlying34 (by kernel_rfl) (Nat.le_of_ble_eq_true rfl) (portC { d with ys := YS } ⟨ax, cx, a2, c2⟩) rfl ?_
             skip))
        refine (specPortValid_any { d with ys := YS } ⟨ax, cx, a2, c2⟩ w_38 ⟨own_cells o_45, own_cells o_46⟩ (by dsimp only; omega) (by dsimp only; omega)).mono ?_
        rintro e w_47 ⟨rfl, b_48⟩
        have zw_47 := b_48.size
        have B_49 := B_41.trans (b_48.mono B_41.size)
        have H_50 := (b_48.block _ (box_lt H_42)).trans H_42
        have H_51 := (b_48.block _ (box_lt H_43)).trans H_43
        have H_52 := (b_48.block _ (box_lt H_39)).trans H_39
        have H_53 := (b_48.block _ (box_lt H_44)).trans H_44
        have o_54 := own_below o_45 b_48
        have o_55 := own_below o_46 b_48
        go_wp2_with (first
          | (refine wpList_load_box _ rfl (by rfl) (b := w_6.heap.size) (off := 0) (n := 18) rfl H_52 Tryd.underlying34 (by kernel_rfl) (Nat.le_of_ble_eq_true rfl) (portC { d with ys := YS } ⟨ax, cx, a2, c2⟩) rfl ?_
             skip)
          | (refine wpList_store_any _ rfl rfl (by rfl) (b := w.heap.size + 1) (off := 0) (n := 18) rfl rfl (vs := portC { d with ys := YS } ⟨ax, cx, a2, c2⟩) rfl H_51 (by kernel_rfl) rfl rfl (Nat.le_of_ble_eq_true rfl) (portC { d with ys := YS } ⟨ax, cx, a2, c2⟩) rfl ?_
             intro w_56 H_57 g_58
             have zw_56 := g_58.size
             have B_59 := below_only B_49 g_58 (by omega)
             have H_60 := box_only' H_50 g_58 (by omega)
             have H_61 := box_only' H_52 g_58 (by omega)
             have H_62 := box_only' H_53 g_58 (by omega)
             have o_63 := own_ty o_54 H_51 (by decide) g_58
             have o_64 := own_ty o_55 H_51 (by decide) g_58
             skip))
        refine bodyPost_ret (results_cell2 (u := .bool true) Tryd.results8 rfl rfl (load_box (P := Tryd.prog) H_57 Tryd.underlying34 (by kernel_rfl) rfl)) rfl ?_
        rw [HR.out]
        exact ⟨⟨ax, cx, a2, c2⟩, rfl, own_base o_63 (by omega), own_base o_64 (by omega), B_59⟩
  by_cases r1 : reg = 1
  · subst r1
    have hwr : wrote d 1 v = some { d with en := v } := by simp [wrote]
    cases hv2 : portB { d with en := v }
    · have HR := Lib.hid (writeR_bad hwr hv2)
      have b0 : Below w.heap.size w ((w.alloc (.cells (portC d A) 34)).alloc (.cells (portC zPort zPortA) 34)) := ((Below.refl _ _).alloc (Nat.le_refl _) _).alloc (by simp) _
      have H0 := box_alloc (heap_new_at w (.cells (portC d A) 34) _ rfl) (.cells (portC zPort zPortA) 34)
      have G0 := heap_new_at (w.alloc (.cells (portC d A) 34)) (.cells (portC zPort zPortA) 34) (w.heap.size + 1) (by simp)
      go_enter Tryd.func8, Tryd.ntmps8
      go_wp2_with (first
        | (refine wpList_load_box _ rfl (by rfl) (b := w.heap.size) (off := 0) (n := 18) rfl H0 Tryd.underlying34 (by kernel_rfl) (Nat.le_of_ble_eq_true rfl) (portC d A) rfl ?_))
      refine name_calls fun W hW => ?_
      have bW : Below w.heap.size w W := by rw [hW]; exact b0
      have h1 : W.heap[w.heap.size]? = some (.cells (portC d A) 34 (0, 0)) := by rw [hW]; exact H0
      have h2 : W.heap[w.heap.size + 1]? = some (.cells (portC zPort zPortA) 34 (0, 0)) := by rw [hW]; exact G0
      have zW : w.heap.size + 2 ≤ W.heap.size := by rw [hW]; simp
      clear hW b0 H0 G0
      refine (specPortValid_any d A W (hm.below bW) lg ly).mono ?_
      rintro e w_1 ⟨rfl, b_2⟩
      have zw_1 := b_2.size
      have B_3 := bW.trans (b_2.mono bW.size)
      have H_4 := (b_2.block _ (box_lt h1)).trans h1
      have H_5 := (b_2.block _ (box_lt h2)).trans h2
      go_wp2_with (first
        | (refine wpList_load_box _ rfl (by rfl) (b := w.heap.size) (off := 0) (n := 18) rfl H_4 Tryd.underlying34 (by kernel_rfl) (Nat.le_of_ble_eq_true rfl) (portC d A) rfl ?_
           skip))
      refine (l15Copy_any d A w_1 (hm.below B_3) (by omega) (by omega) hX hY).mono ?_
      rintro e w_6 ⟨⟨ax, cx, ay, cy⟩, rfl, Ox, Oy, Ap, b_7⟩
      have zw_6 := b_7.size
      have B_8 := B_3.trans (b_7.mono B_3.size)
      have H_9 := (b_7.block _ (box_lt H_4)).trans H_4
      have H_10 := (b_7.block _ (box_lt H_5)).trans H_5
      clear Ap
      dsimp only at Ox Oy
      go_wp2_with (first
        | (refine wpList_store_any _ rfl rfl (by rfl) (b := w_6.heap.size) (off := 0) (n := 18) rfl rfl (vs := (portC d ⟨ax, cx, ay, cy⟩)) rfl (heap_new_at w_6 (.cells (portC zPort zPortA) 34) _ rfl) (by kernel_rfl) rfl rfl (Nat.le_of_ble_eq_true rfl) ((portC d ⟨ax, cx, ay, cy⟩)) rfl ?_
           intro w_11 H_12 g_13
           have b_14 : Below w_6.heap.size w_6 w_11 := below_only ((Below.refl _ _).alloc (Nat.le_refl _) _) g_13 (Nat.le_refl _)
           have zw_11 := b_14.size
           have B_15 := B_8.trans (b_14.mono B_8.size)
           have lH_12 := box_lt H_12
           have H_16 := (b_14.block _ (box_lt H_9)).trans H_9
           have H_17 := (b_14.block _ (box_lt H_10)).trans H_10
           have o_18 := own_below Ox b_14
           have o_19 := own_below Oy b_14
           skip)
        | (refine wpList_store_any _ rfl rfl (by rfl) (b := w_6.heap.size) (off := 3) (n := 1) rfl rfl (vs := #[.int .i64 v]) rfl H_12 (by kernel_rfl) rfl rfl (Nat.le_of_ble_eq_true rfl) (portC { d with en := v } ⟨ax, cx, ay, cy⟩) rfl ?_
           intro w_20 H_21 g_22
           have zw_20 := g_22.size
           have B_23 := below_only B_15 g_22 (by omega)
           have H_24 := box_only' H_16 g_22 (by omega)
           have H_25 := box_only' H_17 g_22 (by omega)
           have o_26 := own_ty o_18 H_12 (by decide) g_22
           have o_27 := own_ty o_19 H_12 (by decide) g_22
           skip)
        | (refine wpList_load_box _ rfl (by rfl) (b := w_6.heap.size) (off := 0) (n := 18) rfl H_21 Tryd.underlying34 (by kernel_rfl) (Nat.le_of_ble_eq_true rfl) (portC { d with en := v } ⟨ax, cx, ay, cy⟩) rfl ?_
           skip))
      refine (specPortValid_any { d with en := v } ⟨ax, cx, ay, cy⟩ w_20 ⟨own_cells o_26, own_cells o_27⟩ (by dsimp only; omega) (by dsimp only; omega)).mono ?_
      rintro e w_28 ⟨rfl, b_29⟩
      have zw_28 := b_29.size
      have B_30 := B_23.trans (b_29.mono B_23.size)
      have H_31 := (b_29.block _ (box_lt H_24)).trans H_24
      have H_32 := (b_29.block _ (box_lt H_25)).trans H_25
      have H_33 := (b_29.block _ (box_lt H_21)).trans H_21
      have o_34 := own_below o_26 b_29
      have o_35 := own_below o_27 b_29
      go_wp2_with (first
        | (refine wpList_store_any _ rfl rfl (by rfl) (b := w.heap.size + 1) (off := 0) (n := 18) rfl rfl (vs := (portC zPort zPortA)) rfl H_32 (by kernel_rfl) rfl rfl (Nat.le_of_ble_eq_true rfl) ((portC zPort zPortA)) rfl ?_
           intro w_36 H_37 g_38
           have zw_36 := g_38.size
           have B_39 := below_only B_30 g_38 (by omega)
           have H_40 := box_only' H_31 g_38 (by omega)
           have H_41 := box_only' H_33 g_38 (by omega)
           have o_42 := own_ty o_34 H_32 (by decide) g_38
           have o_43 := own_ty o_35 H_32 (by decide) g_38
           skip))
      refine bodyPost_ret (results_cell2 Tryd.results8 rfl rfl (load_box (P := Tryd.prog) H_37 Tryd.underlying34 (by kernel_rfl) rfl)) rfl ?_
      rw [HR.out]
      exact ⟨zPortA, rfl, zRowG _ _, zRowI _ _, B_39⟩
    · have HR := Lib.hid (writeR_good hv hwr hv2)
      have b0 : Below w.heap.size w ((w.alloc (.cells (portC d A) 34)).alloc (.cells (portC zPort zPortA) 34)) := ((Below.refl _ _).alloc (Nat.le_refl _) _).alloc (by simp) _
      have H0 := box_alloc (heap_new_at w (.cells (portC d A) 34) _ rfl) (.cells (portC zPort zPortA) 34)
      have G0 := heap_new_at (w.alloc (.cells (portC d A) 34)) (.cells (portC zPort zPortA) 34) (w.heap.size + 1) (by simp)
      go_enter Tryd.func8, Tryd.ntmps8
      go_wp2_with (first
        | (refine wpList_load_box _ rfl (by rfl) (b := w.heap.size) (off := 0) (n := 18) rfl H0 Tryd.underlying34 (by kernel_rfl) (Nat.le_of_ble_eq_true rfl) (portC d A) rfl ?_))
      refine name_calls fun W hW => ?_
      have bW : Below w.heap.size w W := by rw [hW]; exact b0
      have h1 : W.heap[w.heap.size]? = some (.cells (portC d A) 34 (0, 0)) := by rw [hW]; exact H0
      have h2 : W.heap[w.heap.size + 1]? = some (.cells (portC zPort zPortA) 34 (0, 0)) := by rw [hW]; exact G0
      have zW : w.heap.size + 2 ≤ W.heap.size := by rw [hW]; simp
      clear hW b0 H0 G0
      refine (specPortValid_any d A W (hm.below bW) lg ly).mono ?_
      rintro e w_1 ⟨rfl, b_2⟩
      have zw_1 := b_2.size
      have B_3 := bW.trans (b_2.mono bW.size)
      have H_4 := (b_2.block _ (box_lt h1)).trans h1
      have H_5 := (b_2.block _ (box_lt h2)).trans h2
      go_wp2_with (first
        | (refine wpList_load_box _ rfl (by rfl) (b := w.heap.size) (off := 0) (n := 18) rfl H_4 Tryd.underlying34 (by kernel_rfl) (Nat.le_of_ble_eq_true rfl) (portC d A) rfl ?_
           skip))
      refine (l15Copy_any d A w_1 (hm.below B_3) (by omega) (by omega) hX hY).mono ?_
      rintro e w_6 ⟨⟨ax, cx, ay, cy⟩, rfl, Ox, Oy, Ap, b_7⟩
      have zw_6 := b_7.size
      have B_8 := B_3.trans (b_7.mono B_3.size)
      have H_9 := (b_7.block _ (box_lt H_4)).trans H_4
      have H_10 := (b_7.block _ (box_lt H_5)).trans H_5
      clear Ap
      dsimp only at Ox Oy
      go_wp2_with (first
        | (refine wpList_store_any _ rfl rfl (by rfl) (b := w_6.heap.size) (off := 0) (n := 18) rfl rfl (vs := (portC d ⟨ax, cx, ay, cy⟩)) rfl (heap_new_at w_6 (.cells (portC zPort zPortA) 34) _ rfl) (by kernel_rfl) rfl rfl (Nat.le_of_ble_eq_true rfl) ((portC d ⟨ax, cx, ay, cy⟩)) rfl ?_
           intro w_11 H_12 g_13
           have b_14 : Below w_6.heap.size w_6 w_11 := below_only ((Below.refl _ _).alloc (Nat.le_refl _) _) g_13 (Nat.le_refl _)
           have zw_11 := b_14.size
           have B_15 := B_8.trans (b_14.mono B_8.size)
           have lH_12 := box_lt H_12
           have H_16 := (b_14.block _ (box_lt H_9)).trans H_9
           have H_17 := (b_14.block _ (box_lt H_10)).trans H_10
           have o_18 := own_below Ox b_14
           have o_19 := own_below Oy b_14
           skip)
        | (refine wpList_store_any _ rfl rfl (by rfl) (b := w_6.heap.size) (off := 3) (n := 1) rfl rfl (vs := #[.int .i64 v]) rfl H_12 (by kernel_rfl) rfl rfl (Nat.le_of_ble_eq_true rfl) (portC { d with en := v } ⟨ax, cx, ay, cy⟩) rfl ?_
           intro w_20 H_21 g_22
           have zw_20 := g_22.size
           have B_23 := below_only B_15 g_22 (by omega)
           have H_24 := box_only' H_16 g_22 (by omega)
           have H_25 := box_only' H_17 g_22 (by omega)
           have o_26 := own_ty o_18 H_12 (by decide) g_22
           have o_27 := own_ty o_19 H_12 (by decide) g_22
           skip)
        | (refine wpList_load_box _ rfl (by rfl) (b := w_6.heap.size) (off := 0) (n := 18) rfl H_21 Tryd.underlying34 (by kernel_rfl) (Nat.le_of_ble_eq_true rfl) (portC { d with en := v } ⟨ax, cx, ay, cy⟩) rfl ?_
           skip))
      refine (specPortValid_any { d with en := v } ⟨ax, cx, ay, cy⟩ w_20 ⟨own_cells o_26, own_cells o_27⟩ (by dsimp only; omega) (by dsimp only; omega)).mono ?_
      rintro e w_28 ⟨rfl, b_29⟩
      have zw_28 := b_29.size
      have B_30 := B_23.trans (b_29.mono B_23.size)
      have H_31 := (b_29.block _ (box_lt H_24)).trans H_24
      have H_32 := (b_29.block _ (box_lt H_25)).trans H_25
      have H_33 := (b_29.block _ (box_lt H_21)).trans H_21
      have o_34 := own_below o_26 b_29
      have o_35 := own_below o_27 b_29
      go_wp2_with (first
        | (refine wpList_load_box _ rfl (by rfl) (b := w_6.heap.size) (off := 0) (n := 18) rfl H_33 Tryd.underlying34 (by kernel_rfl) (Nat.le_of_ble_eq_true rfl) (portC { d with en := v } ⟨ax, cx, ay, cy⟩) rfl ?_
           skip)
        | (refine wpList_store_any _ rfl rfl (by rfl) (b := w.heap.size + 1) (off := 0) (n := 18) rfl rfl (vs := portC { d with en := v } ⟨ax, cx, ay, cy⟩) rfl H_32 (by kernel_rfl) rfl rfl (Nat.le_of_ble_eq_true rfl) (portC { d with en := v } ⟨ax, cx, ay, cy⟩) rfl ?_
           intro w_36 H_37 g_38
           have zw_36 := g_38.size
           have B_39 := below_only B_30 g_38 (by omega)
           have H_40 := box_only' H_31 g_38 (by omega)
           have H_41 := box_only' H_33 g_38 (by omega)
           have o_42 := own_ty o_34 H_32 (by decide) g_38
           have o_43 := own_ty o_35 H_32 (by decide) g_38
           skip))
      refine bodyPost_ret (results_cell2 (u := .bool true) Tryd.results8 rfl rfl (load_box (P := Tryd.prog) H_37 Tryd.underlying34 (by kernel_rfl) rfl)) rfl ?_
      rw [HR.out]
      exact ⟨⟨ax, cx, ay, cy⟩, rfl, own_base o_42 (by omega), own_base o_43 (by omega), B_39⟩
  by_cases r4 : reg = 4
  · subst r4
    have hwr : wrote d 4 v = some { d with co := v } := by simp [wrote]
    cases hv2 : portB { d with co := v }
    · have HR := Lib.hid (writeR_bad hwr hv2)
      have b0 : Below w.heap.size w ((w.alloc (.cells (portC d A) 34)).alloc (.cells (portC zPort zPortA) 34)) := ((Below.refl _ _).alloc (Nat.le_refl _) _).alloc (by simp) _
      have H0 := box_alloc (heap_new_at w (.cells (portC d A) 34) _ rfl) (.cells (portC zPort zPortA) 34)
      have G0 := heap_new_at (w.alloc (.cells (portC d A) 34)) (.cells (portC zPort zPortA) 34) (w.heap.size + 1) (by simp)
      go_enter Tryd.func8, Tryd.ntmps8
      go_wp2_with (first
        | (refine wpList_load_box _ rfl (by rfl) (b := w.heap.size) (off := 0) (n := 18) rfl H0 Tryd.underlying34 (by kernel_rfl) (Nat.le_of_ble_eq_true rfl) (portC d A) rfl ?_))
      refine name_calls fun W hW => ?_
      have bW : Below w.heap.size w W := by rw [hW]; exact b0
      have h1 : W.heap[w.heap.size]? = some (.cells (portC d A) 34 (0, 0)) := by rw [hW]; exact H0
      have h2 : W.heap[w.heap.size + 1]? = some (.cells (portC zPort zPortA) 34 (0, 0)) := by rw [hW]; exact G0
      have zW : w.heap.size + 2 ≤ W.heap.size := by rw [hW]; simp
      clear hW b0 H0 G0
      refine (specPortValid_any d A W (hm.below bW) lg ly).mono ?_
      rintro e w_1 ⟨rfl, b_2⟩
      have zw_1 := b_2.size
      have B_3 := bW.trans (b_2.mono bW.size)
      have H_4 := (b_2.block _ (box_lt h1)).trans h1
      have H_5 := (b_2.block _ (box_lt h2)).trans h2
      go_wp2_with (first
        | (refine wpList_load_box _ rfl (by rfl) (b := w.heap.size) (off := 0) (n := 18) rfl H_4 Tryd.underlying34 (by kernel_rfl) (Nat.le_of_ble_eq_true rfl) (portC d A) rfl ?_
           skip))
      refine (l15Copy_any d A w_1 (hm.below B_3) (by omega) (by omega) hX hY).mono ?_
      rintro e w_6 ⟨⟨ax, cx, ay, cy⟩, rfl, Ox, Oy, Ap, b_7⟩
      have zw_6 := b_7.size
      have B_8 := B_3.trans (b_7.mono B_3.size)
      have H_9 := (b_7.block _ (box_lt H_4)).trans H_4
      have H_10 := (b_7.block _ (box_lt H_5)).trans H_5
      clear Ap
      dsimp only at Ox Oy
      go_wp2_with (first
        | (refine wpList_store_any _ rfl rfl (by rfl) (b := w_6.heap.size) (off := 0) (n := 18) rfl rfl (vs := (portC d ⟨ax, cx, ay, cy⟩)) rfl (heap_new_at w_6 (.cells (portC zPort zPortA) 34) _ rfl) (by kernel_rfl) rfl rfl (Nat.le_of_ble_eq_true rfl) ((portC d ⟨ax, cx, ay, cy⟩)) rfl ?_
           intro w_11 H_12 g_13
           have b_14 : Below w_6.heap.size w_6 w_11 := below_only ((Below.refl _ _).alloc (Nat.le_refl _) _) g_13 (Nat.le_refl _)
           have zw_11 := b_14.size
           have B_15 := B_8.trans (b_14.mono B_8.size)
           have lH_12 := box_lt H_12
           have H_16 := (b_14.block _ (box_lt H_9)).trans H_9
           have H_17 := (b_14.block _ (box_lt H_10)).trans H_10
           have o_18 := own_below Ox b_14
           have o_19 := own_below Oy b_14
           skip)
        | (refine wpList_store_any _ rfl rfl (by rfl) (b := w_6.heap.size) (off := 4) (n := 1) rfl rfl (vs := #[.int .i64 v]) rfl H_12 (by kernel_rfl) rfl rfl (Nat.le_of_ble_eq_true rfl) (portC { d with co := v } ⟨ax, cx, ay, cy⟩) rfl ?_
           intro w_20 H_21 g_22
           have zw_20 := g_22.size
           have B_23 := below_only B_15 g_22 (by omega)
           have H_24 := box_only' H_16 g_22 (by omega)
           have H_25 := box_only' H_17 g_22 (by omega)
           have o_26 := own_ty o_18 H_12 (by decide) g_22
           have o_27 := own_ty o_19 H_12 (by decide) g_22
           skip)
        | (refine wpList_load_box _ rfl (by rfl) (b := w_6.heap.size) (off := 0) (n := 18) rfl H_21 Tryd.underlying34 (by kernel_rfl) (Nat.le_of_ble_eq_true rfl) (portC { d with co := v } ⟨ax, cx, ay, cy⟩) rfl ?_
           skip))
      refine (specPortValid_any { d with co := v } ⟨ax, cx, ay, cy⟩ w_20 ⟨own_cells o_26, own_cells o_27⟩ (by dsimp only; omega) (by dsimp only; omega)).mono ?_
      rintro e w_28 ⟨rfl, b_29⟩
      have zw_28 := b_29.size
      have B_30 := B_23.trans (b_29.mono B_23.size)
      have H_31 := (b_29.block _ (box_lt H_24)).trans H_24
      have H_32 := (b_29.block _ (box_lt H_25)).trans H_25
      have H_33 := (b_29.block _ (box_lt H_21)).trans H_21
      have o_34 := own_below o_26 b_29
      have o_35 := own_below o_27 b_29
      go_wp2_with (first
        | (refine wpList_store_any _ rfl rfl (by rfl) (b := w.heap.size + 1) (off := 0) (n := 18) rfl rfl (vs := (portC zPort zPortA)) rfl H_32 (by kernel_rfl) rfl rfl (Nat.le_of_ble_eq_true rfl) ((portC zPort zPortA)) rfl ?_
           intro w_36 H_37 g_38
           have zw_36 := g_38.size
           have B_39 := below_only B_30 g_38 (by omega)
           have H_40 := box_only' H_31 g_38 (by omega)
           have H_41 := box_only' H_33 g_38 (by omega)
           have o_42 := own_ty o_34 H_32 (by decide) g_38
           have o_43 := own_ty o_35 H_32 (by decide) g_38
           skip))
      refine bodyPost_ret (results_cell2 Tryd.results8 rfl rfl (load_box (P := Tryd.prog) H_37 Tryd.underlying34 (by kernel_rfl) rfl)) rfl ?_
      rw [HR.out]
      exact ⟨zPortA, rfl, zRowG _ _, zRowI _ _, B_39⟩
    · have HR := Lib.hid (writeR_good hv hwr hv2)
      have b0 : Below w.heap.size w ((w.alloc (.cells (portC d A) 34)).alloc (.cells (portC zPort zPortA) 34)) := ((Below.refl _ _).alloc (Nat.le_refl _) _).alloc (by simp) _
      have H0 := box_alloc (heap_new_at w (.cells (portC d A) 34) _ rfl) (.cells (portC zPort zPortA) 34)
      have G0 := heap_new_at (w.alloc (.cells (portC d A) 34)) (.cells (portC zPort zPortA) 34) (w.heap.size + 1) (by simp)
      go_enter Tryd.func8, Tryd.ntmps8
      go_wp2_with (first
        | (refine wpList_load_box _ rfl (by rfl) (b := w.heap.size) (off := 0) (n := 18) rfl H0 Tryd.underlying34 (by kernel_rfl) (Nat.le_of_ble_eq_true rfl) (portC d A) rfl ?_))
      refine name_calls fun W hW => ?_
      have bW : Below w.heap.size w W := by rw [hW]; exact b0
      have h1 : W.heap[w.heap.size]? = some (.cells (portC d A) 34 (0, 0)) := by rw [hW]; exact H0
      have h2 : W.heap[w.heap.size + 1]? = some (.cells (portC zPort zPortA) 34 (0, 0)) := by rw [hW]; exact G0
      have zW : w.heap.size + 2 ≤ W.heap.size := by rw [hW]; simp
      clear hW b0 H0 G0
      refine (specPortValid_any d A W (hm.below bW) lg ly).mono ?_
      rintro e w_1 ⟨rfl, b_2⟩
      have zw_1 := b_2.size
      have B_3 := bW.trans (b_2.mono bW.size)
      have H_4 := (b_2.block _ (box_lt h1)).trans h1
      have H_5 := (b_2.block _ (box_lt h2)).trans h2
      go_wp2_with (first
        | (refine wpList_load_box _ rfl (by rfl) (b := w.heap.size) (off := 0) (n := 18) rfl H_4 Tryd.underlying34 (by kernel_rfl) (Nat.le_of_ble_eq_true rfl) (portC d A) rfl ?_
           skip))
      refine (l15Copy_any d A w_1 (hm.below B_3) (by omega) (by omega) hX hY).mono ?_
      rintro e w_6 ⟨⟨ax, cx, ay, cy⟩, rfl, Ox, Oy, Ap, b_7⟩
      have zw_6 := b_7.size
      have B_8 := B_3.trans (b_7.mono B_3.size)
      have H_9 := (b_7.block _ (box_lt H_4)).trans H_4
      have H_10 := (b_7.block _ (box_lt H_5)).trans H_5
      clear Ap
      dsimp only at Ox Oy
      go_wp2_with (first
        | (refine wpList_store_any _ rfl rfl (by rfl) (b := w_6.heap.size) (off := 0) (n := 18) rfl rfl (vs := (portC d ⟨ax, cx, ay, cy⟩)) rfl (heap_new_at w_6 (.cells (portC zPort zPortA) 34) _ rfl) (by kernel_rfl) rfl rfl (Nat.le_of_ble_eq_true rfl) ((portC d ⟨ax, cx, ay, cy⟩)) rfl ?_
           intro w_11 H_12 g_13
           have b_14 : Below w_6.heap.size w_6 w_11 := below_only ((Below.refl _ _).alloc (Nat.le_refl _) _) g_13 (Nat.le_refl _)
           have zw_11 := b_14.size
           have B_15 := B_8.trans (b_14.mono B_8.size)
           have lH_12 := box_lt H_12
           have H_16 := (b_14.block _ (box_lt H_9)).trans H_9
           have H_17 := (b_14.block _ (box_lt H_10)).trans H_10
           have o_18 := own_below Ox b_14
           have o_19 := own_below Oy b_14
           skip)
        | (refine wpList_store_any _ rfl rfl (by rfl) (b := w_6.heap.size) (off := 4) (n := 1) rfl rfl (vs := #[.int .i64 v]) rfl H_12 (by kernel_rfl) rfl rfl (Nat.le_of_ble_eq_true rfl) (portC { d with co := v } ⟨ax, cx, ay, cy⟩) rfl ?_
           intro w_20 H_21 g_22
           have zw_20 := g_22.size
           have B_23 := below_only B_15 g_22 (by omega)
           have H_24 := box_only' H_16 g_22 (by omega)
           have H_25 := box_only' H_17 g_22 (by omega)
           have o_26 := own_ty o_18 H_12 (by decide) g_22
           have o_27 := own_ty o_19 H_12 (by decide) g_22
           skip)
        | (refine wpList_load_box _ rfl (by rfl) (b := w_6.heap.size) (off := 0) (n := 18) rfl H_21 Tryd.underlying34 (by kernel_rfl) (Nat.le_of_ble_eq_true rfl) (portC { d with co := v } ⟨ax, cx, ay, cy⟩) rfl ?_
           skip))
      refine (specPortValid_any { d with co := v } ⟨ax, cx, ay, cy⟩ w_20 ⟨own_cells o_26, own_cells o_27⟩ (by dsimp only; omega) (by dsimp only; omega)).mono ?_
      rintro e w_28 ⟨rfl, b_29⟩
      have zw_28 := b_29.size
      have B_30 := B_23.trans (b_29.mono B_23.size)
      have H_31 := (b_29.block _ (box_lt H_24)).trans H_24
      have H_32 := (b_29.block _ (box_lt H_25)).trans H_25
      have H_33 := (b_29.block _ (box_lt H_21)).trans H_21
      have o_34 := own_below o_26 b_29
      have o_35 := own_below o_27 b_29
      go_wp2_with (first
        | (refine wpList_load_box _ rfl (by rfl) (b := w_6.heap.size) (off := 0) (n := 18) rfl H_33 Tryd.underlying34 (by kernel_rfl) (Nat.le_of_ble_eq_true rfl) (portC { d with co := v } ⟨ax, cx, ay, cy⟩) rfl ?_
           skip)
        | (refine wpList_store_any _ rfl rfl (by rfl) (b := w.heap.size + 1) (off := 0) (n := 18) rfl rfl (vs := portC { d with co := v } ⟨ax, cx, ay, cy⟩) rfl H_32 (by kernel_rfl) rfl rfl (Nat.le_of_ble_eq_true rfl) (portC { d with co := v } ⟨ax, cx, ay, cy⟩) rfl ?_
           intro w_36 H_37 g_38
           have zw_36 := g_38.size
           have B_39 := below_only B_30 g_38 (by omega)
           have H_40 := box_only' H_31 g_38 (by omega)
           have H_41 := box_only' H_33 g_38 (by omega)
           have o_42 := own_ty o_34 H_32 (by decide) g_38
           have o_43 := own_ty o_35 H_32 (by decide) g_38
           skip))
      refine bodyPost_ret (results_cell2 (u := .bool true) Tryd.results8 rfl rfl (load_box (P := Tryd.prog) H_37 Tryd.underlying34 (by kernel_rfl) rfl)) rfl ?_
      rw [HR.out]
      exact ⟨⟨ax, cx, ay, cy⟩, rfl, own_base o_42 (by omega), own_base o_43 (by omega), B_39⟩
  by_cases r3 : reg = 3
  · subst r3
    cases hs : fmtOk v
    · have HR := Lib.hid (writeR_none (d := d) (reg := 3) (v := v) (by simp [wrote, hs]))
      have hFR := fmtR_no hs
      have HF := Lib.hid (fun x => specFormatOf_any v x)
      rw [hFR] at HF
      have b0 : Below w.heap.size w ((w.alloc (.cells (portC d A) 34)).alloc (.cells (portC zPort zPortA) 34)) := ((Below.refl _ _).alloc (Nat.le_refl _) _).alloc (by simp) _
      have H0 := box_alloc (heap_new_at w (.cells (portC d A) 34) _ rfl) (.cells (portC zPort zPortA) 34)
      have G0 := heap_new_at (w.alloc (.cells (portC d A) 34)) (.cells (portC zPort zPortA) 34) (w.heap.size + 1) (by simp)
      go_enter Tryd.func8, Tryd.ntmps8
      go_wp2_with (first
        | (refine wpList_load_box _ rfl (by rfl) (b := w.heap.size) (off := 0) (n := 18) rfl H0 Tryd.underlying34 (by kernel_rfl) (Nat.le_of_ble_eq_true rfl) (portC d A) rfl ?_))
      refine name_calls fun W hW => ?_
      have bW : Below w.heap.size w W := by rw [hW]; exact b0
      have h1 : W.heap[w.heap.size]? = some (.cells (portC d A) 34 (0, 0)) := by rw [hW]; exact H0
      have h2 : W.heap[w.heap.size + 1]? = some (.cells (portC zPort zPortA) 34 (0, 0)) := by rw [hW]; exact G0
      have zW : w.heap.size + 2 ≤ W.heap.size := by rw [hW]; simp
      clear hW b0 H0 G0
      refine (specPortValid_any d A W (hm.below bW) lg ly).mono ?_
      rintro e w_1 ⟨rfl, b_2⟩
      have zw_1 := b_2.size
      have B_3 := bW.trans (b_2.mono bW.size)
      have H_4 := (b_2.block _ (box_lt h1)).trans h1
      have H_5 := (b_2.block _ (box_lt h2)).trans h2
      go_wp2_with (first
        | (refine wpList_load_box _ rfl (by rfl) (b := w.heap.size) (off := 0) (n := 18) rfl H_4 Tryd.underlying34 (by kernel_rfl) (Nat.le_of_ble_eq_true rfl) (portC d A) rfl ?_
           skip))
      refine (l15Copy_any d A w_1 (hm.below B_3) (by omega) (by omega) hX hY).mono ?_
      rintro e w_6 ⟨⟨ax, cx, ay, cy⟩, rfl, Ox, Oy, Ap, b_7⟩
      have zw_6 := b_7.size
      have B_8 := B_3.trans (b_7.mono B_3.size)
      have H_9 := (b_7.block _ (box_lt H_4)).trans H_4
      have H_10 := (b_7.block _ (box_lt H_5)).trans H_5
      clear Ap
      dsimp only at Ox Oy
      go_wp2_with (first
        | (refine wpList_store_any _ rfl rfl (by rfl) (b := w_6.heap.size) (off := 0) (n := 18) rfl rfl (vs := (portC d ⟨ax, cx, ay, cy⟩)) rfl (heap_new_at w_6 (.cells (portC zPort zPortA) 34) _ rfl) (by kernel_rfl) rfl rfl (Nat.le_of_ble_eq_true rfl) ((portC d ⟨ax, cx, ay, cy⟩)) rfl ?_
           intro w_11 H_12 g_13
           have b_14 : Below w_6.heap.size w_6 w_11 := below_only ((Below.refl _ _).alloc (Nat.le_refl _) _) g_13 (Nat.le_refl _)
           have zw_11 := b_14.size
           have B_15 := B_8.trans (b_14.mono B_8.size)
           have lH_12 := box_lt H_12
           have H_16 := (b_14.block _ (box_lt H_9)).trans H_9
           have H_17 := (b_14.block _ (box_lt H_10)).trans H_10
           have o_18 := own_below Ox b_14
           have o_19 := own_below Oy b_14
           skip))
      refine (HF.out w_11).mono ?_
      rintro e w_20 ⟨rfl, b_21⟩
      have zw_20 := b_21.size
      have B_22 := B_15.trans (b_21.mono B_15.size)
      have H_23 := (b_21.block _ (box_lt H_16)).trans H_16
      have H_24 := (b_21.block _ (box_lt H_17)).trans H_17
      have H_25 := (b_21.block _ (box_lt H_12)).trans H_12
      have o_26 := own_below o_18 b_21
      have o_27 := own_below o_19 b_21
      go_wp2_with (first
        | (refine wpList_store_any _ rfl rfl (by rfl) (b := w_20.heap.size) (off := 0) (n := 3) rfl rfl (vs := #[.int .i64 0, .int .i64 0, .int .i64 0]) rfl (heap_new_at w_20 (.cells #[.int .i64 0, .int .i64 0, .int .i64 0] 24) _ rfl) (by kernel_rfl) rfl rfl (Nat.le_of_ble_eq_true rfl) (#[.int .i64 0, .int .i64 0, .int .i64 0]) rfl ?_
           intro w_28 H_29 g_30
           have b_31 : Below w_20.heap.size w_20 w_28 := below_only ((Below.refl _ _).alloc (Nat.le_refl _) _) g_30 (Nat.le_refl _)
           have zw_28 := b_31.size
           have B_32 := B_22.trans (b_31.mono B_22.size)
           have lH_29 := box_lt H_29
           have H_33 := (b_31.block _ (box_lt H_23)).trans H_23
           have H_34 := (b_31.block _ (box_lt H_24)).trans H_24
           have H_35 := (b_31.block _ (box_lt H_25)).trans H_25
           have o_36 := own_below o_26 b_31
           have o_37 := own_below o_27 b_31
           skip)
        | (refine wpList_load_box _ rfl (by rfl) (b := w_20.heap.size) (off := 0) (n := 3) rfl H_29 Tryd.underlying24 (by kernel_rfl) (Nat.le_of_ble_eq_true rfl) (#[.int .i64 0, .int .i64 0, .int .i64 0]) rfl ?_
           skip)
        | (refine wpList_store_any _ rfl rfl (by rfl) (b := w_6.heap.size) (off := 0) (n := 3) rfl rfl (vs := #[.int .i64 0, .int .i64 0, .int .i64 0]) rfl H_35 (by kernel_rfl) rfl rfl (Nat.le_of_ble_eq_true rfl) (portC { d with b := 0, p := 0, s := 0 } ⟨ax, cx, ay, cy⟩) rfl ?_
           intro w_38 H_39 g_40
           have zw_38 := g_40.size
           have B_41 := below_only B_32 g_40 (by omega)
           have H_42 := box_only' H_33 g_40 (by omega)
           have H_43 := box_only' H_34 g_40 (by omega)
           have H_44 := box_only' H_29 g_40 (by omega)
           have o_45 := own_ty o_36 H_35 (by decide) g_40
           have o_46 := own_ty o_37 H_35 (by decide) g_40
           skip)
        | (refine wpList_store_any _ rfl rfl (by rfl) (b := w.heap.size + 1) (off := 0) (n := 18) rfl rfl (vs := (portC zPort zPortA)) rfl H_43 (by kernel_rfl) rfl rfl (Nat.le_of_ble_eq_true rfl) ((portC zPort zPortA)) rfl ?_
           intro w_47 H_48 g_49
           have zw_47 := g_49.size
           have B_50 := below_only B_41 g_49 (by omega)
           have H_51 := box_only' H_42 g_49 (by omega)
           have H_52 := box_only' H_39 g_49 (by omega)
           have H_53 := box_only' H_44 g_49 (by omega)
           have o_54 := own_ty o_45 H_43 (by decide) g_49
           have o_55 := own_ty o_46 H_43 (by decide) g_49
           skip))
      refine bodyPost_ret (results_cell2 Tryd.results8 rfl rfl (load_box (P := Tryd.prog) H_48 Tryd.underlying34 (by kernel_rfl) rfl)) rfl ?_
      rw [HR.out]
      exact ⟨zPortA, rfl, zRowG _ _, zRowI _ _, B_50⟩
    · have hwr : wrote d 3 v = some { d with b := 5 + v % 4, p := fmtP v, s := 1 + v / 4 % 2 } := by simp [wrote, hs]
      cases hv2 : portB { d with b := 5 + v % 4, p := fmtP v, s := 1 + v / 4 % 2 }
      · have HR := Lib.hid (writeR_bad hwr hv2)
        have hFR := fmtR_yes hs
        have HF := Lib.hid (fun x => specFormatOf_any v x)
        rw [hFR] at HF
        have b0 : Below w.heap.size w ((w.alloc (.cells (portC d A) 34)).alloc (.cells (portC zPort zPortA) 34)) := ((Below.refl _ _).alloc (Nat.le_refl _) _).alloc (by simp) _
        have H0 := box_alloc (heap_new_at w (.cells (portC d A) 34) _ rfl) (.cells (portC zPort zPortA) 34)
        have G0 := heap_new_at (w.alloc (.cells (portC d A) 34)) (.cells (portC zPort zPortA) 34) (w.heap.size + 1) (by simp)
        go_enter Tryd.func8, Tryd.ntmps8
        go_wp2_with (first
          | (refine wpList_load_box _ rfl (by rfl) (b := w.heap.size) (off := 0) (n := 18) rfl H0 Tryd.underlying34 (by kernel_rfl) (Nat.le_of_ble_eq_true rfl) (portC d A) rfl ?_))
        refine name_calls fun W hW => ?_
        have bW : Below w.heap.size w W := by rw [hW]; exact b0
        have h1 : W.heap[w.heap.size]? = some (.cells (portC d A) 34 (0, 0)) := by rw [hW]; exact H0
        have h2 : W.heap[w.heap.size + 1]? = some (.cells (portC zPort zPortA) 34 (0, 0)) := by rw [hW]; exact G0
        have zW : w.heap.size + 2 ≤ W.heap.size := by rw [hW]; simp
        clear hW b0 H0 G0
        refine (specPortValid_any d A W (hm.below bW) lg ly).mono ?_
        rintro e w_1 ⟨rfl, b_2⟩
        have zw_1 := b_2.size
        have B_3 := bW.trans (b_2.mono bW.size)
        have H_4 := (b_2.block _ (box_lt h1)).trans h1
        have H_5 := (b_2.block _ (box_lt h2)).trans h2
        go_wp2_with (first
          | (refine wpList_load_box _ rfl (by rfl) (b := w.heap.size) (off := 0) (n := 18) rfl H_4 Tryd.underlying34 (by kernel_rfl) (Nat.le_of_ble_eq_true rfl) (portC d A) rfl ?_
             skip))
        refine (l15Copy_any d A w_1 (hm.below B_3) (by omega) (by omega) hX hY).mono ?_
        rintro e w_6 ⟨⟨ax, cx, ay, cy⟩, rfl, Ox, Oy, Ap, b_7⟩
        have zw_6 := b_7.size
        have B_8 := B_3.trans (b_7.mono B_3.size)
        have H_9 := (b_7.block _ (box_lt H_4)).trans H_4
        have H_10 := (b_7.block _ (box_lt H_5)).trans H_5
        clear Ap
        dsimp only at Ox Oy
        go_wp2_with (first
          | (refine wpList_store_any _ rfl rfl (by rfl) (b := w_6.heap.size) (off := 0) (n := 18) rfl rfl (vs := (portC d ⟨ax, cx, ay, cy⟩)) rfl (heap_new_at w_6 (.cells (portC zPort zPortA) 34) _ rfl) (by kernel_rfl) rfl rfl (Nat.le_of_ble_eq_true rfl) ((portC d ⟨ax, cx, ay, cy⟩)) rfl ?_
             intro w_11 H_12 g_13
             have b_14 : Below w_6.heap.size w_6 w_11 := below_only ((Below.refl _ _).alloc (Nat.le_refl _) _) g_13 (Nat.le_refl _)
             have zw_11 := b_14.size
             have B_15 := B_8.trans (b_14.mono B_8.size)
             have lH_12 := box_lt H_12
             have H_16 := (b_14.block _ (box_lt H_9)).trans H_9
             have H_17 := (b_14.block _ (box_lt H_10)).trans H_10
             have o_18 := own_below Ox b_14
             have o_19 := own_below Oy b_14
             skip))
        refine (HF.out w_11).mono ?_
        rintro e w_20 ⟨rfl, b_21⟩
        have zw_20 := b_21.size
        have B_22 := B_15.trans (b_21.mono B_15.size)
        have H_23 := (b_21.block _ (box_lt H_16)).trans H_16
        have H_24 := (b_21.block _ (box_lt H_17)).trans H_17
        have H_25 := (b_21.block _ (box_lt H_12)).trans H_12
        have o_26 := own_below o_18 b_21
        have o_27 := own_below o_19 b_21
        go_wp2_with (first
          | (refine wpList_store_any _ rfl rfl (by rfl) (b := w_20.heap.size) (off := 0) (n := 3) rfl rfl (vs := #[.int .i64 (5 + v % 4), .int .i64 (fmtP v), .int .i64 (1 + v / 4 % 2)]) rfl (heap_new_at w_20 (.cells #[.int .i64 0, .int .i64 0, .int .i64 0] 24) _ rfl) (by kernel_rfl) rfl rfl (Nat.le_of_ble_eq_true rfl) (#[.int .i64 (5 + v % 4), .int .i64 (fmtP v), .int .i64 (1 + v / 4 % 2)]) rfl ?_
             intro w_28 H_29 g_30
             have b_31 : Below w_20.heap.size w_20 w_28 := below_only ((Below.refl _ _).alloc (Nat.le_refl _) _) g_30 (Nat.le_refl _)
             have zw_28 := b_31.size
             have B_32 := B_22.trans (b_31.mono B_22.size)
             have lH_29 := box_lt H_29
             have H_33 := (b_31.block _ (box_lt H_23)).trans H_23
             have H_34 := (b_31.block _ (box_lt H_24)).trans H_24
             have H_35 := (b_31.block _ (box_lt H_25)).trans H_25
             have o_36 := own_below o_26 b_31
             have o_37 := own_below o_27 b_31
             skip)
          | (refine wpList_load_box _ rfl (by rfl) (b := w_20.heap.size) (off := 0) (n := 3) rfl H_29 Tryd.underlying24 (by kernel_rfl) (Nat.le_of_ble_eq_true rfl) (#[.int .i64 (5 + v % 4), .int .i64 (fmtP v), .int .i64 (1 + v / 4 % 2)]) rfl ?_
             skip)
          | (refine wpList_store_any _ rfl rfl (by rfl) (b := w_6.heap.size) (off := 0) (n := 3) rfl rfl (vs := #[.int .i64 (5 + v % 4), .int .i64 (fmtP v), .int .i64 (1 + v / 4 % 2)]) rfl H_35 (by kernel_rfl) rfl rfl (Nat.le_of_ble_eq_true rfl) (portC { d with b := 5 + v % 4, p := fmtP v, s := 1 + v / 4 % 2 } ⟨ax, cx, ay, cy⟩) rfl ?_
             intro w_38 H_39 g_40
             have zw_38 := g_40.size
             have B_41 := below_only B_32 g_40 (by omega)
             have H_42 := box_only' H_33 g_40 (by omega)
             have H_43 := box_only' H_34 g_40 (by omega)
             have H_44 := box_only' H_29 g_40 (by omega)
             have o_45 := own_ty o_36 H_35 (by decide) g_40
             have o_46 := own_ty o_37 H_35 (by decide) g_40
             skip)
          | (refine wpList_load_box _ rfl (by rfl) (b := w_6.heap.size) (off := 0) (n := 18) rfl H_39 Tryd.underlying34 (by kernel_rfl) (Nat.le_of_ble_eq_true rfl) (portC { d with b := 5 + v % 4, p := fmtP v, s := 1 + v / 4 % 2 } ⟨ax, cx, ay, cy⟩) rfl ?_
             skip))
        refine (specPortValid_any { d with b := 5 + v % 4, p := fmtP v, s := 1 + v / 4 % 2 } ⟨ax, cx, ay, cy⟩ w_38 ⟨own_cells o_45, own_cells o_46⟩ (by dsimp only; omega) (by dsimp only; omega)).mono ?_
        rintro e w_47 ⟨rfl, b_48⟩
        have zw_47 := b_48.size
        have B_49 := B_41.trans (b_48.mono B_41.size)
        have H_50 := (b_48.block _ (box_lt H_42)).trans H_42
        have H_51 := (b_48.block _ (box_lt H_43)).trans H_43
        have H_52 := (b_48.block _ (box_lt H_39)).trans H_39
        have H_53 := (b_48.block _ (box_lt H_44)).trans H_44
        have o_54 := own_below o_45 b_48
        have o_55 := own_below o_46 b_48
        go_wp2_with (first
          | (refine wpList_store_any _ rfl rfl (by rfl) (b := w.heap.size + 1) (off := 0) (n := 18) rfl rfl (vs := (portC zPort zPortA)) rfl H_51 (by kernel_rfl) rfl rfl (Nat.le_of_ble_eq_true rfl) ((portC zPort zPortA)) rfl ?_
             intro w_56 H_57 g_58
             have zw_56 := g_58.size
             have B_59 := below_only B_49 g_58 (by omega)
             have H_60 := box_only' H_50 g_58 (by omega)
             have H_61 := box_only' H_52 g_58 (by omega)
             have H_62 := box_only' H_53 g_58 (by omega)
             have o_63 := own_ty o_54 H_51 (by decide) g_58
             have o_64 := own_ty o_55 H_51 (by decide) g_58
             skip))
        refine bodyPost_ret (results_cell2 Tryd.results8 rfl rfl (load_box (P := Tryd.prog) H_57 Tryd.underlying34 (by kernel_rfl) rfl)) rfl ?_
        rw [HR.out]
        exact ⟨zPortA, rfl, zRowG _ _, zRowI _ _, B_59⟩
      · have HR := Lib.hid (writeR_good hv hwr hv2)
        have hFR := fmtR_yes hs
        have HF := Lib.hid (fun x => specFormatOf_any v x)
        rw [hFR] at HF
        have b0 : Below w.heap.size w ((w.alloc (.cells (portC d A) 34)).alloc (.cells (portC zPort zPortA) 34)) := ((Below.refl _ _).alloc (Nat.le_refl _) _).alloc (by simp) _
        have H0 := box_alloc (heap_new_at w (.cells (portC d A) 34) _ rfl) (.cells (portC zPort zPortA) 34)
        have G0 := heap_new_at (w.alloc (.cells (portC d A) 34)) (.cells (portC zPort zPortA) 34) (w.heap.size + 1) (by simp)
        go_enter Tryd.func8, Tryd.ntmps8
        go_wp2_with (first
          | (refine wpList_load_box _ rfl (by rfl) (b := w.heap.size) (off := 0) (n := 18) rfl H0 Tryd.underlying34 (by kernel_rfl) (Nat.le_of_ble_eq_true rfl) (portC d A) rfl ?_))
        refine name_calls fun W hW => ?_
        have bW : Below w.heap.size w W := by rw [hW]; exact b0
        have h1 : W.heap[w.heap.size]? = some (.cells (portC d A) 34 (0, 0)) := by rw [hW]; exact H0
        have h2 : W.heap[w.heap.size + 1]? = some (.cells (portC zPort zPortA) 34 (0, 0)) := by rw [hW]; exact G0
        have zW : w.heap.size + 2 ≤ W.heap.size := by rw [hW]; simp
        clear hW b0 H0 G0
        refine (specPortValid_any d A W (hm.below bW) lg ly).mono ?_
        rintro e w_1 ⟨rfl, b_2⟩
        have zw_1 := b_2.size
        have B_3 := bW.trans (b_2.mono bW.size)
        have H_4 := (b_2.block _ (box_lt h1)).trans h1
        have H_5 := (b_2.block _ (box_lt h2)).trans h2
        go_wp2_with (first
          | (refine wpList_load_box _ rfl (by rfl) (b := w.heap.size) (off := 0) (n := 18) rfl H_4 Tryd.underlying34 (by kernel_rfl) (Nat.le_of_ble_eq_true rfl) (portC d A) rfl ?_
             skip))
        refine (l15Copy_any d A w_1 (hm.below B_3) (by omega) (by omega) hX hY).mono ?_
        rintro e w_6 ⟨⟨ax, cx, ay, cy⟩, rfl, Ox, Oy, Ap, b_7⟩
        have zw_6 := b_7.size
        have B_8 := B_3.trans (b_7.mono B_3.size)
        have H_9 := (b_7.block _ (box_lt H_4)).trans H_4
        have H_10 := (b_7.block _ (box_lt H_5)).trans H_5
        clear Ap
        dsimp only at Ox Oy
        go_wp2_with (first
          | (refine wpList_store_any _ rfl rfl (by rfl) (b := w_6.heap.size) (off := 0) (n := 18) rfl rfl (vs := (portC d ⟨ax, cx, ay, cy⟩)) rfl (heap_new_at w_6 (.cells (portC zPort zPortA) 34) _ rfl) (by kernel_rfl) rfl rfl (Nat.le_of_ble_eq_true rfl) ((portC d ⟨ax, cx, ay, cy⟩)) rfl ?_
             intro w_11 H_12 g_13
             have b_14 : Below w_6.heap.size w_6 w_11 := below_only ((Below.refl _ _).alloc (Nat.le_refl _) _) g_13 (Nat.le_refl _)
             have zw_11 := b_14.size
             have B_15 := B_8.trans (b_14.mono B_8.size)
             have lH_12 := box_lt H_12
             have H_16 := (b_14.block _ (box_lt H_9)).trans H_9
             have H_17 := (b_14.block _ (box_lt H_10)).trans H_10
             have o_18 := own_below Ox b_14
             have o_19 := own_below Oy b_14
             skip))
        refine (HF.out w_11).mono ?_
        rintro e w_20 ⟨rfl, b_21⟩
        have zw_20 := b_21.size
        have B_22 := B_15.trans (b_21.mono B_15.size)
        have H_23 := (b_21.block _ (box_lt H_16)).trans H_16
        have H_24 := (b_21.block _ (box_lt H_17)).trans H_17
        have H_25 := (b_21.block _ (box_lt H_12)).trans H_12
        have o_26 := own_below o_18 b_21
        have o_27 := own_below o_19 b_21
        go_wp2_with (first
          | (refine wpList_store_any _ rfl rfl (by rfl) (b := w_20.heap.size) (off := 0) (n := 3) rfl rfl (vs := #[.int .i64 (5 + v % 4), .int .i64 (fmtP v), .int .i64 (1 + v / 4 % 2)]) rfl (heap_new_at w_20 (.cells #[.int .i64 0, .int .i64 0, .int .i64 0] 24) _ rfl) (by kernel_rfl) rfl rfl (Nat.le_of_ble_eq_true rfl) (#[.int .i64 (5 + v % 4), .int .i64 (fmtP v), .int .i64 (1 + v / 4 % 2)]) rfl ?_
             intro w_28 H_29 g_30
             have b_31 : Below w_20.heap.size w_20 w_28 := below_only ((Below.refl _ _).alloc (Nat.le_refl _) _) g_30 (Nat.le_refl _)
             have zw_28 := b_31.size
             have B_32 := B_22.trans (b_31.mono B_22.size)
             have lH_29 := box_lt H_29
             have H_33 := (b_31.block _ (box_lt H_23)).trans H_23
             have H_34 := (b_31.block _ (box_lt H_24)).trans H_24
             have H_35 := (b_31.block _ (box_lt H_25)).trans H_25
             have o_36 := own_below o_26 b_31
             have o_37 := own_below o_27 b_31
             skip)
          | (refine wpList_load_box _ rfl (by rfl) (b := w_20.heap.size) (off := 0) (n := 3) rfl H_29 Tryd.underlying24 (by kernel_rfl) (Nat.le_of_ble_eq_true rfl) (#[.int .i64 (5 + v % 4), .int .i64 (fmtP v), .int .i64 (1 + v / 4 % 2)]) rfl ?_
             skip)
          | (refine wpList_store_any _ rfl rfl (by rfl) (b := w_6.heap.size) (off := 0) (n := 3) rfl rfl (vs := #[.int .i64 (5 + v % 4), .int .i64 (fmtP v), .int .i64 (1 + v / 4 % 2)]) rfl H_35 (by kernel_rfl) rfl rfl (Nat.le_of_ble_eq_true rfl) (portC { d with b := 5 + v % 4, p := fmtP v, s := 1 + v / 4 % 2 } ⟨ax, cx, ay, cy⟩) rfl ?_
             intro w_38 H_39 g_40
             have zw_38 := g_40.size
             have B_41 := below_only B_32 g_40 (by omega)
             have H_42 := box_only' H_33 g_40 (by omega)
             have H_43 := box_only' H_34 g_40 (by omega)
             have H_44 := box_only' H_29 g_40 (by omega)
             have o_45 := own_ty o_36 H_35 (by decide) g_40
             have o_46 := own_ty o_37 H_35 (by decide) g_40
             skip)
          | (refine wpList_load_box _ rfl (by rfl) (b := w_6.heap.size) (off := 0) (n := 18) rfl H_39 Tryd.underlying34 (by kernel_rfl) (Nat.le_of_ble_eq_true rfl) (portC { d with b := 5 + v % 4, p := fmtP v, s := 1 + v / 4 % 2 } ⟨ax, cx, ay, cy⟩) rfl ?_
             skip))
        refine (specPortValid_any { d with b := 5 + v % 4, p := fmtP v, s := 1 + v / 4 % 2 } ⟨ax, cx, ay, cy⟩ w_38 ⟨own_cells o_45, own_cells o_46⟩ (by dsimp only; omega) (by dsimp only; omega)).mono ?_
        rintro e w_47 ⟨rfl, b_48⟩
        have zw_47 := b_48.size
        have B_49 := B_41.trans (b_48.mono B_41.size)
        have H_50 := (b_48.block _ (box_lt H_42)).trans H_42
        have H_51 := (b_48.block _ (box_lt H_43)).trans H_43
        have H_52 := (b_48.block _ (box_lt H_39)).trans H_39
        have H_53 := (b_48.block _ (box_lt H_44)).trans H_44
        have o_54 := own_below o_45 b_48
        have o_55 := own_below o_46 b_48
        go_wp2_with (first
          | (refine wpList_load_box _ rfl (by rfl) (b := w_6.heap.size) (off := 0) (n := 18) rfl H_52 Tryd.underlying34 (by kernel_rfl) (Nat.le_of_ble_eq_true rfl) (portC { d with b := 5 + v % 4, p := fmtP v, s := 1 + v / 4 % 2 } ⟨ax, cx, ay, cy⟩) rfl ?_
             skip)
          | (refine wpList_store_any _ rfl rfl (by rfl) (b := w.heap.size + 1) (off := 0) (n := 18) rfl rfl (vs := portC { d with b := 5 + v % 4, p := fmtP v, s := 1 + v / 4 % 2 } ⟨ax, cx, ay, cy⟩) rfl H_51 (by kernel_rfl) rfl rfl (Nat.le_of_ble_eq_true rfl) (portC { d with b := 5 + v % 4, p := fmtP v, s := 1 + v / 4 % 2 } ⟨ax, cx, ay, cy⟩) rfl ?_
             intro w_56 H_57 g_58
             have zw_56 := g_58.size
             have B_59 := below_only B_49 g_58 (by omega)
             have H_60 := box_only' H_50 g_58 (by omega)
             have H_61 := box_only' H_52 g_58 (by omega)
             have H_62 := box_only' H_53 g_58 (by omega)
             have o_63 := own_ty o_54 H_51 (by decide) g_58
             have o_64 := own_ty o_55 H_51 (by decide) g_58
             skip))
        refine bodyPost_ret (results_cell2 (u := .bool true) Tryd.results8 rfl rfl (load_box (P := Tryd.prog) H_57 Tryd.underlying34 (by kernel_rfl) rfl)) rfl ?_
        rw [HR.out]
        exact ⟨⟨ax, cx, ay, cy⟩, rfl, own_base o_63 (by omega), own_base o_64 (by omega), B_59⟩
  have HR := Lib.hid (writeR_none (d := d) (reg := reg) (v := v) (by simp [wrote, r0, r1, r3, r4]))
  have hq0 : (reg == 0) = false := beq_eq_false_iff_ne.2 r0
  have hq1 : (reg == 1) = false := beq_eq_false_iff_ne.2 r1
  have hq3 : (reg == 3) = false := beq_eq_false_iff_ne.2 r3
  have hq4 : (reg == 4) = false := beq_eq_false_iff_ne.2 r4
  clear r0 r1 r3 r4
  have b0 : Below w.heap.size w ((w.alloc (.cells (portC d A) 34)).alloc (.cells (portC zPort zPortA) 34)) := ((Below.refl _ _).alloc (Nat.le_refl _) _).alloc (by simp) _
  have H0 := box_alloc (heap_new_at w (.cells (portC d A) 34) _ rfl) (.cells (portC zPort zPortA) 34)
  have G0 := heap_new_at (w.alloc (.cells (portC d A) 34)) (.cells (portC zPort zPortA) 34) (w.heap.size + 1) (by simp)
  go_enter Tryd.func8, Tryd.ntmps8
  go_wp2_with (first
    | (refine wpList_load_box _ rfl (by rfl) (b := w.heap.size) (off := 0) (n := 18) rfl H0 Tryd.underlying34 (by kernel_rfl) (Nat.le_of_ble_eq_true rfl) (portC d A) rfl ?_))
  refine name_calls fun W hW => ?_
  have bW : Below w.heap.size w W := by rw [hW]; exact b0
  have h1 : W.heap[w.heap.size]? = some (.cells (portC d A) 34 (0, 0)) := by rw [hW]; exact H0
  have h2 : W.heap[w.heap.size + 1]? = some (.cells (portC zPort zPortA) 34 (0, 0)) := by rw [hW]; exact G0
  have zW : w.heap.size + 2 ≤ W.heap.size := by rw [hW]; simp
  clear hW b0 H0 G0
  refine (specPortValid_any d A W (hm.below bW) lg ly).mono ?_
  rintro e w_1 ⟨rfl, b_2⟩
  have zw_1 := b_2.size
  have B_3 := bW.trans (b_2.mono bW.size)
  have H_4 := (b_2.block _ (box_lt h1)).trans h1
  have H_5 := (b_2.block _ (box_lt h2)).trans h2
  go_wp2_with (first
    | (refine wpList_load_box _ rfl (by rfl) (b := w.heap.size) (off := 0) (n := 18) rfl H_4 Tryd.underlying34 (by kernel_rfl) (Nat.le_of_ble_eq_true rfl) (portC d A) rfl ?_
       skip))
  refine (l15Copy_any d A w_1 (hm.below B_3) (by omega) (by omega) hX hY).mono ?_
  rintro e w_6 ⟨⟨ax, cx, ay, cy⟩, rfl, Ox, Oy, Ap, b_7⟩
  have zw_6 := b_7.size
  have B_8 := B_3.trans (b_7.mono B_3.size)
  have H_9 := (b_7.block _ (box_lt H_4)).trans H_4
  have H_10 := (b_7.block _ (box_lt H_5)).trans H_5
  clear Ap
  dsimp only at Ox Oy
  go_wp2_with (first
    | (refine wpList_store_any _ rfl rfl (by rfl) (b := w_6.heap.size) (off := 0) (n := 18) rfl rfl (vs := (portC d ⟨ax, cx, ay, cy⟩)) rfl (heap_new_at w_6 (.cells (portC zPort zPortA) 34) _ rfl) (by kernel_rfl) rfl rfl (Nat.le_of_ble_eq_true rfl) ((portC d ⟨ax, cx, ay, cy⟩)) rfl ?_
       intro w_11 H_12 g_13
       have b_14 : Below w_6.heap.size w_6 w_11 := below_only ((Below.refl _ _).alloc (Nat.le_refl _) _) g_13 (Nat.le_refl _)
       have zw_11 := b_14.size
       have B_15 := B_8.trans (b_14.mono B_8.size)
       have lH_12 := box_lt H_12
       have H_16 := (b_14.block _ (box_lt H_9)).trans H_9
       have H_17 := (b_14.block _ (box_lt H_10)).trans H_10
       have o_18 := own_below Ox b_14
       have o_19 := own_below Oy b_14
       skip)
    | (refine wpList_store_any _ rfl rfl (by rfl) (b := w.heap.size + 1) (off := 0) (n := 18) rfl rfl (vs := (portC zPort zPortA)) rfl H_17 (by kernel_rfl) rfl rfl (Nat.le_of_ble_eq_true rfl) ((portC zPort zPortA)) rfl ?_
       intro w_20 H_21 g_22
       have zw_20 := g_22.size
       have B_23 := below_only B_15 g_22 (by omega)
       have H_24 := box_only' H_16 g_22 (by omega)
       have H_25 := box_only' H_12 g_22 (by omega)
       have o_26 := own_ty o_18 H_17 (by decide) g_22
       have o_27 := own_ty o_19 H_17 (by decide) g_22
       skip))
  refine bodyPost_ret (results_cell2 Tryd.results8 rfl rfl (load_box (P := Tryd.prog) H_21 Tryd.underlying34 (by kernel_rfl) rfl)) rfl ?_
  rw [HR.out]
  exact ⟨zPortA, rfl, zRowG _ _, zRowI _ _, B_23⟩
end Go.Proofs.YtkmampichfbppaaDoor
