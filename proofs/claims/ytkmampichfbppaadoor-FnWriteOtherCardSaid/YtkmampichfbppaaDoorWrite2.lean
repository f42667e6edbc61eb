/- Ports: a register is written: impl. -/
import Derived.Test.YtkmampichfbppaaDoorWrite
namespace Go.Proofs.YtkmampichfbppaaDoor
open Go.RowKit

set_option maxHeartbeats 4000000 in
set_option maxRecDepth 100000 in
theorem implPortWrite_any (d : PortD) (A : PortA) (reg v : Int) (a : Addr) (w : World) (hE : Sent w a) (hm : PortM w d A) (lg : d.gs.length ≤ 1048576) (ly : d.ys.length ≤ 1048576) (_hX : A.ax = none → d.gs.length = 0 ∧ A.cx = 0) (hY : A.ay = none → d.ys.length = 0 ∧ A.cy = 0) :
    Calls Tryd.prog 7 #[.agg (portC d A), .int .i64 reg, .int .i64 v] w (WriteP w (writeR d reg v)) := by
  cases hv : portB d
  · have HR := Lib.hid (writeR_inv hv reg v)
    have b0 : Below w.heap.size w ((w.alloc (.cells (portC d A) 34)).alloc (.cells (portC zPort zPortA) 34)) := ((Below.refl _ _).alloc (Nat.le_refl _) _).alloc (by simp) _
    have H0 := box_alloc (heap_new_at w (.cells (portC d A) 34) _ rfl) (.cells (portC zPort zPortA) 34)
    have G0 := heap_new_at (w.alloc (.cells (portC d A) 34)) (.cells (portC zPort zPortA) 34) (w.heap.size + 1) (by simp)
    go_enter Tryd.func7, Tryd.ntmps7
    go_wp2_with (first
      | (refine wpList_load_box _ rfl (by rfl) (b := w.heap.size) (off := 0) (n := 18) rfl H0 Tryd.underlying34 (by kernel_rfl) (Nat.le_of_ble_eq_true rfl) (portC d A) rfl ?_))
    refine name_calls fun W hW => ?_
    have bW : Below w.heap.size w W := by rw [hW]; exact b0
    have h1 : W.heap[w.heap.size]? = some (.cells (portC d A) 34 (0, 0)) := by rw [hW]; exact H0
    have h2 : W.heap[w.heap.size + 1]? = some (.cells (portC zPort zPortA) 34 (0, 0)) := by rw [hW]; exact G0
    have zW : w.heap.size + 2 ≤ W.heap.size := by rw [hW]; simp
    clear hW b0 H0 G0
    refine (implPortValid_any d A W (hm.below bW) lg ly).mono ?_
    rintro e w_1 ⟨rfl, b_2⟩
    have zw_1 := b_2.size
    have B_3 := bW.trans (b_2.mono bW.size)
    have H_4 := (b_2.block _ (box_lt h1)).trans h1
    have H_5 := (b_2.block _ (box_lt h2)).trans h2
    go_wp2_with (first
      | (refine wpList_store_any _ rfl rfl (by rfl) (b := w.heap.size + 1) (off := 0) (n := 18) rfl rfl (vs := (portC zPort zPortA)) rfl H_5 (by kernel_rfl) rfl rfl (Nat.le_of_ble_eq_true rfl) ((portC zPort zPortA)) rfl ?_
         intro w_6 H_7 g_8
         have zw_6 := g_8.size
         have B_9 := below_only B_3 g_8 (by omega)
         have H_10 := box_only' H_4 g_8 (by omega)
         skip))
    refine bodyPost_ret (results_cell2 Tryd.results7 rfl rfl (load_box (P := Tryd.prog) H_7 Tryd.underlying34 (by kernel_rfl) rfl)) rfl ?_
    rw [HR.out]
    exact ⟨zPortA, rfl, zRowG _ _, zRowI _ _, B_9⟩
  have hlen := portB_len hv
  have hlg := hlen.1
  have hly := hlen.2
  by_cases r0 : reg = 0
  · subst r0
    cases hs : sputB d.sr d.sh d.sl d.ys v
    · have HR := Lib.hid (writeR_none (d := d) (reg := 0) (v := v) (by simp [wrote, hs]))
      have hSR := sputR_no hs
      have b0 : Below w.heap.size w ((w.alloc (.cells (portC d A) 34)).alloc (.cells (portC zPort zPortA) 34)) := ((Below.refl _ _).alloc (Nat.le_refl _) _).alloc (by simp) _
      have H0 := box_alloc (heap_new_at w (.cells (portC d A) 34) _ rfl) (.cells (portC zPort zPortA) 34)
      have G0 := heap_new_at (w.alloc (.cells (portC d A) 34)) (.cells (portC zPort zPortA) 34) (w.heap.size + 1) (by simp)
      go_enter Tryd.func7, Tryd.ntmps7
      go_wp2_with (first
        | (refine wpList_load_box _ rfl (by rfl) (b := w.heap.size) (off := 0) (n := 18) rfl H0 Tryd.underlying34 (by kernel_rfl) (Nat.le_of_ble_eq_true rfl) (portC d A) rfl ?_))
      refine name_calls fun W hW => ?_
      have bW : Below w.heap.size w W := by rw [hW]; exact b0
      have h1 : W.heap[w.heap.size]? = some (.cells (portC d A) 34 (0, 0)) := by rw [hW]; exact H0
      have h2 : W.heap[w.heap.size + 1]? = some (.cells (portC zPort zPortA) 34 (0, 0)) := by rw [hW]; exact G0
      have zW : w.heap.size + 2 ≤ W.heap.size := by rw [hW]; simp
      clear hW b0 H0 G0
      refine (implPortValid_any d A W (hm.below bW) lg ly).mono ?_
      rintro e w_1 ⟨rfl, b_2⟩
      have zw_1 := b_2.size
      have B_3 := bW.trans (b_2.mono bW.size)
      have H_4 := (b_2.block _ (box_lt h1)).trans h1
      have H_5 := (b_2.block _ (box_lt h2)).trans h2
      go_wp2_with (first
        | (refine wpList_load_box _ rfl (by rfl) (b := w.heap.size) (off := 0) (n := 18) rfl H_4 Tryd.underlying34 (by kernel_rfl) (Nat.le_of_ble_eq_true rfl) (portC d A) rfl ?_
           skip))
      refine (portCopy_any d A w_1 (hm.below B_3) (by omega) (by omega) hY).mono ?_
      rintro e w_6 ⟨⟨ax, cx, ay, cy⟩, rfl, Ox, Oy, Ap, b_7⟩
      have zw_6 := b_7.size
      have B_8 := B_3.trans (b_7.mono B_3.size)
      have H_9 := (b_7.block _ (box_lt H_4)).trans H_4
      have H_10 := (b_7.block _ (box_lt H_5)).trans H_5
      clear Ap
      dsimp only at Ox Oy
      go_wp2_with (first
        | (refine wpList_store_any _ rfl rfl (by rfl) (b := w.heap.size) (off := 0) (n := 18) rfl rfl (vs := portC d ⟨ax, cx, ay, cy⟩) rfl H_9 (by kernel_rfl) rfl rfl (Nat.le_of_ble_eq_true rfl) (portC d ⟨ax, cx, ay, cy⟩) rfl ?_
           intro w_11 H_12 g_13
           have zw_11 := g_13.size
           have B_14 := below_only B_8 g_13 (by omega)
           have H_15 := box_only' H_10 g_13 (by omega)
           have o_16 := own_ty Ox H_9 (by decide) g_13
           have o_17 := own_ty Oy H_9 (by decide) g_13
           skip)
        | (refine wpList_load_box _ rfl (by rfl) (b := w.heap.size) (off := 10) (n := 4) rfl H_12 Tryd.underlying30 (by kernel_rfl) (Nat.le_of_ble_eq_true rfl) (#[.int .i64 d.sr, .slice ay d.ys.length cy, .int .i64 d.sh, .int .i64 d.sl]) rfl ?_
           skip))
      refine (sput_at hSR (implSendPut_any d.sr ay d.ys cy d.sh d.sl v w_11 (own_cells o_17) (by omega))).mono ?_
      rintro e w_18 ⟨a2, c2, rfl, o2, b_19⟩
      have zw_18 := b_19.size
      have B_20 := B_14.trans (b_19.mono B_14.size)
      have H_21 := (b_19.block _ (box_lt H_12)).trans H_12
      have H_22 := (b_19.block _ (box_lt H_15)).trans H_15
      have o_23 := own_below o_16 b_19
      have o_24 := own_below o_17 b_19
      go_wp2_with (first
        | (refine wpList_store_any _ rfl rfl (by rfl) (b := w.heap.size) (off := 10) (n := 4) rfl rfl (vs := #[.int .i64 0, .slice a2 0 c2, .int .i64 0, .int .i64 0]) rfl H_21 (by kernel_rfl) rfl rfl (Nat.le_of_ble_eq_true rfl) (portC { d with sr := 0, ys := [], sh := 0, sl := 0 } ⟨ax, cx, a2, c2⟩) rfl ?_
           intro w_25 H_26 g_27
           have zw_25 := g_27.size
           have B_28 := below_only B_20 g_27 (by omega)
           have H_29 := box_only' H_22 g_27 (by omega)
           have o_30 := own_ty o_23 H_21 (by decide) g_27
           have o_31 := own_ty o2 H_21 (by decide) g_27
           skip)
        | (refine wpList_store_any _ rfl rfl (by rfl) (b := w.heap.size + 1) (off := 0) (n := 18) rfl rfl (vs := (portC zPort zPortA)) rfl H_29 (by kernel_rfl) rfl rfl (Nat.le_of_ble_eq_true rfl) ((portC zPort zPortA)) rfl ?_
           intro w_32 H_33 g_34
           have zw_32 := g_34.size
           have B_35 := below_only B_28 g_34 (by omega)
           have H_36 := box_only' H_26 g_34 (by omega)
           have o_37 := own_ty o_30 H_29 (by decide) g_34
           have o_38 := own_ty o_31 H_29 (by decide) g_34
           skip))
      refine bodyPost_ret (results_cell2 Tryd.results7 rfl rfl (load_box (P := Tryd.prog) H_33 Tryd.underlying34 (by kernel_rfl) rfl)) rfl ?_
      rw [HR.out]
      exact ⟨zPortA, rfl, zRowG _ _, zRowI _ _, B_35⟩
    · have hwr : wrote d 0 v = some { d with ys := d.ys ++ [v] } := by simp [wrote, hs]
      cases hv2 : portB { d with ys := d.ys ++ [v] }
      · have HR := Lib.hid (writeR_bad hwr hv2)
        have hSR := sputR_yes hs
        obtain ⟨YS, hYS⟩ : ∃ YS, YS = d.ys ++ [v] := ⟨_, rfl⟩
        have hYL : YS.length = d.ys.length + 1 := by rw [hYS]; simp
        have hYa := Nat.le_of_eq hYL
        clear hYL
        have HYS := Lib.hid hYS
        rw [← hYS] at hSR hv2
        clear hYS
        have b0 : Below w.heap.size w ((w.alloc (.cells (portC d A) 34)).alloc (.cells (portC zPort zPortA) 34)) := ((Below.refl _ _).alloc (Nat.le_refl _) _).alloc (by simp) _
        have H0 := box_alloc (heap_new_at w (.cells (portC d A) 34) _ rfl) (.cells (portC zPort zPortA) 34)
        have G0 := heap_new_at (w.alloc (.cells (portC d A) 34)) (.cells (portC zPort zPortA) 34) (w.heap.size + 1) (by simp)
        go_enter Tryd.func7, Tryd.ntmps7
        go_wp2_with (first
          | (refine wpList_load_box _ rfl (by rfl) (b := w.heap.size) (off := 0) (n := 18) rfl H0 Tryd.underlying34 (by kernel_rfl) (Nat.le_of_ble_eq_true rfl) (portC d A) rfl ?_))
        refine name_calls fun W hW => ?_
        have bW : Below w.heap.size w W := by rw [hW]; exact b0
        have h1 : W.heap[w.heap.size]? = some (.cells (portC d A) 34 (0, 0)) := by rw [hW]; exact H0
        have h2 : W.heap[w.heap.size + 1]? = some (.cells (portC zPort zPortA) 34 (0, 0)) := by rw [hW]; exact G0
        have zW : w.heap.size + 2 ≤ W.heap.size := by rw [hW]; simp
        clear hW b0 H0 G0
        refine (implPortValid_any d A W (hm.below bW) lg ly).mono ?_
        rintro e w_1 ⟨rfl, b_2⟩
        have zw_1 := b_2.size
        have B_3 := bW.trans (b_2.mono bW.size)
        have H_4 := (b_2.block _ (box_lt h1)).trans h1
        have H_5 := (b_2.block _ (box_lt h2)).trans h2
        go_wp2_with (first
          | (refine wpList_load_box _ rfl (by rfl) (b := w.heap.size) (off := 0) (n := 18) rfl H_4 Tryd.underlying34 (by kernel_rfl) (Nat.le_of_ble_eq_true rfl) (portC d A) rfl ?_
             skip))
        refine (portCopy_any d A w_1 (hm.below B_3) (by omega) (by omega) hY).mono ?_
        rintro e w_6 ⟨⟨ax, cx, ay, cy⟩, rfl, Ox, Oy, Ap, b_7⟩
        have zw_6 := b_7.size
        have B_8 := B_3.trans (b_7.mono B_3.size)
        have H_9 := (b_7.block _ (box_lt H_4)).trans H_4
        have H_10 := (b_7.block _ (box_lt H_5)).trans H_5
        clear Ap
        dsimp only at Ox Oy
        go_wp2_with (first
          | (refine wpList_store_any _ rfl rfl (by rfl) (b := w.heap.size) (off := 0) (n := 18) rfl rfl (vs := portC d ⟨ax, cx, ay, cy⟩) rfl H_9 (by kernel_rfl) rfl rfl (Nat.le_of_ble_eq_true rfl) (portC d ⟨ax, cx, ay, cy⟩) rfl ?_
             intro w_11 H_12 g_13
             have zw_11 := g_13.size
             have B_14 := below_only B_8 g_13 (by omega)
             have H_15 := box_only' H_10 g_13 (by omega)
             have o_16 := own_ty Ox H_9 (by decide) g_13
             have o_17 := own_ty Oy H_9 (by decide) g_13
             skip)
          | (refine wpList_load_box _ rfl (by rfl) (b := w.heap.size) (off := 10) (n := 4) rfl H_12 Tryd.underlying30 (by kernel_rfl) (Nat.le_of_ble_eq_true rfl) (#[.int .i64 d.sr, .slice ay d.ys.length cy, .int .i64 d.sh, .int .i64 d.sl]) rfl ?_
             skip))
        refine (sput_at hSR (implSendPut_any d.sr ay d.ys cy d.sh d.sl v w_11 (own_cells o_17) (by omega))).mono ?_
        rintro e w_18 ⟨a2, c2, rfl, o2, b_19⟩
        have zw_18 := b_19.size
        have B_20 := B_14.trans (b_19.mono B_14.size)
        have H_21 := (b_19.block _ (box_lt H_12)).trans H_12
        have H_22 := (b_19.block _ (box_lt H_15)).trans H_15
        have o_23 := own_below o_16 b_19
        have o_24 := own_below o_17 b_19
        go_wp2_with (first
          | (refine wpList_store_any _ rfl rfl (by rfl) (b := w.heap.size) (off := 10) (n := 4) rfl rfl (vs := #[.int .i64 d.sr, .slice a2 YS.length c2, .int .i64 d.sh, .int .i64 d.sl]) rfl H_21 (by kernel_rfl) rfl rfl (Nat.le_of_ble_eq_true rfl) (portC { d with ys := YS } ⟨ax, cx, a2, c2⟩) rfl ?_
             intro w_25 H_26 g_27
             have zw_25 := g_27.size
             have B_28 := below_only B_20 g_27 (by omega)
             have H_29 := box_only' H_22 g_27 (by omega)
             have o_30 := own_ty o_23 H_21 (by decide) g_27
             have o_31 := own_ty o2 H_21 (by decide) g_27
             skip)
          | (refine wpList_load_box _ rfl (by rfl) (b := w.heap.size) (off := 0) (n := 18) rfl H_26 Tryd.underlying34 (by kernel_rfl) (Nat.le_of_ble_eq_true rfl) (portC { d with ys := YS } ⟨ax, cx, a2, c2⟩) rfl ?_
             skip))
        refine (implPortValid_any { d with ys := YS } ⟨ax, cx, a2, c2⟩ w_25 ⟨own_cells o_30, own_cells o_31⟩ (by dsimp only; omega) (by dsimp only; omega)).mono ?_
        rintro e w_32 ⟨rfl, b_33⟩
        have zw_32 := b_33.size
        have B_34 := B_28.trans (b_33.mono B_28.size)
        have H_35 := (b_33.block _ (box_lt H_26)).trans H_26
        have H_36 := (b_33.block _ (box_lt H_29)).trans H_29
        have o_37 := own_below o_30 b_33
        have o_38 := own_below o_31 b_33
        go_wp2_with (first
          | (refine wpList_store_any _ rfl rfl (by rfl) (b := w.heap.size + 1) (off := 0) (n := 18) rfl rfl (vs := (portC zPort zPortA)) rfl H_36 (by kernel_rfl) rfl rfl (Nat.le_of_ble_eq_true rfl) ((portC zPort zPortA)) rfl ?_
             intro w_39 H_40 g_41
             have zw_39 := g_41.size
             have B_42 := below_only B_34 g_41 (by omega)
             have H_43 := box_only' H_35 g_41 (by omega)
             have o_44 := own_ty o_37 H_36 (by decide) g_41
             have o_45 := own_ty o_38 H_36 (by decide) g_41
             skip))
        refine bodyPost_ret (results_cell2 Tryd.results7 rfl rfl (load_box (P := Tryd.prog) H_40 Tryd.underlying34 (by kernel_rfl) rfl)) rfl ?_
        rw [HR.out]
        exact ⟨zPortA, rfl, zRowG _ _, zRowI _ _, B_42⟩
      · have HR := Lib.hid (writeR_good hv hwr hv2)
        have hSR := sputR_yes hs
        obtain ⟨YS, hYS⟩ : ∃ YS, YS = d.ys ++ [v] := ⟨_, rfl⟩
        have hYL : YS.length = d.ys.length + 1 := by rw [hYS]; simp
        have hYa := Nat.le_of_eq hYL
        clear hYL
        have HYS := Lib.hid hYS
        rw [← hYS] at hSR hv2; replace HR := Lib.hid HR.out; rw [← hYS] at HR
        clear hYS
        have b0 : Below w.heap.size w ((w.alloc (.cells (portC d A) 34)).alloc (.cells (portC zPort zPortA) 34)) := ((Below.refl _ _).alloc (Nat.le_refl _) _).alloc (by simp) _
        have H0 := box_alloc (heap_new_at w (.cells (portC d A) 34) _ rfl) (.cells (portC zPort zPortA) 34)
        have G0 := heap_new_at (w.alloc (.cells (portC d A) 34)) (.cells (portC zPort zPortA) 34) (w.heap.size + 1) (by simp)
        go_enter Tryd.func7, Tryd.ntmps7
        go_wp2_with (first
          | (refine wpList_load_box _ rfl (by rfl) (b := w.heap.size) (off := 0) (n := 18) rfl H0 Tryd.underlying34 (by kernel_rfl) (Nat.le_of_ble_eq_true rfl) (portC d A) rfl ?_))
        refine name_calls fun W hW => ?_
        have bW : Below w.heap.size w W := by rw [hW]; exact b0
        have h1 : W.heap[w.heap.size]? = some (.cells (portC d A) 34 (0, 0)) := by rw [hW]; exact H0
        have h2 : W.heap[w.heap.size + 1]? = some (.cells (portC zPort zPortA) 34 (0, 0)) := by rw [hW]; exact G0
        have zW : w.heap.size + 2 ≤ W.heap.size := by rw [hW]; simp
        clear hW b0 H0 G0
        refine (implPortValid_any d A W (hm.below bW) lg ly).mono ?_
        rintro e w_1 ⟨rfl, b_2⟩
        have zw_1 := b_2.size
        have B_3 := bW.trans (b_2.mono bW.size)
        have H_4 := (b_2.block _ (box_lt h1)).trans h1
        have H_5 := (b_2.block _ (box_lt h2)).trans h2
        go_wp2_with (first
          | (refine wpList_load_box _ rfl (by rfl) (b := w.heap.size) (off := 0) (n := 18) rfl H_4 Tryd.underlying34 (by kernel_rfl) (Nat.le_of_ble_eq_true rfl) (portC d A) rfl ?_
             skip))
        refine (portCopy_any d A w_1 (hm.below B_3) (by omega) (by omega) hY).mono ?_
        rintro e w_6 ⟨⟨ax, cx, ay, cy⟩, rfl, Ox, Oy, Ap, b_7⟩
        have zw_6 := b_7.size
        have B_8 := B_3.trans (b_7.mono B_3.size)
        have H_9 := (b_7.block _ (box_lt H_4)).trans H_4
        have H_10 := (b_7.block _ (box_lt H_5)).trans H_5
        clear Ap
        dsimp only at Ox Oy
        go_wp2_with (first
          | (refine wpList_store_any _ rfl rfl (by rfl) (b := w.heap.size) (off := 0) (n := 18) rfl rfl (vs := portC d ⟨ax, cx, ay, cy⟩) rfl H_9 (by kernel_rfl) rfl rfl (Nat.le_of_ble_eq_true rfl) (portC d ⟨ax, cx, ay, cy⟩) rfl ?_
             intro w_11 H_12 g_13
             have zw_11 := g_13.size
             have B_14 := below_only B_8 g_13 (by omega)
             have H_15 := box_only' H_10 g_13 (by omega)
             have o_16 := own_ty Ox H_9 (by decide) g_13
             have o_17 := own_ty Oy H_9 (by decide) g_13
             skip)
          | (refine wpList_load_box _ rfl (by rfl) (b := w.heap.size) (off := 10) (n := 4) rfl H_12 Tryd.underlying30 (by kernel_rfl) (Nat.le_of_ble_eq_true rfl) (#[.int .i64 d.sr, .slice ay d.ys.length cy, .int .i64 d.sh, .int .i64 d.sl]) rfl ?_
             skip))
        refine (sput_at hSR (implSendPut_any d.sr ay d.ys cy d.sh d.sl v w_11 (own_cells o_17) (by omega))).mono ?_
        rintro e w_18 ⟨a2, c2, rfl, o2, b_19⟩
        have zw_18 := b_19.size
        have B_20 := B_14.trans (b_19.mono B_14.size)
        have H_21 := (b_19.block _ (box_lt H_12)).trans H_12
        have H_22 := (b_19.block _ (box_lt H_15)).trans H_15
        have o_23 := own_below o_16 b_19
        have o_24 := own_below o_17 b_19
        go_wp2_with (first
          | (refine wpList_store_any _ rfl rfl (by rfl) (b := w.heap.size) (off := 10) (n := 4) rfl rfl (vs := #[.int .i64 d.sr, .slice a2 YS.length c2, .int .i64 d.sh, .int .i64 d.sl]) rfl H_21 (by kernel_rfl) rfl rfl (Nat.le_of_ble_eq_true rfl) (portC { d with ys := YS } ⟨ax, cx, a2, c2⟩) rfl ?_
             intro w_25 H_26 g_27
             have zw_25 := g_27.size
             have B_28 := below_only B_20 g_27 (by omega)
             have H_29 := box_only' H_22 g_27 (by omega)
             have o_30 := own_ty o_23 H_21 (by decide) g_27
             have o_31 := own_ty o2 H_21 (by decide) g_27
             skip)
          | (refine wpList_load_box _ rfl (by rfl) (b := w.heap.size) (off := 0) (n := 18) rfl H_26 Tryd.underlying34 (by kernel_rfl) (Nat.le_of_ble_eq_true rfl) (portC { d with ys := YS } ⟨ax, cx, a2, c2⟩) rfl ?_
             skip))
        refine (implPortValid_any { d with ys := YS } ⟨ax, cx, a2, c2⟩ w_25 ⟨own_cells o_30, own_cells o_31⟩ (by dsimp only; omega) (by dsimp only; omega)).mono ?_
        rintro e w_32 ⟨rfl, b_33⟩
        have zw_32 := b_33.size
        have B_34 := B_28.trans (b_33.mono B_28.size)
        have H_35 := (b_33.block _ (box_lt H_26)).trans H_26
        have H_36 := (b_33.block _ (box_lt H_29)).trans H_29
        have o_37 := own_below o_30 b_33
        have o_38 := own_below o_31 b_33
        go_wp2_with (first
          | (refine wpList_load_box _ rfl (by rfl) (b := w.heap.size) (off := 0) (n := 18) rfl H_35 Tryd.underlying34 (by kernel_rfl) (Nat.le_of_ble_eq_true rfl) (portC { d with ys := YS } ⟨ax, cx, a2, c2⟩) rfl ?_
             skip)
          | (refine wpList_store_any _ rfl rfl (by rfl) (b := w.heap.size + 1) (off := 0) (n := 18) rfl rfl (vs := portC { d with ys := YS } ⟨ax, cx, a2, c2⟩) rfl H_36 (by kernel_rfl) rfl rfl (Nat.le_of_ble_eq_true rfl) (portC { d with ys := YS } ⟨ax, cx, a2, c2⟩) rfl ?_
             intro w_39 H_40 g_41
             have zw_39 := g_41.size
             have B_42 := below_only B_34 g_41 (by omega)
             have H_43 := box_only' H_35 g_41 (by omega)
             have o_44 := own_ty o_37 H_36 (by decide) g_41
             have o_45 := own_ty o_38 H_36 (by decide) g_41
             skip))
        refine bodyPost_ret (results_cell2 (u := .bool true) Tryd.results7 rfl rfl (load_box (P := Tryd.prog) H_40 Tryd.underlying34 (by kernel_rfl) rfl)) rfl ?_
        rw [HR.out]
        exact ⟨⟨ax, cx, a2, c2⟩, rfl, own_base o_44 (by omega), own_base o_45 (by omega), B_42⟩
  by_cases r1 : reg = 1
  · subst r1
    have hwr : wrote d 1 v = some { d with en := v } := by simp [wrote]
    cases hv2 : portB { d with en := v }
    · have HR := Lib.hid (writeR_bad hwr hv2)
      have b0 : Below w.heap.size w ((w.alloc (.cells (portC d A) 34)).alloc (.cells (portC zPort zPortA) 34)) := ((Below.refl _ _).alloc (Nat.le_refl _) _).alloc (by simp) _
      have H0 := box_alloc (heap_new_at w (.cells (portC d A) 34) _ rfl) (.cells (portC zPort zPortA) 34)
      have G0 := heap_new_at (w.alloc (.cells (portC d A) 34)) (.cells (portC zPort zPortA) 34) (w.heap.size + 1) (by simp)
      go_enter Tryd.func7, Tryd.ntmps7
      go_wp2_with (first
        | (refine wpList_load_box _ rfl (by rfl) (b := w.heap.size) (off := 0) (n := 18) rfl H0 Tryd.underlying34 (by kernel_rfl) (Nat.le_of_ble_eq_true rfl) (portC d A) rfl ?_))
      refine name_calls fun W hW => ?_
      have bW : Below w.heap.size w W := by rw [hW]; exact b0
      have h1 : W.heap[w.heap.size]? = some (.cells (portC d A) 34 (0, 0)) := by rw [hW]; exact H0
      have h2 : W.heap[w.heap.size + 1]? = some (.cells (portC zPort zPortA) 34 (0, 0)) := by rw [hW]; exact G0
      have zW : w.heap.size + 2 ≤ W.heap.size := by rw [hW]; simp
      clear hW b0 H0 G0
      refine (implPortValid_any d A W (hm.below bW) lg ly).mono ?_
      rintro e w_1 ⟨rfl, b_2⟩
      have zw_1 := b_2.size
      have B_3 := bW.trans (b_2.mono bW.size)
      have H_4 := (b_2.block _ (box_lt h1)).trans h1
      have H_5 := (b_2.block _ (box_lt h2)).trans h2
      go_wp2_with (first
        | (refine wpList_load_box _ rfl (by rfl) (b := w.heap.size) (off := 0) (n := 18) rfl H_4 Tryd.underlying34 (by kernel_rfl) (Nat.le_of_ble_eq_true rfl) (portC d A) rfl ?_
           skip))
      refine (portCopy_any d A w_1 (hm.below B_3) (by omega) (by omega) hY).mono ?_
      rintro e w_6 ⟨⟨ax, cx, ay, cy⟩, rfl, Ox, Oy, Ap, b_7⟩
      have zw_6 := b_7.size
      have B_8 := B_3.trans (b_7.mono B_3.size)
      have H_9 := (b_7.block _ (box_lt H_4)).trans H_4
      have H_10 := (b_7.block _ (box_lt H_5)).trans H_5
      clear Ap
      dsimp only at Ox Oy
      go_wp2_with (first
        | (refine wpList_store_any _ rfl rfl (by rfl) (b := w.heap.size) (off := 0) (n := 18) rfl rfl (vs := portC d ⟨ax, cx, ay, cy⟩) rfl H_9 (by kernel_rfl) rfl rfl (Nat.le_of_ble_eq_true rfl) (portC d ⟨ax, cx, ay, cy⟩) rfl ?_
           intro w_11 H_12 g_13
           have zw_11 := g_13.size
           have B_14 := below_only B_8 g_13 (by omega)
           have H_15 := box_only' H_10 g_13 (by omega)
           have o_16 := own_ty Ox H_9 (by decide) g_13
           have o_17 := own_ty Oy H_9 (by decide) g_13
           skip)
        | (refine wpList_store_any _ rfl rfl (by rfl) (b := w.heap.size) (off := 3) (n := 1) rfl rfl (vs := #[.int .i64 v]) rfl H_12 (by kernel_rfl) rfl rfl (Nat.le_of_ble_eq_true rfl) (portC { d with en := v } ⟨ax, cx, ay, cy⟩) rfl ?_
           intro w_18 H_19 g_20
           have zw_18 := g_20.size
           have B_21 := below_only B_14 g_20 (by omega)
           have H_22 := box_only' H_15 g_20 (by omega)
           have o_23 := own_ty o_16 H_12 (by decide) g_20
           have o_24 := own_ty o_17 H_12 (by decide) g_20
           skip)
        | (refine wpList_load_box _ rfl (by rfl) (b := w.heap.size) (off := 0) (n := 18) rfl H_19 Tryd.underlying34 (by kernel_rfl) (Nat.le_of_ble_eq_true rfl) (portC { d with en := v } ⟨ax, cx, ay, cy⟩) rfl ?_
           skip))
      refine (implPortValid_any { d with en := v } ⟨ax, cx, ay, cy⟩ w_18 ⟨own_cells o_23, own_cells o_24⟩ (by dsimp only; omega) (by dsimp only; omega)).mono ?_
      rintro e w_25 ⟨rfl, b_26⟩
      have zw_25 := b_26.size
      have B_27 := B_21.trans (b_26.mono B_21.size)
      have H_28 := (b_26.block _ (box_lt H_19)).trans H_19
      have H_29 := (b_26.block _ (box_lt H_22)).trans H_22
      have o_30 := own_below o_23 b_26
      have o_31 := own_below o_24 b_26
      go_wp2_with (first
        | (refine wpList_store_any _ rfl rfl (by rfl) (b := w.heap.size + 1) (off := 0) (n := 18) rfl rfl (vs := (portC zPort zPortA)) rfl H_29 (by kernel_rfl) rfl rfl (Nat.le_of_ble_eq_true rfl) ((portC zPort zPortA)) rfl ?_
           intro w_32 H_33 g_34
           have zw_32 := g_34.size
           have B_35 := below_only B_27 g_34 (by omega)
           have H_36 := box_only' H_28 g_34 (by omega)
           have o_37 := own_ty o_30 H_29 (by decide) g_34
           have o_38 := own_ty o_31 H_29 (by decide) g_34
           skip))
      refine bodyPost_ret (results_cell2 Tryd.results7 rfl rfl (load_box (P := Tryd.prog) H_33 Tryd.underlying34 (by kernel_rfl) rfl)) rfl ?_
      rw [HR.out]
      exact ⟨zPortA, rfl, zRowG _ _, zRowI _ _, B_35⟩
    · have HR := Lib.hid (writeR_good hv hwr hv2)
      have b0 : Below w.heap.size w ((w.alloc (.cells (portC d A) 34)).alloc (.cells (portC zPort zPortA) 34)) := ((Below.refl _ _).alloc (Nat.le_refl _) _).alloc (by simp) _
      have H0 := box_alloc (heap_new_at w (.cells (portC d A) 34) _ rfl) (.cells (portC zPort zPortA) 34)
      have G0 := heap_new_at (w.alloc (.cells (portC d A) 34)) (.cells (portC zPort zPortA) 34) (w.heap.size + 1) (by simp)
      go_enter Tryd.func7, Tryd.ntmps7
      go_wp2_with (first
        | (refine wpList_load_box _ rfl (by rfl) (b := w.heap.size) (off := 0) (n := 18) rfl H0 Tryd.underlying34 (by kernel_rfl) (Nat.le_of_ble_eq_true rfl) (portC d A) rfl ?_))
      refine name_calls fun W hW => ?_
      have bW : Below w.heap.size w W := by rw [hW]; exact b0
      have h1 : W.heap[w.heap.size]? = some (.cells (portC d A) 34 (0, 0)) := by rw [hW]; exact H0
      have h2 : W.heap[w.heap.size + 1]? = some (.cells (portC zPort zPortA) 34 (0, 0)) := by rw [hW]; exact G0
      have zW : w.heap.size + 2 ≤ W.heap.size := by rw [hW]; simp
      clear hW b0 H0 G0
      refine (implPortValid_any d A W (hm.below bW) lg ly).mono ?_
      rintro e w_1 ⟨rfl, b_2⟩
      have zw_1 := b_2.size
      have B_3 := bW.trans (b_2.mono bW.size)
      have H_4 := (b_2.block _ (box_lt h1)).trans h1
      have H_5 := (b_2.block _ (box_lt h2)).trans h2
      go_wp2_with (first
        | (refine wpList_load_box _ rfl (by rfl) (b := w.heap.size) (off := 0) (n := 18) rfl H_4 Tryd.underlying34 (by kernel_rfl) (Nat.le_of_ble_eq_true rfl) (portC d A) rfl ?_
           skip))
      refine (portCopy_any d A w_1 (hm.below B_3) (by omega) (by omega) hY).mono ?_
      rintro e w_6 ⟨⟨ax, cx, ay, cy⟩, rfl, Ox, Oy, Ap, b_7⟩
      have zw_6 := b_7.size
      have B_8 := B_3.trans (b_7.mono B_3.size)
      have H_9 := (b_7.block _ (box_lt H_4)).trans H_4
      have H_10 := (b_7.block _ (box_lt H_5)).trans H_5
      clear Ap
      dsimp only at Ox Oy
      go_wp2_with (first
        | (refine wpList_store_any _ rfl rfl (by rfl) (b := w.heap.size) (off := 0) (n := 18) rfl rfl (vs := portC d ⟨ax, cx, ay, cy⟩) rfl H_9 (by kernel_rfl) rfl rfl (Nat.le_of_ble_eq_true rfl) (portC d ⟨ax, cx, ay, cy⟩) rfl ?_
           intro w_11 H_12 g_13
           have zw_11 := g_13.size
           have B_14 := below_only B_8 g_13 (by omega)
           have H_15 := box_only' H_10 g_13 (by omega)
           have o_16 := own_ty Ox H_9 (by decide) g_13
           have o_17 := own_ty Oy H_9 (by decide) g_13
           skip)
        | (refine wpList_store_any _ rfl rfl (by rfl) (b := w.heap.size) (off := 3) (n := 1) rfl rfl (vs := #[.int .i64 v]) rfl H_12 (by kernel_rfl) rfl rfl (Nat.le_of_ble_eq_true rfl) (portC { d with en := v } ⟨ax, cx, ay, cy⟩) rfl ?_
           intro w_18 H_19 g_20
           have zw_18 := g_20.size
           have B_21 := below_only B_14 g_20 (by omega)
           have H_22 := box_only' H_15 g_20 (by omega)
           have o_23 := own_ty o_16 H_12 (by decide) g_20
           have o_24 := own_ty o_17 H_12 (by decide) g_20
           skip)
        | (refine wpList_load_box _ rfl (by rfl) (b := w.heap.size) (off := 0) (n := 18) rfl H_19 Tryd.underlying34 (by kernel_rfl) (Nat.le_of_ble_eq_true rfl) (portC { d with en := v } ⟨ax, cx, ay, cy⟩) rfl ?_
           skip))
      refine (implPortValid_any { d with en := v } ⟨ax, cx, ay, cy⟩ w_18 ⟨own_cells o_23, own_cells o_24⟩ (by dsimp only; omega) (by dsimp only; omega)).mono ?_
      rintro e w_25 ⟨rfl, b_26⟩
      have zw_25 := b_26.size
      have B_27 := B_21.trans (b_26.mono B_21.size)
      have H_28 := (b_26.block _ (box_lt H_19)).trans H_19
      have H_29 := (b_26.block _ (box_lt H_22)).trans H_22
      have o_30 := own_below o_23 b_26
      have o_31 := own_below o_24 b_26
      go_wp2_with (first
        | (refine wpList_load_box _ rfl (by rfl) (b := w.heap.size) (off := 0) (n := 18) rfl H_28 Tryd.underlying34 (by kernel_rfl) (Nat.le_of_ble_eq_true rfl) (portC { d with en := v } ⟨ax, cx, ay, cy⟩) rfl ?_
           skip)
        | (refine wpList_store_any _ rfl rfl (by rfl) (b := w.heap.size + 1) (off := 0) (n := 18) rfl rfl (vs := portC { d with en := v } ⟨ax, cx, ay, cy⟩) rfl H_29 (by kernel_rfl) rfl rfl (Nat.le_of_ble_eq_true rfl) (portC { d with en := v } ⟨ax, cx, ay, cy⟩) rfl ?_
           intro w_32 H_33 g_34
           have zw_32 := g_34.size
           have B_35 := below_only B_27 g_34 (by omega)
           have H_36 := box_only' H_28 g_34 (by omega)
           have o_37 := own_ty o_30 H_29 (by decide) g_34
           have o_38 := own_ty o_31 H_29 (by decide) g_34
           skip))
      refine bodyPost_ret (results_cell2 (u := .bool true) Tryd.results7 rfl rfl (load_box (P := Tryd.prog) H_33 Tryd.underlying34 (by kernel_rfl) rfl)) rfl ?_
      rw [HR.out]
      exact ⟨⟨ax, cx, ay, cy⟩, rfl, own_base o_37 (by omega), own_base o_38 (by omega), B_35⟩
  by_cases r4 : reg = 4
  · subst r4
    have hwr : wrote d 4 v = some { d with co := v } := by simp [wrote]
    cases hv2 : portB { d with co := v }
    · have HR := Lib.hid (writeR_bad hwr hv2)
      have b0 : Below w.heap.size w ((w.alloc (.cells (portC d A) 34)).alloc (.cells (portC zPort zPortA) 34)) := ((Below.refl _ _).alloc (Nat.le_refl _) _).alloc (by simp) _
      have H0 := box_alloc (heap_new_at w (.cells (portC d A) 34) _ rfl) (.cells (portC zPort zPortA) 34)
      have G0 := heap_new_at (w.alloc (.cells (portC d A) 34)) (.cells (portC zPort zPortA) 34) (w.heap.size + 1) (by simp)
      go_enter Tryd.func7, Tryd.ntmps7
      go_wp2_with (first
        | (refine wpList_load_box _ rfl (by rfl) (b := w.heap.size) (off := 0) (n := 18) rfl H0 Tryd.underlying34 (by kernel_rfl) (Nat.le_of_ble_eq_true rfl) (portC d A) rfl ?_))
      refine name_calls fun W hW => ?_
      have bW : Below w.heap.size w W := by rw [hW]; exact b0
      have h1 : W.heap[w.heap.size]? = some (.cells (portC d A) 34 (0, 0)) := by rw [hW]; exact H0
      have h2 : W.heap[w.heap.size + 1]? = some (.cells (portC zPort zPortA) 34 (0, 0)) := by rw [hW]; exact G0
      have zW : w.heap.size + 2 ≤ W.heap.size := by rw [hW]; simp
      clear hW b0 H0 G0
      refine (implPortValid_any d A W (hm.below bW) lg ly).mono ?_
      rintro e w_1 ⟨rfl, b_2⟩
      have zw_1 := b_2.size
      have B_3 := bW.trans (b_2.mono bW.size)
      have H_4 := (b_2.block _ (box_lt h1)).trans h1
      have H_5 := (b_2.block _ (box_lt h2)).trans h2
      go_wp2_with (first
        | (refine wpList_load_box _ rfl (by rfl) (b := w.heap.size) (off := 0) (n := 18) rfl H_4 Tryd.underlying34 (by kernel_rfl) (Nat.le_of_ble_eq_true rfl) (portC d A) rfl ?_
           skip))
      refine (portCopy_any d A w_1 (hm.below B_3) (by omega) (by omega) hY).mono ?_
      rintro e w_6 ⟨⟨ax, cx, ay, cy⟩, rfl, Ox, Oy, Ap, b_7⟩
      have zw_6 := b_7.size
      have B_8 := B_3.trans (b_7.mono B_3.size)
      have H_9 := (b_7.block _ (box_lt H_4)).trans H_4
      have H_10 := (b_7.block _ (box_lt H_5)).trans H_5
      clear Ap
      dsimp only at Ox Oy
      go_wp2_with (first
        | (refine wpList_store_any _ rfl rfl (by rfl) (b := w.heap.size) (off := 0) (n := 18) rfl rfl (vs := portC d ⟨ax, cx, ay, cy⟩) rfl H_9 (by kernel_rfl) rfl rfl (Nat.le_of_ble_eq_true rfl) (portC d ⟨ax, cx, ay, cy⟩) rfl ?_
           intro w_11 H_12 g_13
           have zw_11 := g_13.size
           have B_14 := below_only B_8 g_13 (by omega)
           have H_15 := box_only' H_10 g_13 (by omega)
           have o_16 := own_ty Ox H_9 (by decide) g_13
           have o_17 := own_ty Oy H_9 (by decide) g_13
           skip)
        | (refine wpList_store_any _ rfl rfl (by rfl) (b := w.heap.size) (off := 4) (n := 1) rfl rfl (vs := #[.int .i64 v]) rfl H_12 (by kernel_rfl) rfl rfl (Nat.le_of_ble_eq_true rfl) (portC { d with co := v } ⟨ax, cx, ay, cy⟩) rfl ?_
           intro w_18 H_19 g_20
           have zw_18 := g_20.size
           have B_21 := below_only B_14 g_20 (by omega)
           have H_22 := box_only' H_15 g_20 (by omega)
           have o_23 := own_ty o_16 H_12 (by decide) g_20
           have o_24 := own_ty o_17 H_12 (by decide) g_20
           skip)
        | (refine wpList_load_box _ rfl (by rfl) (b := w.heap.size) (off := 0) (n := 18) rfl H_19 Tryd.underlying34 (by kernel_rfl) (Nat.le_of_ble_eq_true rfl) (portC { d with co := v } ⟨ax, cx, ay, cy⟩) rfl ?_
           skip))
      refine (implPortValid_any { d with co := v } ⟨ax, cx, ay, cy⟩ w_18 ⟨own_cells o_23, own_cells o_24⟩ (by dsimp only; omega) (by dsimp only; omega)).mono ?_
      rintro e w_25 ⟨rfl, b_26⟩
      have zw_25 := b_26.size
      have B_27 := B_21.trans (b_26.mono B_21.size)
      have H_28 := (b_26.block _ (box_lt H_19)).trans H_19
      have H_29 := (b_26.block _ (box_lt H_22)).trans H_22
      have o_30 := own_below o_23 b_26
      have o_31 := own_below o_24 b_26
      go_wp2_with (first
        | (refine wpList_store_any _ rfl rfl (by rfl) (b := w.heap.size + 1) (off := 0) (n := 18) rfl rfl (vs := (portC zPort zPortA)) rfl H_29 (by kernel_rfl) rfl rfl (Nat.le_of_ble_eq_true rfl) ((portC zPort zPortA)) rfl ?_
           intro w_32 H_33 g_34
           have zw_32 := g_34.size
           have B_35 := below_only B_27 g_34 (by omega)
           have H_36 := box_only' H_28 g_34 (by omega)
           have o_37 := own_ty o_30 H_29 (by decide) g_34
           have o_38 := own_ty o_31 H_29 (by decide) g_34
           skip))
      refine bodyPost_ret (results_cell2 Tryd.results7 rfl rfl (load_box (P := Tryd.prog) H_33 Tryd.underlying34 (by kernel_rfl) rfl)) rfl ?_
      rw [HR.out]
      exact ⟨zPortA, rfl, zRowG _ _, zRowI _ _, B_35⟩
    · have HR := Lib.hid (writeR_good hv hwr hv2)
      have b0 : Below w.heap.size w ((w.alloc (.cells (portC d A) 34)).alloc (.cells (portC zPort zPortA) 34)) := ((Below.refl _ _).alloc (Nat.le_refl _) _).alloc (by simp) _
      have H0 := box_alloc (heap_new_at w (.cells (portC d A) 34) _ rfl) (.cells (portC zPort zPortA) 34)
      have G0 := heap_new_at (w.alloc (.cells (portC d A) 34)) (.cells (portC zPort zPortA) 34) (w.heap.size + 1) (by simp)
      go_enter Tryd.func7, Tryd.ntmps7
      go_wp2_with (first
        | (refine wpList_load_box _ rfl (by rfl) (b := w.heap.size) (off := 0) (n := 18) rfl H0 Tryd.underlying34 (by kernel_rfl) (Nat.le_of_ble_eq_true rfl) (portC d A) rfl ?_))
      refine name_calls fun W hW => ?_
      have bW : Below w.heap.size w W := by rw [hW]; exact b0
      have h1 : W.heap[w.heap.size]? = some (.cells (portC d A) 34 (0, 0)) := by rw [hW]; exact H0
      have h2 : W.heap[w.heap.size + 1]? = some (.cells (portC zPort zPortA) 34 (0, 0)) := by rw [hW]; exact G0
      have zW : w.heap.size + 2 ≤ W.heap.size := by rw [hW]; simp
      clear hW b0 H0 G0
      refine (implPortValid_any d A W (hm.below bW) lg ly).mono ?_
      rintro e w_1 ⟨rfl, b_2⟩
      have zw_1 := b_2.size
      have B_3 := bW.trans (b_2.mono bW.size)
      have H_4 := (b_2.block _ (box_lt h1)).trans h1
      have H_5 := (b_2.block _ (box_lt h2)).trans h2
      go_wp2_with (first
        | (refine wpList_load_box _ rfl (by rfl) (b := w.heap.size) (off := 0) (n := 18) rfl H_4 Tryd.underlying34 (by kernel_rfl) (Nat.le_of_ble_eq_true rfl) (portC d A) rfl ?_
           skip))
      refine (portCopy_any d A w_1 (hm.below B_3) (by omega) (by omega) hY).mono ?_
      rintro e w_6 ⟨⟨ax, cx, ay, cy⟩, rfl, Ox, Oy, Ap, b_7⟩
      have zw_6 := b_7.size
      have B_8 := B_3.trans (b_7.mono B_3.size)
      have H_9 := (b_7.block _ (box_lt H_4)).trans H_4
      have H_10 := (b_7.block _ (box_lt H_5)).trans H_5
      clear Ap
      dsimp only at Ox Oy
      go_wp2_with (first
        | (refine wpList_store_any _ rfl rfl (by rfl) (b := w.heap.size) (off := 0) (n := 18) rfl rfl (vs := portC d ⟨ax, cx, ay, cy⟩) rfl H_9 (by kernel_rfl) rfl rfl (Nat.le_of_ble_eq_true rfl) (portC d ⟨ax, cx, ay, cy⟩) rfl ?_
           intro w_11 H_12 g_13
           have zw_11 := g_13.size
           have B_14 := below_only B_8 g_13 (by omega)
           have H_15 := box_only' H_10 g_13 (by omega)
           have o_16 := own_ty Ox H_9 (by decide) g_13
           have o_17 := own_ty Oy H_9 (by decide) g_13
           skip)
        | (refine wpList_store_any _ rfl rfl (by rfl) (b := w.heap.size) (off := 4) (n := 1) rfl rfl (vs := #[.int .i64 v]) rfl H_12 (by kernel_rfl) rfl rfl (Nat.le_of_ble_eq_true rfl) (portC { d with co := v } ⟨ax, cx, ay, cy⟩) rfl ?_
           intro w_18 H_19 g_20
           have zw_18 := g_20.size
           have B_21 := below_only B_14 g_20 (by omega)
           have H_22 := box_only' H_15 g_20 (by omega)
           have o_23 := own_ty o_16 H_12 (by decide) g_20
           have o_24 := own_ty o_17 H_12 (by decide) g_20
           skip)
        | (refine wpList_load_box _ rfl (by rfl) (b := w.heap.size) (off := 0) (n := 18) rfl H_19 Tryd.underlying34 (by kernel_rfl) (Nat.le_of_ble_eq_true rfl) (portC { d with co := v } ⟨ax, cx, ay, cy⟩) rfl ?_
           skip))
      refine (implPortValid_any { d with co := v } ⟨ax, cx, ay, cy⟩ w_18 ⟨own_cells o_23, own_cells o_24⟩ (by dsimp only; omega) (by dsimp only; omega)).mono ?_
      rintro e w_25 ⟨rfl, b_26⟩
      have zw_25 := b_26.size
      have B_27 := B_21.trans (b_26.mono B_21.size)
      have H_28 := (b_26.block _ (box_lt H_19)).trans H_19
      have H_29 := (b_26.block _ (box_lt H_22)).trans H_22
      have o_30 := own_below o_23 b_26
      have o_31 := own_below o_24 b_26
      go_wp2_with (first
        | (refine wpList_load_box _ rfl (by rfl) (b := w.heap.size) (off := 0) (n := 18) rfl H_28 Tryd.underlying34 (by kernel_rfl) (Nat.le_of_ble_eq_true rfl) (portC { d with co := v } ⟨ax, cx, ay, cy⟩) rfl ?_
           skip)
        | (refine wpList_store_any _ rfl rfl (by rfl) (b := w.heap.size + 1) (off := 0) (n := 18) rfl rfl (vs := portC { d with co := v } ⟨ax, cx, ay, cy⟩) rfl H_29 (by kernel_rfl) rfl rfl (Nat.le_of_ble_eq_true rfl) (portC { d with co := v } ⟨ax, cx, ay, cy⟩) rfl ?_
           intro w_32 H_33 g_34
           have zw_32 := g_34.size
           have B_35 := below_only B_27 g_34 (by omega)
           have H_36 := box_only' H_28 g_34 (by omega)
           have o_37 := own_ty o_30 H_29 (by decide) g_34
           have o_38 := own_ty o_31 H_29 (by decide) g_34
           skip))
      refine bodyPost_ret (results_cell2 (u := .bool true) Tryd.results7 rfl rfl (load_box (P := Tryd.prog) H_33 Tryd.underlying34 (by kernel_rfl) rfl)) rfl ?_
      rw [HR.out]
      exact ⟨⟨ax, cx, ay, cy⟩, rfl, own_base o_37 (by omega), own_base o_38 (by omega), B_35⟩
  by_cases r3 : reg = 3
  · subst r3
    cases hs : fmtOk v
    · have HR := Lib.hid (writeR_none (d := d) (reg := 3) (v := v) (by simp [wrote, hs]))
      have hFR := fmtR_no hs
      have HF := Lib.hid (fun x (h : Sent x a) => implFormatOf_any v a x h)
      rw [hFR] at HF
      have b0 : Below w.heap.size w ((w.alloc (.cells (portC d A) 34)).alloc (.cells (portC zPort zPortA) 34)) := ((Below.refl _ _).alloc (Nat.le_refl _) _).alloc (by simp) _
      have H0 := box_alloc (heap_new_at w (.cells (portC d A) 34) _ rfl) (.cells (portC zPort zPortA) 34)
      have G0 := heap_new_at (w.alloc (.cells (portC d A) 34)) (.cells (portC zPort zPortA) 34) (w.heap.size + 1) (by simp)
      go_enter Tryd.func7, Tryd.ntmps7
      go_wp2_with (first
        | (refine wpList_load_box _ rfl (by rfl) (b := w.heap.size) (off := 0) (n := 18) rfl H0 Tryd.underlying34 (by kernel_rfl) (Nat.le_of_ble_eq_true rfl) (portC d A) rfl ?_))
      refine name_calls fun W hW => ?_
      have bW : Below w.heap.size w W := by rw [hW]; exact b0
      have h1 : W.heap[w.heap.size]? = some (.cells (portC d A) 34 (0, 0)) := by rw [hW]; exact H0
      have h2 : W.heap[w.heap.size + 1]? = some (.cells (portC zPort zPortA) 34 (0, 0)) := by rw [hW]; exact G0
      have zW : w.heap.size + 2 ≤ W.heap.size := by rw [hW]; simp
      clear hW b0 H0 G0
      refine (implPortValid_any d A W (hm.below bW) lg ly).mono ?_
      rintro e w_1 ⟨rfl, b_2⟩
      have zw_1 := b_2.size
      have B_3 := bW.trans (b_2.mono bW.size)
      have H_4 := (b_2.block _ (box_lt h1)).trans h1
      have H_5 := (b_2.block _ (box_lt h2)).trans h2
      go_wp2_with (first
        | (refine wpList_load_box _ rfl (by rfl) (b := w.heap.size) (off := 0) (n := 18) rfl H_4 Tryd.underlying34 (by kernel_rfl) (Nat.le_of_ble_eq_true rfl) (portC d A) rfl ?_
           skip))
      refine (portCopy_any d A w_1 (hm.below B_3) (by omega) (by omega) hY).mono ?_
      rintro e w_6 ⟨⟨ax, cx, ay, cy⟩, rfl, Ox, Oy, Ap, b_7⟩
      have zw_6 := b_7.size
      have B_8 := B_3.trans (b_7.mono B_3.size)
      have H_9 := (b_7.block _ (box_lt H_4)).trans H_4
      have H_10 := (b_7.block _ (box_lt H_5)).trans H_5
      clear Ap
      dsimp only at Ox Oy
      go_wp2_with (first
        | (refine wpList_store_any _ rfl rfl (by rfl) (b := w.heap.size) (off := 0) (n := 18) rfl rfl (vs := portC d ⟨ax, cx, ay, cy⟩) rfl H_9 (by kernel_rfl) rfl rfl (Nat.le_of_ble_eq_true rfl) (portC d ⟨ax, cx, ay, cy⟩) rfl ?_
           intro w_11 H_12 g_13
           have zw_11 := g_13.size
           have B_14 := below_only B_8 g_13 (by omega)
           have H_15 := box_only' H_10 g_13 (by omega)
           have o_16 := own_ty Ox H_9 (by decide) g_13
           have o_17 := own_ty Oy H_9 (by decide) g_13
           skip))
      refine (HF.out w_11 (hE.below B_14)).mono ?_
      rintro e w_18 ⟨rfl, b_19⟩
      have zw_18 := b_19.size
      have B_20 := B_14.trans (b_19.mono B_14.size)
      have H_21 := (b_19.block _ (box_lt H_12)).trans H_12
      have H_22 := (b_19.block _ (box_lt H_15)).trans H_15
      have o_23 := own_below o_16 b_19
      have o_24 := own_below o_17 b_19
      go_wp2_with (first
        | (refine wpList_store_any _ rfl rfl (by rfl) (b := w.heap.size) (off := 0) (n := 3) rfl rfl (vs := #[.int .i64 0, .int .i64 0, .int .i64 0]) rfl H_21 (by kernel_rfl) rfl rfl (Nat.le_of_ble_eq_true rfl) (portC { d with b := 0, p := 0, s := 0 } ⟨ax, cx, ay, cy⟩) rfl ?_
           intro w_25 H_26 g_27
           have zw_25 := g_27.size
           have B_28 := below_only B_20 g_27 (by omega)
           have H_29 := box_only' H_22 g_27 (by omega)
           have o_30 := own_ty o_23 H_21 (by decide) g_27
           have o_31 := own_ty o_24 H_21 (by decide) g_27
           skip)
        | (refine wpList_store_any _ rfl rfl (by rfl) (b := w.heap.size + 1) (off := 0) (n := 18) rfl rfl (vs := (portC zPort zPortA)) rfl H_29 (by kernel_rfl) rfl rfl (Nat.le_of_ble_eq_true rfl) ((portC zPort zPortA)) rfl ?_
           intro w_32 H_33 g_34
           have zw_32 := g_34.size
           have B_35 := below_only B_28 g_34 (by omega)
           have H_36 := box_only' H_26 g_34 (by omega)
           have o_37 := own_ty o_30 H_29 (by decide) g_34
           have o_38 := own_ty o_31 H_29 (by decide) g_34
           skip))
      refine bodyPost_ret (results_cell2 Tryd.results7 rfl rfl (load_box (P := Tryd.prog) H_33 Tryd.underlying34 (by kernel_rfl) rfl)) rfl ?_
      rw [HR.out]
      exact ⟨zPortA, rfl, zRowG _ _, zRowI _ _, B_35⟩
    · have hwr : wrote d 3 v = some { d with b := 5 + v % 4, p := fmtP v, s := 1 + v / 4 % 2 } := by simp [wrote, hs]
      cases hv2 : portB { d with b := 5 + v % 4, p := fmtP v, s := 1 + v / 4 % 2 }
      · have HR := Lib.hid (writeR_bad hwr hv2)
        have hFR := fmtR_yes hs
        have HF := Lib.hid (fun x (h : Sent x a) => implFormatOf_any v a x h)
        rw [hFR] at HF
        have b0 : Below w.heap.size w ((w.alloc (.cells (portC d A) 34)).alloc (.cells (portC zPort zPortA) 34)) := ((Below.refl _ _).alloc (Nat.le_refl _) _).alloc (by simp) _
        have H0 := box_alloc (heap_new_at w (.cells (portC d A) 34) _ rfl) (.cells (portC zPort zPortA) 34)
        have G0 := heap_new_at (w.alloc (.cells (portC d A) 34)) (.cells (portC zPort zPortA) 34) (w.heap.size + 1) (by simp)
        go_enter Tryd.func7, Tryd.ntmps7
        go_wp2_with (first
          | (refine wpList_load_box _ rfl (by rfl) (b := w.heap.size) (off := 0) (n := 18) rfl H0 Tryd.underlying34 (by kernel_rfl) (Nat.le_of_ble_eq_true rfl) (portC d A) rfl ?_))
        refine name_calls fun W hW => ?_
        have bW : Below w.heap.size w W := by rw [hW]; exact b0
        have h1 : W.heap[w.heap.size]? = some (.cells (portC d A) 34 (0, 0)) := by rw [hW]; exact H0
        have h2 : W.heap[w.heap.size + 1]? = some (.cells (portC zPort zPortA) 34 (0, 0)) := by rw [hW]; exact G0
        have zW : w.heap.size + 2 ≤ W.heap.size := by rw [hW]; simp
        clear hW b0 H0 G0
        refine (implPortValid_any d A W (hm.below bW) lg ly).mono ?_
        rintro e w_1 ⟨rfl, b_2⟩
        have zw_1 := b_2.size
        have B_3 := bW.trans (b_2.mono bW.size)
        have H_4 := (b_2.block _ (box_lt h1)).trans h1
        have H_5 := (b_2.block _ (box_lt h2)).trans h2
        go_wp2_with (first
          | (refine wpList_load_box _ rfl (by rfl) (b := w.heap.size) (off := 0) (n := 18) rfl H_4 Tryd.underlying34 (by kernel_rfl) (Nat.le_of_ble_eq_true rfl) (portC d A) rfl ?_
             skip))
        refine (portCopy_any d A w_1 (hm.below B_3) (by omega) (by omega) hY).mono ?_
        rintro e w_6 ⟨⟨ax, cx, ay, cy⟩, rfl, Ox, Oy, Ap, b_7⟩
        have zw_6 := b_7.size
        have B_8 := B_3.trans (b_7.mono B_3.size)
        have H_9 := (b_7.block _ (box_lt H_4)).trans H_4
        have H_10 := (b_7.block _ (box_lt H_5)).trans H_5
        clear Ap
        dsimp only at Ox Oy
        go_wp2_with (first
          | (refine wpList_store_any _ rfl rfl (by rfl) (b := w.heap.size) (off := 0) (n := 18) rfl rfl (vs := portC d ⟨ax, cx, ay, cy⟩) rfl H_9 (by kernel_rfl) rfl rfl (Nat.le_of_ble_eq_true rfl) (portC d ⟨ax, cx, ay, cy⟩) rfl ?_
             intro w_11 H_12 g_13
             have zw_11 := g_13.size
             have B_14 := below_only B_8 g_13 (by omega)
             have H_15 := box_only' H_10 g_13 (by omega)
             have o_16 := own_ty Ox H_9 (by decide) g_13
             have o_17 := own_ty Oy H_9 (by decide) g_13
             skip))
        refine (HF.out w_11 (hE.below B_14)).mono ?_
        rintro e w_18 ⟨rfl, b_19⟩
        have zw_18 := b_19.size
        have B_20 := B_14.trans (b_19.mono B_14.size)
        have H_21 := (b_19.block _ (box_lt H_12)).trans H_12
        have H_22 := (b_19.block _ (box_lt H_15)).trans H_15
        have o_23 := own_below o_16 b_19
        have o_24 := own_below o_17 b_19
        go_wp2_with (first
          | (refine wpList_store_any _ rfl rfl (by rfl) (b := w.heap.size) (off := 0) (n := 3) rfl rfl (vs := #[.int .i64 (5 + v % 4), .int .i64 (fmtP v), .int .i64 (1 + v / 4 % 2)]) rfl H_21 (by kernel_rfl) rfl rfl (Nat.le_of_ble_eq_true rfl) (portC { d with b := 5 + v % 4, p := fmtP v, s := 1 + v / 4 % 2 } ⟨ax, cx, ay, cy⟩) rfl ?_
             intro w_25 H_26 g_27
             have zw_25 := g_27.size
             have B_28 := below_only B_20 g_27 (by omega)
             have H_29 := box_only' H_22 g_27 (by omega)
             have o_30 := own_ty o_23 H_21 (by decide) g_27
             have o_31 := own_ty o_24 H_21 (by decide) g_27
             skip)
          | (refine wpList_load_box _ rfl (by rfl) (b := w.heap.size) (off := 0) (n := 18) rfl H_26 Tryd.underlying34 (by kernel_rfl) (Nat.le_of_ble_eq_true rfl) (portC { d with b := 5 + v % 4, p := fmtP v, s := 1 + v / 4 % 2 } ⟨ax, cx, ay, cy⟩) rfl ?_
             skip))
        refine (implPortValid_any { d with b := 5 + v % 4, p := fmtP v, s := 1 + v / 4 % 2 } ⟨ax, cx, ay, cy⟩ w_25 ⟨own_cells o_30, own_cells o_31⟩ (by dsimp only; omega) (by dsimp only; omega)).mono ?_
        rintro e w_32 ⟨rfl, b_33⟩
        have zw_32 := b_33.size
        have B_34 := B_28.trans (b_33.mono B_28.size)
        have H_35 := (b_33.block _ (box_lt H_26)).trans H_26
        have H_36 := (b_33.block _ (box_lt H_29)).trans H_29
        have o_37 := own_below o_30 b_33
        have o_38 := own_below o_31 b_33
        go_wp2_with (first
          | (refine wpList_store_any _ rfl rfl (by rfl) (b := w.heap.size + 1) (off := 0) (n := 18) rfl rfl (vs := (portC zPort zPortA)) rfl H_36 (by kernel_rfl) rfl rfl (Nat.le_of_ble_eq_true rfl) ((portC zPort zPortA)) rfl ?_
             intro w_39 H_40 g_41
             have zw_39 := g_41.size
             have B_42 := below_only B_34 g_41 (by omega)
             have H_43 := box_only' H_35 g_41 (by omega)
             have o_44 := own_ty o_37 H_36 (by decide) g_41
             have o_45 := own_ty o_38 H_36 (by decide) g_41
             skip))
        refine bodyPost_ret (results_cell2 Tryd.results7 rfl rfl (load_box (P := Tryd.prog) H_40 Tryd.underlying34 (by kernel_rfl) rfl)) rfl ?_
        rw [HR.out]
        exact ⟨zPortA, rfl, zRowG _ _, zRowI _ _, B_42⟩
      · have HR := Lib.hid (writeR_good hv hwr hv2)
        have hFR := fmtR_yes hs
        have HF := Lib.hid (fun x (h : Sent x a) => implFormatOf_any v a x h)
        rw [hFR] at HF
        have b0 : Below w.heap.size w ((w.alloc (.cells (portC d A) 34)).alloc (.cells (portC zPort zPortA) 34)) := ((Below.refl _ _).alloc (Nat.le_refl _) _).alloc (by simp) _
        have H0 := box_alloc (heap_new_at w (.cells (portC d A) 34) _ rfl) (.cells (portC zPort zPortA) 34)
        have G0 := heap_new_at (w.alloc (.cells (portC d A) 34)) (.cells (portC zPort zPortA) 34) (w.heap.size + 1) (by simp)
        go_enter Tryd.func7, Tryd.ntmps7
        go_wp2_with (first
          | (refine wpList_load_box _ rfl (by rfl) (b := w.heap.size) (off := 0) (n := 18) rfl H0 Tryd.underlying34 (by kernel_rfl) (Nat.le_of_ble_eq_true rfl) (portC d A) rfl ?_))
        refine name_calls fun W hW => ?_
        have bW : Below w.heap.size w W := by rw [hW]; exact b0
        have h1 : W.heap[w.heap.size]? = some (.cells (portC d A) 34 (0, 0)) := by rw [hW]; exact H0
        have h2 : W.heap[w.heap.size + 1]? = some (.cells (portC zPort zPortA) 34 (0, 0)) := by rw [hW]; exact G0
        have zW : w.heap.size + 2 ≤ W.heap.size := by rw [hW]; simp
        clear hW b0 H0 G0
        refine (implPortValid_any d A W (hm.below bW) lg ly).mono ?_
        rintro e w_1 ⟨rfl, b_2⟩
        have zw_1 := b_2.size
        have B_3 := bW.trans (b_2.mono bW.size)
        have H_4 := (b_2.block _ (box_lt h1)).trans h1
        have H_5 := (b_2.block _ (box_lt h2)).trans h2
        go_wp2_with (first
          | (refine wpList_load_box _ rfl (by rfl) (b := w.heap.size) (off := 0) (n := 18) rfl H_4 Tryd.underlying34 (by kernel_rfl) (Nat.le_of_ble_eq_true rfl) (portC d A) rfl ?_
             skip))
        refine (portCopy_any d A w_1 (hm.below B_3) (by omega) (by omega) hY).mono ?_
        rintro e w_6 ⟨⟨ax, cx, ay, cy⟩, rfl, Ox, Oy, Ap, b_7⟩
        have zw_6 := b_7.size
        have B_8 := B_3.trans (b_7.mono B_3.size)
        have H_9 := (b_7.block _ (box_lt H_4)).trans H_4
        have H_10 := (b_7.block _ (box_lt H_5)).trans H_5
        clear Ap
        dsimp only at Ox Oy
        go_wp2_with (first
          | (refine wpList_store_any _ rfl rfl (by rfl) (b := w.heap.size) (off := 0) (n := 18) rfl rfl (vs := portC d ⟨ax, cx, ay, cy⟩) rfl H_9 (by kernel_rfl) rfl rfl (Nat.le_of_ble_eq_true rfl) (portC d ⟨ax, cx, ay, cy⟩) rfl ?_
             intro w_11 H_12 g_13
             have zw_11 := g_13.size
             have B_14 := below_only B_8 g_13 (by omega)
             have H_15 := box_only' H_10 g_13 (by omega)
             have o_16 := own_ty Ox H_9 (by decide) g_13
             have o_17 := own_ty Oy H_9 (by decide) g_13
             skip))
        refine (HF.out w_11 (hE.below B_14)).mono ?_
        rintro e w_18 ⟨rfl, b_19⟩
        have zw_18 := b_19.size
        have B_20 := B_14.trans (b_19.mono B_14.size)
        have H_21 := (b_19.block _ (box_lt H_12)).trans H_12
        have H_22 := (b_19.block _ (box_lt H_15)).trans H_15
        have o_23 := own_below o_16 b_19
        have o_24 := own_below o_17 b_19
        go_wp2_with (first
          | (refine wpList_store_any _ rfl rfl (by rfl) (b := w.heap.size) (off := 0) (n := 3) rfl rfl (vs := #[.int .i64 (5 + v % 4), .int .i64 (fmtP v), .int .i64 (1 + v / 4 % 2)]) rfl H_21 (by kernel_rfl) rfl rfl (Nat.le_of_ble_eq_true rfl) (portC { d with b := 5 + v % 4, p := fmtP v, s := 1 + v / 4 % 2 } ⟨ax, cx, ay, cy⟩) rfl ?_
             intro w_25 H_26 g_27
             have zw_25 := g_27.size
             have B_28 := below_only B_20 g_27 (by omega)
             have H_29 := box_only' H_22 g_27 (by omega)
             have o_30 := own_ty o_23 H_21 (by decide) g_27
             have o_31 := own_ty o_24 H_21 (by decide) g_27
             skip)
          | (refine wpList_load_box _ rfl (by rfl) (b := w.heap.size) (off := 0) (n := 18) rfl H_26 Tryd.underlying34 (by kernel_rfl) (Nat.le_of_ble_eq_true rfl) (portC { d with b := 5 + v % 4, p := fmtP v, s := 1 + v / 4 % 2 } ⟨ax, cx, ay, cy⟩) rfl ?_
             skip))
        refine (implPortValid_any { d with b := 5 + v % 4, p := fmtP v, s := 1 + v / 4 % 2 } ⟨ax, cx, ay, cy⟩ w_25 ⟨own_cells o_30, own_cells o_31⟩ (by dsimp only; omega) (by dsimp only; omega)).mono ?_
        rintro e w_32 ⟨rfl, b_33⟩
        have zw_32 := b_33.size
        have B_34 := B_28.trans (b_33.mono B_28.size)
        have H_35 := (b_33.block _ (box_lt H_26)).trans H_26
        have H_36 := (b_33.block _ (box_lt H_29)).trans H_29
        have o_37 := own_below o_30 b_33
        have o_38 := own_below o_31 b_33
        go_wp2_with (first
          | (refine wpList_load_box _ rfl (by rfl) (b := w.heap.size) (off := 0) (n := 18) rfl H_35 Tryd.underlying34 (by kernel_rfl) (Nat.le_of_ble_eq_true rfl) (portC { d with b := 5 + v % 4, p := fmtP v, s := 1 + v / 4 % 2 } ⟨ax, cx, ay, cy⟩) rfl ?_
             skip)
          | (refine wpList_store_any _ rfl rfl (by rfl) (b := w.heap.size + 1) (off := 0) (n := 18) rfl rfl (vs := portC { d with b := 5 + v % 4, p := fmtP v, s := 1 + v / 4 % 2 } ⟨ax, cx, ay, cy⟩) rfl H_36 (by kernel_rfl) rfl rfl (Nat.le_of_ble_eq_true rfl) (portC { d with b := 5 + v % 4, p := fmtP v, s := 1 + v / 4 % 2 } ⟨ax, cx, ay, cy⟩) rfl ?_
             intro w_39 H_40 g_41
             have zw_39 := g_41.size
             have B_42 := below_only B_34 g_41 (by omega)
             have H_43 := box_only' H_35 g_41 (by omega)
             have o_44 := own_ty o_37 H_36 (by decide) g_41
             have o_45 := own_ty o_38 H_36 (by decide) g_41
             skip))
        refine bodyPost_ret (results_cell2 (u := .bool true) Tryd.results7 rfl rfl (load_box (P := Tryd.prog) H_40 Tryd.underlying34 (by kernel_rfl) rfl)) rfl ?_
        rw [HR.out]
        exact ⟨⟨ax, cx, ay, cy⟩, rfl, own_base o_44 (by omega), own_base o_45 (by omega), B_42⟩
  have HR := Lib.hid (writeR_none (d := d) (reg := reg) (v := v) (by simp [wrote, r0, r1, r3, r4]))
  have hq0 : (reg == 0) = false := beq_eq_false_iff_ne.2 r0
  have hq1 : (reg == 1) = false := beq_eq_false_iff_ne.2 r1
  have hq3 : (reg == 3) = false := beq_eq_false_iff_ne.2 r3
  have hq4 : (reg == 4) = false := beq_eq_false_iff_ne.2 r4
  clear r0 r1 r3 r4
  have b0 : Below w.heap.size w ((w.alloc (.cells (portC d A) 34)).alloc (.cells (portC zPort zPortA) 34)) := ((Below.refl _ _).alloc (Nat.le_refl _) _).alloc (by simp) _
  have H0 := box_alloc (heap_new_at w (.cells (portC d A) 34) _ rfl) (.cells (portC zPort zPortA) 34)
  have G0 := heap_new_at (w.alloc (.cells (portC d A) 34)) (.cells (portC zPort zPortA) 34) (w.heap.size + 1) (by simp)
  go_enter Tryd.func7, Tryd.ntmps7
  go_wp2_with (first
    | (refine wpList_load_box _ rfl (by rfl) (b := w.heap.size) (off := 0) (n := 18) rfl H0 Tryd.underlying34 (by kernel_rfl) (Nat.le_of_ble_eq_true rfl) (portC d A) rfl ?_))
  refine name_calls fun W hW => ?_
  have bW : Below w.heap.size w W := by rw [hW]; exact b0
  have h1 : W.heap[w.heap.size]? = some (.cells (portC d A) 34 (0, 0)) := by rw [hW]; exact H0
  have h2 : W.heap[w.heap.size + 1]? = some (.cells (portC zPort zPortA) 34 (0, 0)) := by rw [hW]; exact G0
  have zW : w.heap.size + 2 ≤ W.heap.size := by rw [hW]; simp
  clear hW b0 H0 G0
  refine (implPortValid_any d A W (hm.below bW) lg ly).mono ?_
  rintro e w_1 ⟨rfl, b_2⟩
  have zw_1 := b_2.size
  have B_3 := bW.trans (b_2.mono bW.size)
  have H_4 := (b_2.block _ (box_lt h1)).trans h1
  have H_5 := (b_2.block _ (box_lt h2)).trans h2
  go_wp2_with (first
    | (refine wpList_load_box _ rfl (by rfl) (b := w.heap.size) (off := 0) (n := 18) rfl H_4 Tryd.underlying34 (by kernel_rfl) (Nat.le_of_ble_eq_true rfl) (portC d A) rfl ?_
       skip))
  refine (portCopy_any d A w_1 (hm.below B_3) (by omega) (by omega) hY).mono ?_
  rintro e w_6 ⟨⟨ax, cx, ay, cy⟩, rfl, Ox, Oy, Ap, b_7⟩
  have zw_6 := b_7.size
  have B_8 := B_3.trans (b_7.mono B_3.size)
  have H_9 := (b_7.block _ (box_lt H_4)).trans H_4
  have H_10 := (b_7.block _ (box_lt H_5)).trans H_5
  clear Ap
  dsimp only at Ox Oy
  go_wp2_with (first
    | (refine wpList_store_any _ rfl rfl (by rfl) (b := w.heap.size) (off := 0) (n := 18) rfl rfl (vs := portC d ⟨ax, cx, ay, cy⟩) rfl H_9 (by kernel_rfl) rfl rfl (Nat.le_of_ble_eq_true rfl) (portC d ⟨ax, cx, ay, cy⟩) rfl ?_
       intro w_11 H_12 g_13
       have zw_11 := g_13.size
       have B_14 := below_only B_8 g_13 (by omega)
       have H_15 := box_only' H_10 g_13 (by omega)
       have o_16 := own_ty Ox H_9 (by decide) g_13
       have o_17 := own_ty Oy H_9 (by decide) g_13
       skip)
    | (refine wpList_store_any _ rfl rfl (by rfl) (b := w.heap.size + 1) (off := 0) (n := 18) rfl rfl (vs := (portC zPort zPortA)) rfl H_15 (by kernel_rfl) rfl rfl (Nat.le_of_ble_eq_true rfl) ((portC zPort zPortA)) rfl ?_
       intro w_18 H_19 g_20
       have zw_18 := g_20.size
       have B_21 := below_only B_14 g_20 (by omega)
       have H_22 := box_only' H_12 g_20 (by omega)
       have o_23 := own_ty o_16 H_15 (by decide) g_20
       have o_24 := own_ty o_17 H_15 (by decide) g_20
       skip))
  refine bodyPost_ret (results_cell2 Tryd.results7 rfl rfl (load_box (P := Tryd.prog) H_19 Tryd.underlying34 (by kernel_rfl) rfl)) rfl ?_
  rw [HR.out]
  exact ⟨zPortA, rfl, zRowG _ _, zRowI _ _, B_21⟩
end Go.Proofs.YtkmampichfbppaaDoor
