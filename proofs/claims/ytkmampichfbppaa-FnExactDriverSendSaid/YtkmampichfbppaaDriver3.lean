/- Drivers: copies that share nothing. -/
import Derived.Test.YtkmampichfbppaaDriver2
namespace Go.Proofs.Ytkmampichfbppaa
open Go.RowKit

def DrvN (d : DrvD) (A : DrvA) : Prop := (A.p.ax = none → d.p.gs.length = 0 ∧ A.p.cx = 0) ∧ (A.p.ay = none → d.p.ys.length = 0 ∧ A.p.cy = 0) ∧ (A.ai = none → d.i.length = 0 ∧ A.ci = 0) ∧ (A.ao = none → d.o.length = 0 ∧ A.co = 0)
def DrvO (w : World) (B : Nat) (d : DrvD) (A : DrvA) : Prop := OwnG w B A.p.ax A.p.cx d.p.gs ∧ OwnI w B A.p.ay A.p.cy d.p.ys ∧ OwnI w B A.ai A.ci d.i ∧ OwnI w B A.ao A.co d.o
theorem In.low {lo hi : Nat} {ao : Option Addr} (h : In lo hi ao) : In 0 hi ao := fun a e => ⟨Nat.zero_le _, (h a e).2⟩
def CpO (w : World) (B : Nat) (d : DrvD) (A : DrvA) : Prop := DrvO w B d A ∧ Apart A.p.ay A.ai ∧ ∃ B2, B ≤ B2 ∧ B2 ≤ w.heap.size ∧ In 0 B2 A.p.ax ∧ In 0 B2 A.p.ay ∧ In 0 B2 A.ai ∧ OwnI w B2 A.ao A.co d.o
def DrvS (A : DrvA) : Prop := Apart A.p.ay A.ai ∧ Apart A.p.ay A.ao ∧ Apart A.ai A.ao
theorem CpO.s {w : World} {B : Nat} {d : DrvD} {A : DrvA} (h : CpO w B d A) : DrvS A := by
  obtain ⟨_, h1, B2, _, _, _, h2, h3, h4⟩ := h
  exact ⟨h1, h2.apart (own_in h4) (.inl (Nat.le_refl _)), h3.apart (own_in h4) (.inl (Nat.le_refl _))⟩
theorem DrvO.m {w : World} {B : Nat} {d : DrvD} {A : DrvA} (h : DrvO w B d A) : DrvM w d A := ⟨⟨own_cells h.1, own_cells h.2.1⟩, own_cells h.2.2.1, own_cells h.2.2.2⟩
set_option maxHeartbeats 2000000 in
set_option maxRecDepth 100000 in
theorem l15Copy_any (d : PortD) (A : PortA) (w : World) (hm : PortM w d A) (lg : d.gs.length ≤ 1048576) (ly : d.ys.length ≤ 1048576) (hX : A.ax = none → d.gs.length = 0 ∧ A.cx = 0) (hA : A.ay = none → d.ys.length = 0 ∧ A.cy = 0) :
    Calls Try.prog 62 #[.agg (portC d A)] w fun e w' => ∃ A1 : PortA, e = .returned (.agg (portC d A1)) ∧ OwnG w' w.heap.size A1.ax A1.cx d.gs ∧ OwnI w' w.heap.size A1.ay A1.cy d.ys ∧ Apart A1.ax A1.ay ∧ Below w.heap.size w w' := by
  have b0 : Below w.heap.size w ((w.alloc (.cells (portC d A) 44)).alloc (.cells (portC zPort zPortA) 44)) := ((Below.refl _ _).alloc (Nat.le_refl _) _).alloc (by simp) _
  have H0 := box_alloc (heap_new_at w (.cells (portC d A) 44) _ rfl) (.cells (portC zPort zPortA) 44)
  have G0 := heap_new_at (w.alloc (.cells (portC d A) 44)) (.cells (portC zPort zPortA) 44) (w.heap.size + 1) (by simp)
  go_enter Try.func62, Try.ntmps62
  go_upto_region 1 with fail
  refine name_wp fun W hW => ?_
  have bW : Below w.heap.size w W := by rw [hW]; exact b0
  have h1 : W.heap[w.heap.size]? = some (.cells (portC d A) 44 (0, 0)) := by rw [hW]; exact H0
  have h2 : W.heap[w.heap.size + 1]? = some (.cells (portC zPort zPortA) 44 (0, 0)) := by rw [hW]; exact G0
  have zW : w.heap.size + 2 ≤ W.heap.size := by rw [hW]; simp
  clear hW b0 H0 G0
  have c_1 := box_cell h1 7 (v := .slice A.ax d.gs.length A.cx) rfl
  have lc_1 := box_lt h1
  go_wp2_with (first
    | (at_builtin
       refine name_list fun Wq hq => ?_
       have bq : Below W.heap.size W Wq := (by rw [hq]; exact (Below.refl _ _).alloc (Nat.le_refl _) _)
       have oq : Wq.ownsRow W.heap.size 126 2 (.slice (some ⟨W.heap.size, 0, none⟩) 0 0) 0 [] := (by rw [hq]; exact own_made_at W #[] _ _ 0 _ _ rfl (Nat.le_refl _) (by simp) rfl)
       have Bq := bW.trans (bq.mono bW.size)
       refine wpList_append_row Wq rfl _ _ _ rfl W.heap.size 126 _ 2 16 Try.underlying38 gt_info rfl (by decide) (some ⟨W.heap.size, 0, none⟩) 0 0 [] (by rfl) oq A.ax (d.gs.length) (A.cx) (d.gs.flatMap gtCells) (by rfl) (Gts.below hm.1 Bq) (flatN_length gtCells 2 gtCells_length _) (gts_one _) hX (by simp only [maxLen]; omega) (by omega) bq.size ?_
       intro a_2 c_3 w_4 o_5 hg
       rw [Nat.zero_add, List.nil_append] at o_5
       rw [Nat.zero_add]
       have b_6 := below_append bq oq hg bq.size
       clear hq bq oq Bq
       clear hg
       have zw_4 := b_6.size
       have B_7 := bW.trans (b_6.mono bW.size)
       have H_8 := (b_6.block _ (box_lt h1)).trans h1
       have H_9 := (b_6.block _ (box_lt h2)).trans h2
       skip)
    | (refine wpList_store_any _ rfl rfl (by rfl) (b := w.heap.size) (off := 7) (n := 1) rfl rfl (vs := #[.slice a_2 d.gs.length c_3]) rfl H_8 (by kernel_rfl) rfl rfl (Nat.le_of_ble_eq_true rfl) (portC d ⟨a_2, c_3, A.ay, A.cy⟩) rfl ?_
       intro w_10 H_11 g_12
       have zw_10 := g_12.size
       have B_13 := below_only B_7 g_12 (by omega)
       have H_14 := box_only' H_9 g_12 (by omega)
       have o_15 := own_ty o_5 H_8 (by decide) g_12
       have c_16 := box_cell H_11 11 (v := .slice A.ay d.ys.length A.cy) rfl
       have lc_16 := box_lt H_11
       skip)
    | (at_builtin
       refine name_list fun Wq hq => ?_
       have bq : Below w_10.heap.size w_10 Wq := (by rw [hq]; exact (Below.refl _ _).alloc (Nat.le_refl _) _)
       have oq : Wq.ownsRow w_10.heap.size 3 1 (.slice (some ⟨w_10.heap.size, 0, none⟩) 0 0) 0 [] := (by rw [hq]; exact own_made_at w_10 #[] _ _ 0 _ _ rfl (Nat.le_refl _) (by simp) rfl)
       have Bq := B_13.trans (bq.mono B_13.size)
       refine wpList_append_row Wq rfl _ _ _ rfl w_10.heap.size 3 _ 1 8 Try.underlying27 int_info rfl (by decide) (some ⟨w_10.heap.size, 0, none⟩) 0 0 [] (by rfl) oq A.ay (d.ys.length) (A.cy) (d.ys.map (Value.int .i64)) (by rfl) (Ints.below hm.2 Bq) (by simp) (ints_one _) hA (by simp only [maxLen]; omega) (by omega) bq.size ?_
       intro a_17 c_18 w_19 o_20 hg
       rw [Nat.zero_add, List.nil_append] at o_20
       rw [Nat.zero_add]
       have b_21 := below_append bq oq hg bq.size
       clear hq bq oq Bq
       clear hg
       have zw_19 := b_21.size
       have B_22 := B_13.trans (b_21.mono B_13.size)
       have ap0 := (own_in o_15).apart (own_in o_20) (.inl (Nat.le_refl _))
       have H_23 := (b_21.block _ (box_lt H_11)).trans H_11
       have H_24 := (b_21.block _ (box_lt H_14)).trans H_14
       have o_25 := own_below o_15 b_21
       skip)
    | (refine wpList_store_any _ rfl rfl (by rfl) (b := w.heap.size) (off := 11) (n := 1) rfl rfl (vs := #[.slice a_17 d.ys.length c_18]) rfl H_23 (by kernel_rfl) rfl rfl (Nat.le_of_ble_eq_true rfl) (portC d ⟨a_2, c_3, a_17, c_18⟩) rfl ?_
       intro w_26 H_27 g_28
       have zw_26 := g_28.size
       have B_29 := below_only B_22 g_28 (by omega)
       have H_30 := box_only' H_24 g_28 (by omega)
       have o_31 := own_ty o_25 H_23 (by decide) g_28
       have o_32 := own_ty o_20 H_23 (by decide) g_28
       skip)
    | (refine wpList_load_box _ rfl (by rfl) (b := w.heap.size) (off := 0) (n := 18) rfl H_27 Try.underlying44 (by kernel_rfl) (Nat.le_of_ble_eq_true rfl) (portC d ⟨a_2, c_3, a_17, c_18⟩) rfl ?_
       skip)
    | (refine wpList_store_any _ rfl rfl (by rfl) (b := w.heap.size + 1) (off := 0) (n := 18) rfl rfl (vs := portC d ⟨a_2, c_3, a_17, c_18⟩) rfl H_30 (by kernel_rfl) rfl rfl (Nat.le_of_ble_eq_true rfl) (portC d ⟨a_2, c_3, a_17, c_18⟩) rfl ?_
       intro w_33 H_34 g_35
       have zw_33 := g_35.size
       have B_36 := below_only B_29 g_35 (by omega)
       have H_37 := box_only' H_27 g_35 (by omega)
       have o_38 := own_ty o_31 H_30 (by decide) g_35
       have o_39 := own_ty o_32 H_30 (by decide) g_35
       skip))
  refine bodyPost_ret (results_cell Try.results62 rfl (load_box (P := Try.prog) H_34 Try.underlying44 (by kernel_rfl) rfl)) rfl ?_
  exact ⟨⟨a_2, c_3, a_17, c_18⟩, rfl, own_base o_38 (by omega), own_base o_39 (by omega), ap0, B_36⟩
set_option maxHeartbeats 2000000 in
set_option maxRecDepth 100000 in
theorem driverCopy_any (d : DrvD) (A : DrvA) (w : World) (hm : DrvM w d A) (hl : DrvL d) (lg : d.p.gs.length ≤ 900) (hN : DrvN d A) :
    Calls Try.prog 39 #[.agg (drvC d A)] w fun e w' => ∃ A1 : DrvA, e = .returned (.agg (drvC d A1)) ∧ CpO w' w.heap.size d A1 ∧ Below w.heap.size w w' := by
  have b0 : Below w.heap.size w ((w.alloc (.cells (drvC d A) 46)).alloc (.cells (drvC zDrv zDrvA) 46)) := ((Below.refl _ _).alloc (Nat.le_refl _) _).alloc (by simp) _
  have H0 := box_alloc (heap_new_at w (.cells (drvC d A) 46) _ rfl) (.cells (drvC zDrv zDrvA) 46)
  have G0 := heap_new_at (w.alloc (.cells (drvC d A) 46)) (.cells (drvC zDrv zDrvA) 46) (w.heap.size + 1) (by simp)
  have li := hl.2.2.1
  have lo := hl.2.2.2
  go_enter Try.func39, Try.ntmps39
  go_wp2_with (first
    | (refine wpList_load_box _ rfl (by rfl) (b := w.heap.size) (off := 0) (n := 18) rfl H0 Try.underlying44 (by kernel_rfl) (Nat.le_of_ble_eq_true rfl) (portC d.p A.p) rfl ?_))
  refine name_calls fun W hW => ?_
  have bW : Below w.heap.size w W := by rw [hW]; exact b0
  have h1 : W.heap[w.heap.size]? = some (.cells (drvC d A) 46 (0, 0)) := by rw [hW]; exact H0
  have h2 : W.heap[w.heap.size + 1]? = some (.cells (drvC zDrv zDrvA) 46 (0, 0)) := by rw [hW]; exact G0
  have zW : w.heap.size + 2 ≤ W.heap.size := by rw [hW]; simp
  clear hW b0 H0 G0
  refine (portCopy_any d.p A.p W (hm.1.below bW) lg hl.2.1 hN.2.1).mono ?_
  rintro e w_1 ⟨A1, rfl, ox, oy, ap, b_2⟩
  have zw_1 := b_2.size
  have B_3 := bW.trans (b_2.mono bW.size)
  have H_4 := (b_2.block _ (box_lt h1)).trans h1
  have H_5 := (b_2.block _ (box_lt h2)).trans h2
  have iox := own_in ox
  have ioy := own_in oy
  go_wp2_with (first
    | (refine wpList_store_any _ rfl rfl (by rfl) (b := w.heap.size) (off := 0) (n := 18) rfl rfl (vs := portC d.p A1) rfl H_4 (by kernel_rfl) rfl rfl (Nat.le_of_ble_eq_true rfl) (drvC d ⟨A1, A.ai, A.ci, A.ao, A.co⟩) rfl ?_
       intro w_6 H_7 g_8
       have zw_6 := g_8.size
       have B_9 := below_only B_3 g_8 (by omega)
       have H_10 := box_only' H_5 g_8 (by omega)
       have o_11 := own_ty ox H_4 (by decide) g_8
       have o_12 := own_ty oy H_4 (by decide) g_8
       have c_13 := box_cell H_7 18 (v := .slice A.ai d.i.length A.ci) rfl
       have lc_13 := box_lt H_7
       skip)
    | (at_builtin
       refine wpList_append_row w_6 rfl _ _ _ rfl w_6.heap.size 3 _ 1 8 Try.underlying27 int_info rfl (by decide) none 0 0 [] (by rfl) (World.ownsRow_nil _ _ _ _) A.ai (d.i.length) (A.ci) (d.i.map (Value.int .i64)) (by rfl) (Ints.below hm.2.1 B_9) (by simp) (ints_one _) hN.2.2.1 (by simp only [maxLen]; omega) (by omega) (Nat.le_refl _) ?_
       intro a_14 c_15 w_16 o_17 hg
       rw [Nat.zero_add, List.nil_append] at o_17
       rw [Nat.zero_add]
       have b_18 : Below w_6.heap.size w_6 w_16 := (Below.refl _ _).grown hg (Nat.le_refl _) (fun k hk => by simp [Value.ownBlock] at hk)
       clear hg
       have zw_16 := b_18.size
       have B_19 := B_9.trans (b_18.mono B_9.size)
       have apyi := (own_in o_12).apart (own_in o_17) (.inl (Nat.le_refl _))
       have H_20 := (b_18.block _ (box_lt H_7)).trans H_7
       have H_21 := (b_18.block _ (box_lt H_10)).trans H_10
       have o_22 := own_below o_11 b_18
       have o_23 := own_below o_12 b_18
       skip)
    | (refine wpList_store_any _ rfl rfl (by rfl) (b := w.heap.size) (off := 18) (n := 1) rfl rfl (vs := #[.slice a_14 d.i.length c_15]) rfl H_20 (by kernel_rfl) rfl rfl (Nat.le_of_ble_eq_true rfl) (drvC d ⟨A1, a_14, c_15, A.ao, A.co⟩) rfl ?_
       intro w_24 H_25 g_26
       have zw_24 := g_26.size
       have B_27 := below_only B_19 g_26 (by omega)
       have H_28 := box_only' H_21 g_26 (by omega)
       have o_29 := own_ty o_22 H_20 (by decide) g_26
       have o_30 := own_ty o_23 H_20 (by decide) g_26
       have o_31 := own_ty o_17 H_20 (by decide) g_26
       have c_32 := box_cell H_25 19 (v := .slice A.ao d.o.length A.co) rfl
       have lc_32 := box_lt H_25
       skip)
    | (at_builtin
       refine wpList_append_row w_24 rfl _ _ _ rfl w_24.heap.size 3 _ 1 8 Try.underlying27 int_info rfl (by decide) none 0 0 [] (by rfl) (World.ownsRow_nil _ _ _ _) A.ao (d.o.length) (A.co) (d.o.map (Value.int .i64)) (by rfl) (Ints.below hm.2.2 B_27) (by simp) (ints_one _) hN.2.2.2 (by simp only [maxLen]; omega) (by omega) (Nat.le_refl _) ?_
       intro a_33 c_34 w_35 o_36 hg
       rw [Nat.zero_add, List.nil_append] at o_36
       rw [Nat.zero_add]
       have b_37 : Below w_24.heap.size w_24 w_35 := (Below.refl _ _).grown hg (Nat.le_refl _) (fun k hk => by simp [Value.ownBlock] at hk)
       clear hg
       have zw_35 := b_37.size
       have B_38 := B_27.trans (b_37.mono B_27.size)
       have inX := own_in o_29
       have inY := own_in o_30
       have inI := own_in o_31
       have H_39 := (b_37.block _ (box_lt H_25)).trans H_25
       have H_40 := (b_37.block _ (box_lt H_28)).trans H_28
       have o_41 := own_below o_29 b_37
       have o_42 := own_below o_30 b_37
       have o_43 := own_below o_31 b_37
       skip)
    | (refine wpList_store_any _ rfl rfl (by rfl) (b := w.heap.size) (off := 19) (n := 1) rfl rfl (vs := #[.slice a_33 d.o.length c_34]) rfl H_39 (by kernel_rfl) rfl rfl (Nat.le_of_ble_eq_true rfl) (drvC d ⟨A1, a_14, c_15, a_33, c_34⟩) rfl ?_
       intro w_44 H_45 g_46
       have zw_44 := g_46.size
       have B_47 := below_only B_38 g_46 (by omega)
       have H_48 := box_only' H_40 g_46 (by omega)
       have o_49 := own_ty o_41 H_39 (by decide) g_46
       have o_50 := own_ty o_42 H_39 (by decide) g_46
       have o_51 := own_ty o_43 H_39 (by decide) g_46
       have o_52 := own_ty o_36 H_39 (by decide) g_46
       skip)
    | (refine wpList_load_box _ rfl (by rfl) (b := w.heap.size) (off := 0) (n := 22) rfl H_45 Try.underlying46 (by kernel_rfl) (Nat.le_of_ble_eq_true rfl) (drvC d ⟨A1, a_14, c_15, a_33, c_34⟩) rfl ?_
       skip)
    | (refine wpList_store_any _ rfl rfl (by rfl) (b := w.heap.size + 1) (off := 0) (n := 22) rfl rfl (vs := drvC d ⟨A1, a_14, c_15, a_33, c_34⟩) rfl H_48 (by kernel_rfl) rfl rfl (Nat.le_of_ble_eq_true rfl) (drvC d ⟨A1, a_14, c_15, a_33, c_34⟩) rfl ?_
       intro w_53 H_54 g_55
       have zw_53 := g_55.size
       have B_56 := below_only B_47 g_55 (by omega)
       have H_57 := box_only' H_45 g_55 (by omega)
       have o_58 := own_ty o_49 H_48 (by decide) g_55
       have o_59 := own_ty o_50 H_48 (by decide) g_55
       have o_60 := own_ty o_51 H_48 (by decide) g_55
       have o_61 := own_ty o_52 H_48 (by decide) g_55
       skip))
  refine bodyPost_ret (results_cell Try.results39 rfl (load_box (P := Try.prog) H_54 Try.underlying46 (by kernel_rfl) rfl)) rfl ?_
  exact ⟨⟨A1, a_14, c_15, a_33, c_34⟩, rfl, ⟨⟨own_base o_58 (by omega), own_base o_59 (by omega), own_base o_60 (by omega), own_base o_61 (by omega)⟩, apyi, w_24.heap.size, by omega, by omega, inX.low, inY.low, inI.low, o_61⟩, B_56⟩
set_option maxHeartbeats 2000000 in
set_option maxRecDepth 100000 in
theorem l21Copy_any (d : DrvD) (A : DrvA) (w : World) (hm : DrvM w d A) (hl : DrvL d) (_lg : d.p.gs.length ≤ 1048576) (hN : DrvN d A) :
    Calls Try.prog 37 #[.agg (drvC d A)] w fun e w' => ∃ A1 : DrvA, e = .returned (.agg (drvC d A1)) ∧ CpO w' w.heap.size d A1 ∧ Below w.heap.size w w' := by
  have b0 : Below w.heap.size w ((w.alloc (.cells (drvC d A) 46)).alloc (.cells (drvC zDrv zDrvA) 46)) := ((Below.refl _ _).alloc (Nat.le_refl _) _).alloc (by simp) _
  have H0 := box_alloc (heap_new_at w (.cells (drvC d A) 46) _ rfl) (.cells (drvC zDrv zDrvA) 46)
  have G0 := heap_new_at (w.alloc (.cells (drvC d A) 46)) (.cells (drvC zDrv zDrvA) 46) (w.heap.size + 1) (by simp)
  have li := hl.2.2.1
  have lo := hl.2.2.2
  go_enter Try.func37, Try.ntmps37
  go_wp2_with (first
    | (refine wpList_load_box _ rfl (by rfl) (b := w.heap.size) (off := 0) (n := 18) rfl H0 Try.underlying44 (by kernel_rfl) (Nat.le_of_ble_eq_true rfl) (portC d.p A.p) rfl ?_))
  refine name_calls fun W hW => ?_
  have bW : Below w.heap.size w W := by rw [hW]; exact b0
  have h1 : W.heap[w.heap.size]? = some (.cells (drvC d A) 46 (0, 0)) := by rw [hW]; exact H0
  have h2 : W.heap[w.heap.size + 1]? = some (.cells (drvC zDrv zDrvA) 46 (0, 0)) := by rw [hW]; exact G0
  have zW : w.heap.size + 2 ≤ W.heap.size := by rw [hW]; simp
  clear hW b0 H0 G0
  refine (l15Copy_any d.p A.p W (hm.1.below bW) hl.1 hl.2.1 hN.1 hN.2.1).mono ?_
  rintro e w_1 ⟨A1, rfl, ox, oy, ap, b_2⟩
  have zw_1 := b_2.size
  have B_3 := bW.trans (b_2.mono bW.size)
  have H_4 := (b_2.block _ (box_lt h1)).trans h1
  have H_5 := (b_2.block _ (box_lt h2)).trans h2
  have iox := own_in ox
  have ioy := own_in oy
  go_wp2_with (first
    | (refine wpList_store_any _ rfl rfl (by rfl) (b := w.heap.size) (off := 0) (n := 18) rfl rfl (vs := portC d.p A1) rfl H_4 (by kernel_rfl) rfl rfl (Nat.le_of_ble_eq_true rfl) (drvC d ⟨A1, A.ai, A.ci, A.ao, A.co⟩) rfl ?_
       intro w_6 H_7 g_8
       have zw_6 := g_8.size
       have B_9 := below_only B_3 g_8 (by omega)
       have H_10 := box_only' H_5 g_8 (by omega)
       have o_11 := own_ty ox H_4 (by decide) g_8
       have o_12 := own_ty oy H_4 (by decide) g_8
       have c_13 := box_cell H_7 18 (v := .slice A.ai d.i.length A.ci) rfl
       have lc_13 := box_lt H_7
       skip)
    | (at_builtin
       refine name_list fun Wq hq => ?_
       have bq : Below w_6.heap.size w_6 Wq := (by rw [hq]; exact (Below.refl _ _).alloc (Nat.le_refl _) _)
       have oq : Wq.ownsRow w_6.heap.size 3 1 (.slice (some ⟨w_6.heap.size, 0, none⟩) 0 0) 0 [] := (by rw [hq]; exact own_made_at w_6 #[] _ _ 0 _ _ rfl (Nat.le_refl _) (by simp) rfl)
       have Bq := B_9.trans (bq.mono B_9.size)
       refine wpList_append_row Wq rfl _ _ _ rfl w_6.heap.size 3 _ 1 8 Try.underlying27 int_info rfl (by decide) (some ⟨w_6.heap.size, 0, none⟩) 0 0 [] (by rfl) oq A.ai (d.i.length) (A.ci) (d.i.map (Value.int .i64)) (by rfl) (Ints.below hm.2.1 Bq) (by simp) (ints_one _) hN.2.2.1 (by simp only [maxLen]; omega) (by omega) bq.size ?_
       intro a_14 c_15 w_16 o_17 hg
       rw [Nat.zero_add, List.nil_append] at o_17
       rw [Nat.zero_add]
       have b_18 := below_append bq oq hg bq.size
       clear hq bq oq Bq
       clear hg
       have zw_16 := b_18.size
       have B_19 := B_9.trans (b_18.mono B_9.size)
       have apyi := (own_in o_12).apart (own_in o_17) (.inl (Nat.le_refl _))
       have H_20 := (b_18.block _ (box_lt H_7)).trans H_7
       have H_21 := (b_18.block _ (box_lt H_10)).trans H_10
       have o_22 := own_below o_11 b_18
       have o_23 := own_below o_12 b_18
       skip)
    | (refine wpList_store_any _ rfl rfl (by rfl) (b := w.heap.size) (off := 18) (n := 1) rfl rfl (vs := #[.slice a_14 d.i.length c_15]) rfl H_20 (by kernel_rfl) rfl rfl (Nat.le_of_ble_eq_true rfl) (drvC d ⟨A1, a_14, c_15, A.ao, A.co⟩) rfl ?_
       intro w_24 H_25 g_26
       have zw_24 := g_26.size
       have B_27 := below_only B_19 g_26 (by omega)
       have H_28 := box_only' H_21 g_26 (by omega)
       have o_29 := own_ty o_22 H_20 (by decide) g_26
       have o_30 := own_ty o_23 H_20 (by decide) g_26
       have o_31 := own_ty o_17 H_20 (by decide) g_26
       have c_32 := box_cell H_25 19 (v := .slice A.ao d.o.length A.co) rfl
       have lc_32 := box_lt H_25
       skip)
    | (at_builtin
       refine name_list fun Wq hq => ?_
       have bq : Below w_24.heap.size w_24 Wq := (by rw [hq]; exact (Below.refl _ _).alloc (Nat.le_refl _) _)
       have oq : Wq.ownsRow w_24.heap.size 3 1 (.slice (some ⟨w_24.heap.size, 0, none⟩) 0 0) 0 [] := (by rw [hq]; exact own_made_at w_24 #[] _ _ 0 _ _ rfl (Nat.le_refl _) (by simp) rfl)
       have Bq := B_27.trans (bq.mono B_27.size)
       refine wpList_append_row Wq rfl _ _ _ rfl w_24.heap.size 3 _ 1 8 Try.underlying27 int_info rfl (by decide) (some ⟨w_24.heap.size, 0, none⟩) 0 0 [] (by rfl) oq A.ao (d.o.length) (A.co) (d.o.map (Value.int .i64)) (by rfl) (Ints.below hm.2.2 Bq) (by simp) (ints_one _) hN.2.2.2 (by simp only [maxLen]; omega) (by omega) bq.size ?_
       intro a_33 c_34 w_35 o_36 hg
       rw [Nat.zero_add, List.nil_append] at o_36
       rw [Nat.zero_add]
       have b_37 := below_append bq oq hg bq.size
       clear hq bq oq Bq
       clear hg
       have zw_35 := b_37.size
       have B_38 := B_27.trans (b_37.mono B_27.size)
       have inX := own_in o_29
       have inY := own_in o_30
       have inI := own_in o_31
       have H_39 := (b_37.block _ (box_lt H_25)).trans H_25
       have H_40 := (b_37.block _ (box_lt H_28)).trans H_28
       have o_41 := own_below o_29 b_37
       have o_42 := own_below o_30 b_37
       have o_43 := own_below o_31 b_37
       skip)
    | (refine wpList_store_any _ rfl rfl (by rfl) (b := w.heap.size) (off := 19) (n := 1) rfl rfl (vs := #[.slice a_33 d.o.length c_34]) rfl H_39 (by kernel_rfl) rfl rfl (Nat.le_of_ble_eq_true rfl) (drvC d ⟨A1, a_14, c_15, a_33, c_34⟩) rfl ?_
       intro w_44 H_45 g_46
       have zw_44 := g_46.size
       have B_47 := below_only B_38 g_46 (by omega)
       have H_48 := box_only' H_40 g_46 (by omega)
       have o_49 := own_ty o_41 H_39 (by decide) g_46
       have o_50 := own_ty o_42 H_39 (by decide) g_46
       have o_51 := own_ty o_43 H_39 (by decide) g_46
       have o_52 := own_ty o_36 H_39 (by decide) g_46
       skip)
    | (refine wpList_load_box _ rfl (by rfl) (b := w.heap.size) (off := 0) (n := 22) rfl H_45 Try.underlying46 (by kernel_rfl) (Nat.le_of_ble_eq_true rfl) (drvC d ⟨A1, a_14, c_15, a_33, c_34⟩) rfl ?_
       skip)
    | (refine wpList_store_any _ rfl rfl (by rfl) (b := w.heap.size + 1) (off := 0) (n := 22) rfl rfl (vs := drvC d ⟨A1, a_14, c_15, a_33, c_34⟩) rfl H_48 (by kernel_rfl) rfl rfl (Nat.le_of_ble_eq_true rfl) (drvC d ⟨A1, a_14, c_15, a_33, c_34⟩) rfl ?_
       intro w_53 H_54 g_55
       have zw_53 := g_55.size
       have B_56 := below_only B_47 g_55 (by omega)
       have H_57 := box_only' H_45 g_55 (by omega)
       have o_58 := own_ty o_49 H_48 (by decide) g_55
       have o_59 := own_ty o_50 H_48 (by decide) g_55
       have o_60 := own_ty o_51 H_48 (by decide) g_55
       have o_61 := own_ty o_52 H_48 (by decide) g_55
       skip))
  refine bodyPost_ret (results_cell Try.results37 rfl (load_box (P := Try.prog) H_54 Try.underlying46 (by kernel_rfl) rfl)) rfl ?_
  exact ⟨⟨A1, a_14, c_15, a_33, c_34⟩, rfl, ⟨⟨own_base o_58 (by omega), own_base o_59 (by omega), own_base o_60 (by omega), own_base o_61 (by omega)⟩, apyi, w_24.heap.size, by omega, by omega, inX.low, inY.low, inI.low, o_61⟩, B_56⟩
end Go.Proofs.Ytkmampichfbppaa
