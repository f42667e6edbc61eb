/- Drivers: copies that share nothing. -/
import Derived.Test.YtkmampichfbppaaDoorDriver2
namespace Go.Proofs.YtkmampichfbppaaDoor
open Go.RowKit

def DrvN (d : DrvD) (A : DrvA) : Prop := (A.p.ax = none → d.p.gs.length = 0 ∧ A.p.cx = 0) ∧ (A.p.ay = none → d.p.ys.length = 0 ∧ A.p.cy = 0) ∧ (A.ai = none → d.i.length = 0 ∧ A.ci = 0) ∧ (A.ao = none → d.o.length = 0 ∧ A.co = 0)
def DrvO (w : World) (B : Nat) (d : DrvD) (A : DrvA) : Prop := OwnG w B A.p.ax A.p.cx d.p.gs ∧ OwnI w B A.p.ay A.p.cy d.p.ys ∧ OwnI w B A.ai A.ci d.i ∧ OwnI w B A.ao A.co d.o
theorem In.low {lo hi : Nat} {ao : Option Addr} (h : In lo hi ao) : In 0 hi ao := fun a e => ⟨Nat.zero_le _, (h a e).2⟩
def CpO (w : World) (B : Nat) (d : DrvD) (A : DrvA) : Prop := DrvO w B d A ∧ Apart A.p.ay A.ai ∧ ∃ B2, B ≤ B2 ∧ B2 ≤ w.heap.size ∧ In 0 B2 A.p.ax ∧ In 0 B2 A.p.ay ∧ In 0 B2 A.ai ∧ OwnI w B2 A.ao A.co d.o
def DrvS (A : DrvA) : Prop := Apart A.p.ay A.ai ∧ Apart A.p.ay A.ao ∧ Apart A.ai A.ao
theorem CpO.s {w : World} {B : Nat} {d : DrvD} {A : DrvA} (h : CpO w B d A) : DrvS A := by
  obtain ⟨_, h1, B2, _, _, _, h2, h3, h4⟩ := h
  exact ⟨h1, h2.apart (own_in h4) (.inl (Nat.le_refl _)), h3.apart (own_in h4) (.inl (Nat.le_refl _))⟩
theorem DrvO.m {w : World} {B : Nat} {d : DrvD} {A : DrvA} (h : DrvO w B d A) : DrvM w d A := ⟨⟨own_cells h.1, own_cells h.2.1⟩, own_cells h.2.2.1, own_cells h.2.2.2⟩
set_option maxHeartbeats 2000000 in
set_option maxRecDepth 100000 in
theorem l15Copy_any (d : PortD) (A : PortA) (w : World) (hm : PortM w d A) (lg : d.gs.length ≤ 1048576) (ly : d.ys.length ≤ 1048576) (hX : A.ax = none → d.gs.length = 0 ∧ A.cx = 0) (hA : A.ay = none → d.ys.length = 0 ∧ A.cy = 0) :
    Calls Tryd.prog 20 #[.agg (portC d A)] w fun e w' => ∃ A1 : PortA, e = .returned (.agg (portC d A1)) ∧ OwnG w' w.heap.size A1.ax A1.cx d.gs ∧ OwnI w' w.heap.size A1.ay A1.cy d.ys ∧ Apart A1.ax A1.ay ∧ Below w.heap.size w w' := by
  have b0 : Below w.heap.size w ((w.alloc (.cells (portC d A) 34)).alloc (.cells (portC zPort zPortA) 34)) := ((Below.refl _ _).alloc (Nat.le_refl _) _).alloc (by simp) _
  have H0 := box_alloc (heap_new_at w (.cells (portC d A) 34) _ rfl) (.cells (portC zPort zPortA) 34)
  have G0 := heap_new_at (w.alloc (.cells (portC d A) 34)) (.cells (portC zPort zPortA) 34) (w.heap.size + 1) (by simp)
  go_enter Tryd.func20, Tryd.ntmps20
  go_upto_region 1 with fail
  refine name_wp fun W hW => ?_
  have bW : Below w.heap.size w W := by rw [hW]; exact b0
  have h1 : W.heap[w.heap.size]? = some (.cells (portC d A) 34 (0, 0)) := by rw [hW]; exact H0
  have h2 : W.heap[w.heap.size + 1]? = some (.cells (portC zPort zPortA) 34 (0, 0)) := by rw [hW]; exact G0
  have zW : w.heap.size + 2 ≤ W.heap.size := by rw [hW]; simp
  clear hW b0 H0 G0
  have c_1 := box_cell h1 7 (v := .slice A.ax d.gs.length A.cx) rfl
  have lc_1 := box_lt h1
  go_wp2_with (first
    | (at_builtin
       refine name_list fun Wq hq => ?_
       have bq : Below W.heap.size W Wq := (by rw [hq]; exact (Below.refl _ _).alloc (Nat.le_refl _) _)
       have oq : Wq.ownsRow W.heap.size 82 2 (.slice (some ⟨W.heap.size, 0, none⟩) 0 0) 0 [] := (by rw [hq]; exact own_made_at W #[] _ _ 0 _ _ rfl (Nat.le_refl _) (by simp) rfl)
       have Bq := bW.trans (bq.mono bW.size)
       refine wpList_append_row Wq rfl _ _ _ rfl W.heap.size 82 _ 2 16 Tryd.underlying25 gt_info rfl (by decide) (some ⟨W.heap.size, 0, none⟩) 0 0 [] (by rfl) oq A.ax (d.gs.length) (A.cx) (d.gs.flatMap gtCells) (by rfl) (Gts.below hm.1 Bq) (flatN_length gtCells 2 gtCells_length _) (gts_one _) hX (by simp only [maxLen]; omega) (by omega) bq.size ?_
       intro a_2 c_3 w_4 o_5 hg
       rw [Nat.zero_add, List.nil_append] at o_5
       rw [Nat.zero_add]
       have b_6 := below_append bq oq hg bq.size
       clear hq bq oq Bq
       clear hg
       have zw_4 := b_6.size
       have B_7 := bW.trans (b_6.mono bW.size)
       have H_8 := (b_6.block _ (box_lt h1)).trans h1
       have H_9 := (b_6.block _ (box_lt h2)).trans h2
       skip)
    | (refine wpList_store_any _ rfl rfl (by rfl) (b := w.heap.size) (off := 7) (n := 1) rfl rfl (vs := #[.slice a_2 d.gs.length c_3]) rfl H_8 (by kernel_rfl) rfl rfl (Nat.le_of_ble_eq_true rfl) (portC d ⟨a_2, c_3, A.ay, A.cy⟩) rfl ?_
       intro w_10 H_11 g_12
       have zw_10 := g_12.size
       have B_13 := below_only B_7 g_12 (by omega)
       have H_14 := box_only' H_9 g_12 (by omega)
       have o_15 := own_ty o_5 H_8 (by decide) g_12
       have c_16 := box_cell H_11 11 (v := .slice A.ay d.ys.length A.cy) rfl
       have lc_16 := box_lt H_11
       skip)
    | (at_builtin
       refine name_list fun Wq hq => ?_
       have bq : Below w_10.heap.size w_10 Wq := (by rw [hq]; exact (Below.refl _ _).alloc (Nat.le_refl _) _)
       have oq : Wq.ownsRow w_10.heap.size 3 1 (.slice (some ⟨w_10.heap.size, 0, none⟩) 0 0) 0 [] := (by rw [hq]; exact own_made_at w_10 #[] _ _ 0 _ _ rfl (Nat.le_refl _) (by simp) rfl)
       have Bq := B_13.trans (bq.mono B_13.size)
       refine wpList_append_row Wq rfl _ _ _ rfl w_10.heap.size 3 _ 1 8 Tryd.underlying28 int_info rfl (by decide) (some ⟨w_10.heap.size, 0, none⟩) 0 0 [] (by rfl) oq A.ay (d.ys.length) (A.cy) (d.ys.map (Value.int .i64)) (by rfl) (Ints.below hm.2 Bq) (by simp) (ints_one _) hA (by simp only [maxLen]; omega) (by omega) bq.size ?_
       intro a_17 c_18 w_19 o_20 hg
       rw [Nat.zero_add, List.nil_append] at o_20
       rw [Nat.zero_add]
       have b_21 := below_append bq oq hg bq.size
       clear hq bq oq Bq
       clear hg
       have zw_19 := b_21.size
       have B_22 := B_13.trans (b_21.mono B_13.size)
       have ap0 := (own_in o_15).apart (own_in o_20) (.inl (Nat.le_refl _))
       have H_23 := (b_21.block _ (box_lt H_11)).trans H_11
       have H_24 := (b_21.block _ (box_lt H_14)).trans H_14
       have o_25 := own_below o_15 b_21
       skip)
    | (refine wpList_store_any _ rfl rfl (by rfl) (b := w.heap.size) (off := 11) (n := 1) rfl rfl (vs := #[.slice a_17 d.ys.length c_18]) rfl H_23 (by kernel_rfl) rfl rfl (Nat.le_of_ble_eq_true rfl) (portC d ⟨a_2, c_3, a_17, c_18⟩) rfl ?_
       intro w_26 H_27 g_28
       have zw_26 := g_28.size
       have B_29 := below_only B_22 g_28 (by omega)
       have H_30 := box_only' H_24 g_28 (by omega)
       have o_31 := own_ty o_25 H_23 (by decide) g_28
       have o_32 := own_ty o_20 H_23 (by decide) g_28
       skip)
    | (refine wpList_load_box _ rfl (by rfl) (b := w.heap.size) (off := 0) (n := 18) rfl H_27 Tryd.underlying34 (by kernel_rfl) (Nat.le_of_ble_eq_true rfl) (portC d ⟨a_2, c_3, a_17, c_18⟩) rfl ?_
       skip)
    | (refine wpList_store_any _ rfl rfl (by rfl) (b := w.heap.size + 1) (off := 0) (n := 18) rfl rfl (vs := portC d ⟨a_2, c_3, a_17, c_18⟩) rfl H_30 (by kernel_rfl) rfl rfl (Nat.le_of_ble_eq_true rfl) (portC d ⟨a_2, c_3, a_17, c_18⟩) rfl ?_
       intro w_33 H_34 g_35
       have zw_33 := g_35.size
       have B_36 := below_only B_29 g_35 (by omega)
       have H_37 := box_only' H_27 g_35 (by omega)
       have o_38 := own_ty o_31 H_30 (by decide) g_35
       have o_39 := own_ty o_32 H_30 (by decide) g_35
       skip))
  refine bodyPost_ret (results_cell Tryd.results20 rfl (load_box (P := Tryd.prog) H_34 Tryd.underlying34 (by kernel_rfl) rfl)) rfl ?_
  exact ⟨⟨a_2, c_3, a_17, c_18⟩, rfl, own_base o_38 (by omega), own_base o_39 (by omega), ap0, B_36⟩
end Go.Proofs.YtkmampichfbppaaDoor
