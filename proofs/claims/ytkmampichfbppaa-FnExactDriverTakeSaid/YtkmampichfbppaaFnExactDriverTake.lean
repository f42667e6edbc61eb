/- FnExactDriverTake: The program's DriverTake returns what the reference's returns. No conditions beyond the statement's own. -/
import Derived.Test.YtkmampichfbppaaDrvEx3
namespace Go.Proofs.Ytkmampichfbppaa
open Go.ChangeShapes Go.WideShapes Go.ChangeAt Go.RowKit

set_option maxHeartbeats 4000000 in
set_option maxRecDepth 100000 in
theorem FnExactDriverTake_walk (d0 : DrvD) (A0 : DrvA) (x1 : Int) (w : World) (hm0 : DrvM w d0 A0) (hx0 : DrvX d0) (_wx1 : -9223372036854775808 ≤ x1 ∧ x1 ≤ 9223372036854775807) :
    Calls Try.prog 3 #[.agg (drvC d0 A0), .int .i64 x1] w fun e w' => e = .returned (.bool true) ∧ Below w.heap.size w w' := by
  obtain ⟨lg, ly, li, lo⟩ := hx0
  by_cases hn : (d0.p.gs.length : Int) + (d0.p.ys.length : Int) + (d0.i.length : Int) + (d0.o.length : Int) ≤ 1048576
  case neg =>
    have b0 : Below w.heap.size w (w.alloc (.cells (drvC d0 A0) 35)) := (Below.refl _ _).alloc (Nat.le_refl _) _
    have H0 := heap_new_at w (.cells (drvC d0 A0) 35) _ rfl
    go_enter Try.func3, Try.ntmps3
    go_wp2_with (first
      | (refine wpList_load_box _ rfl (by rfl) (b := w.heap.size) (off := 0) (n := 22) rfl H0 Try.underlying35 (by kernel_rfl) (Nat.le_of_ble_eq_true rfl) (drvC d0 A0) rfl ?_))
    refine name_calls fun W hW => ?_
    have bW : Below w.heap.size w W := by rw [hW]; exact b0
    have h1 : W.heap[w.heap.size]? = some (.cells (drvC d0 A0) 35 (0, 0)) := by rw [hW]; exact H0
    have zW : w.heap.size + 1 ≤ W.heap.size := by rw [hW]; simp
    clear hW b0 H0
    refine (szDriver_no d0 A0 1048576 W (by omega) (by omega) (by omega) (by omega) (by omega) (by omega) (by omega)).mono ?_
    rintro e w_1 ⟨rfl, b_2⟩
    have zw_1 := b_2.size
    have B_3 := bW.trans (b_2.mono bW.size)
    have H_4 := (b_2.block _ (box_lt h1)).trans h1
    go_wp2
    go_ret
    exact ⟨rfl, B_3⟩
  have hl0 : DrvL d0 := ⟨by omega, by omega, by omega, by omega⟩
  have hk0 := drvN_le d0 hl0
  have hlen := takeR_len x1 hl0
  obtain ⟨⟨d2, L1, ok⟩, hR⟩ : ∃ R, R = takeR d0 x1 := ⟨_, rfl⟩
  rw [← hR] at hlen
  have hR := hR.symm
  obtain ⟨hl2, hL1⟩ := hlen
  dsimp only at hl2 hL1
  have hk2 := drvN_le d2 hl2
  have HS := Lib.hid (fun A v (h : DrvM v d0 A) (n : DrvN d0 A) => take_at hR (specDriverTake_any d0 A x1 v h hl0 n))
  have HI := Lib.hid (fun A v (h : DrvM v d0 A) (n : DrvN d0 A) => take_at hR (implDriverTake_any d0 A x1 v h hl0 n))
  clear hR
  have b0 : Below w.heap.size w (w.alloc (.cells (drvC d0 A0) 35)) := (Below.refl _ _).alloc (Nat.le_refl _) _
  have H0 := heap_new_at w (.cells (drvC d0 A0) 35) _ rfl
  go_enter Try.func3, Try.ntmps3
  go_wp2_with (first
    | (refine wpList_load_box _ rfl (by rfl) (b := w.heap.size) (off := 0) (n := 22) rfl H0 Try.underlying35 (by kernel_rfl) (Nat.le_of_ble_eq_true rfl) (drvC d0 A0) rfl ?_))
  refine name_calls fun W hW => ?_
  have bW : Below w.heap.size w W := by rw [hW]; exact b0
  have h1 : W.heap[w.heap.size]? = some (.cells (drvC d0 A0) 35 (0, 0)) := by rw [hW]; exact H0
  have zW : w.heap.size + 1 ≤ W.heap.size := by rw [hW]; simp
  clear hW b0 H0
  refine (szDriver_yes d0 A0 1048576 W (by omega) (by omega)).mono ?_
  rintro e w_5 ⟨rfl, b_6⟩
  have zw_5 := b_6.size
  have B_7 := bW.trans (b_6.mono bW.size)
  have H_8 := (b_6.block _ (box_lt h1)).trans h1
  go_wp2_with (first
    | (refine wpList_load_box _ rfl (by rfl) (b := w.heap.size) (off := 0) (n := 22) rfl H_8 Try.underlying35 (by kernel_rfl) (Nat.le_of_ble_eq_true rfl) (drvC d0 A0) rfl ?_
       skip))
  refine (toDriver_any d0 A0 w_5 (hm0.below B_7) hl0).mono ?_
  rintro e w_9 ⟨Au, rfl, Ou, Su, b_10⟩
  have zw_9 := b_10.size
  have B_11 := B_7.trans (b_10.mono B_7.size)
  have H_12 := (b_10.block _ (box_lt H_8)).trans H_8
  have hLu := Lib.hid (DrvO.inL Ou)
  go_wp2_with fail
  refine (HS.out Au w_9 (Ou).m (Ou).n).mono ?_
  rintro e w_13 ⟨Aq, aq, cq, rfl, Oq, oq, Sq, b_14⟩
  have zw_13 := b_14.size
  have B_15 := B_11.trans (b_14.mono B_11.size)
  have H_16 := (b_14.block _ (box_lt H_12)).trans H_12
  have m_17 := Ou.below b_14
  have hLq := Lib.hid (DrvO.inL Oq)
  have ilql := Lib.hid (own_in oq)
  clear Su Sq
  go_wp2_with (first
    | (refine wpList_store_any _ rfl rfl (by rfl) (b := w_13.heap.size) (off := 0) (n := 22) rfl rfl (vs := drvC d2 Aq) rfl (heap_new_at w_13 (.cells (drvC zDrv zDrvA) 46) _ rfl) (by kernel_rfl) rfl rfl (Nat.le_of_ble_eq_true rfl) (drvC d2 Aq) rfl ?_
       intro w_18 H_19 g_20
       have b_21 : Below w_13.heap.size w_13 w_18 := below_only ((Below.refl _ _).alloc (Nat.le_refl _) _) g_20 (Nat.le_refl _)
       have zw_18 := b_21.size
       have B_22 := B_15.trans (b_21.mono B_15.size)
       have lH_19 := box_lt H_19
       have H_23 := (b_21.block _ (box_lt H_16)).trans H_16
       have o_24 := own_below oq b_21
       have m_25 := m_17.below b_21
       have m_26 := Oq.below b_21
       skip)
    | (refine wpList_load_box _ rfl (by rfl) (b := w.heap.size) (off := 0) (n := 22) rfl H_23 Try.underlying35 (by kernel_rfl) (Nat.le_of_ble_eq_true rfl) (drvC d0 A0) rfl ?_
       skip))
  refine (toDriver_any d0 A0 w_18 (hm0.below B_22) hl0).mono ?_
  rintro e w_27 ⟨Ax, rfl, Ox, Sx, b_28⟩
  have zw_27 := b_28.size
  have B_29 := B_22.trans (b_28.mono B_22.size)
  have H_30 := (b_28.block _ (box_lt H_23)).trans H_23
  have H_31 := (b_28.block _ (box_lt H_19)).trans H_19
  have o_32 := own_below o_24 b_28
  have m_33 := m_26.below b_28
  have hLx := Lib.hid (DrvO.inL Ox)
  go_wp2_with (first
    | (refine wpList_store_any _ rfl rfl (by rfl) (b := w_27.heap.size) (off := 0) (n := 22) rfl rfl (vs := drvC d0 Ax) rfl (heap_new_at w_27 (.cells (drvC zDrv zDrvA) 46) _ rfl) (by kernel_rfl) rfl rfl (Nat.le_of_ble_eq_true rfl) (drvC d0 Ax) rfl ?_
       intro w_34 H_35 g_36
       have b_37 : Below w_27.heap.size w_27 w_34 := below_only ((Below.refl _ _).alloc (Nat.le_refl _) _) g_36 (Nat.le_refl _)
       have zw_34 := b_37.size
       have B_38 := B_29.trans (b_37.mono B_29.size)
       have lH_35 := box_lt H_35
       have H_39 := (b_37.block _ (box_lt H_30)).trans H_30
       have H_40 := (b_37.block _ (box_lt H_31)).trans H_31
       have o_41 := own_below o_32 b_37
       have m_42 := m_33.below b_37
       have m_43 := Ox.below b_37
       skip)
    | (refine wpList_load_box _ rfl (by rfl) (b := w_27.heap.size) (off := 0) (n := 22) rfl H_35 Try.underlying46 (by kernel_rfl) (Nat.le_of_ble_eq_true rfl) (drvC d0 Ax) rfl ?_
       skip))
  refine (HI.out Ax w_34 (m_43).m (m_43).n).mono ?_
  rintro e w_44 ⟨Ag, ag, cg, rfl, Og, og, Sg, b_45⟩
  have zw_44 := b_45.size
  have B_46 := B_38.trans (b_45.mono B_38.size)
  have H_47 := (b_45.block _ (box_lt H_39)).trans H_39
  have H_48 := (b_45.block _ (box_lt H_40)).trans H_40
  have H_49 := (b_45.block _ (box_lt H_35)).trans H_35
  have o_50 := own_below o_41 b_45
  have m_51 := m_42.below b_45
  have m_52 := m_43.below b_45
  have hLg := Lib.hid (DrvO.inL Og)
  have ilgl := Lib.hid (own_in og)
  go_wp2_with (first
    | (refine wpList_store_any _ rfl rfl (by rfl) (b := w_44.heap.size) (off := 0) (n := 22) rfl rfl (vs := drvC d2 Ag) rfl (heap_new_at w_44 (.cells (drvC zDrv zDrvA) 46) _ rfl) (by kernel_rfl) rfl rfl (Nat.le_of_ble_eq_true rfl) (drvC d2 Ag) rfl ?_
       intro w_53 H_54 g_55
       have b_56 : Below w_44.heap.size w_44 w_53 := below_only ((Below.refl _ _).alloc (Nat.le_refl _) _) g_55 (Nat.le_refl _)
       have zw_53 := b_56.size
       have B_57 := B_46.trans (b_56.mono B_46.size)
       have lH_54 := box_lt H_54
       have H_58 := (b_56.block _ (box_lt H_47)).trans H_47
       have H_59 := (b_56.block _ (box_lt H_48)).trans H_48
       have H_60 := (b_56.block _ (box_lt H_49)).trans H_49
       have o_61 := own_below o_50 b_56
       have o_62 := own_below og b_56
       have m_63 := m_51.below b_56
       have m_64 := m_52.below b_56
       have m_65 := Og.below b_56
       skip)
    | (refine wpList_load_box _ rfl (by rfl) (b := w_44.heap.size) (off := 0) (n := 22) rfl H_54 Try.underlying46 (by kernel_rfl) (Nat.le_of_ble_eq_true rfl) (drvC d2 Ag) rfl ?_
       skip)
    | (refine wpList_load_box _ rfl (by rfl) (b := w_13.heap.size) (off := 0) (n := 22) rfl H_59 Try.underlying46 (by kernel_rfl) (Nat.le_of_ble_eq_true rfl) (drvC d2 Aq) rfl ?_
       skip))
  refine (eqDriver_eq d2 Ag Aq w_53 (m_65).m (m_63).m hl2).mono ?_
  rintro e w_66 ⟨rfl, b_67⟩
  have zw_66 := b_67.size
  have B_68 := B_57.trans (b_67.mono B_57.size)
  have H_69 := (b_67.block _ (box_lt H_58)).trans H_58
  have H_70 := (b_67.block _ (box_lt H_59)).trans H_59
  have H_71 := (b_67.block _ (box_lt H_60)).trans H_60
  have H_72 := (b_67.block _ (box_lt H_54)).trans H_54
  have o_73 := own_below o_61 b_67
  have o_74 := own_below o_62 b_67
  have m_75 := m_63.below b_67
  have m_76 := m_64.below b_67
  have m_77 := m_65.below b_67
  go_wp2_with fail
  refine (eqIntS_below ag aq L1 L1 cg cq w_66 (own_cells o_74) (own_cells o_73) (by omega) (by omega)).mono ?_
  rintro e w_78 ⟨rfl, b_79⟩
  have zw_78 := b_79.size
  have B_80 := B_68.trans (b_79.mono B_68.size)
  have H_81 := (b_79.block _ (box_lt H_69)).trans H_69
  have H_82 := (b_79.block _ (box_lt H_70)).trans H_70
  have H_83 := (b_79.block _ (box_lt H_71)).trans H_71
  have H_84 := (b_79.block _ (box_lt H_72)).trans H_72
  have o_85 := own_below o_73 b_79
  have o_86 := own_below o_74 b_79
  have m_87 := m_75.below b_79
  have m_88 := m_76.below b_79
  have m_89 := m_77.below b_79
  go_wp2_with fail
  have KS : (fun v : World => v.heap[w_27.heap.size]? = some (.cells (drvC d0 Ax) 46 (0, 0)) ∧ v.heap[w.heap.size]? = some (.cells (drvC d0 A0) 35 (0, 0))) w_78.drew := ⟨H_83, H_81⟩
  have BD : Below w_78.heap.size w_78 w_78.drew := (Below.refl _ _).drew
  refine wp_region_held_drew (S := fun v : World => v.heap[w_27.heap.size]? = some (.cells (drvC d0 Ax) 46 (0, 0)) ∧ v.heap[w.heap.size]? = some (.cells (drvC d0 A0) 35 (0, 0))) (by kernel_rfl) KS (fun _ => ?_)
  refine wpAnyH_take (i := 0) (v := .agg (drvC d0 Ax)) rfl (by kernel_rfl) (by kernel_rfl) (by kernel_rfl) (fun _ _ _ h => h) (yieldsIf_load_box (n := 22) (off := 0) rfl rfl rfl (fun _ h => h.1) Try.underlying46 (by kernel_rfl) (Nat.le_of_ble_eq_true rfl) _ rfl) KS ?_
  go_simp
  refine wpAnyH_take (i := 1) (v := .agg (drvC d0 A0)) rfl (by kernel_rfl) (by kernel_rfl) (by kernel_rfl) (fun _ _ _ h => h) (yieldsIf_load_box (n := 22) (off := 0) rfl rfl rfl (fun _ h => h.2) Try.underlying35 (by kernel_rfl) (Nat.le_of_ble_eq_true rfl) _ rfl) KS ?_
  go_simp
  refine wpAnyH_ready (rs := [2]) (by kernel_rfl) (by simp) (AllReadyH.cons rfl (fun KK hK => ?_) AllReadyH.nil)
  go_simp
  go_at_call 13
  refine (toDriver_any d0 A0 w_78.drew (hm0.below B_80.drew) hl0).mono ?_
  rintro e w_90 ⟨Ay, rfl, Oy, Sy, b_92⟩
  have K5 : (fun v : World => v.heap[w_27.heap.size]? = some (.cells (drvC d0 Ax) 46 (0, 0)) ∧ v.heap[w.heap.size]? = some (.cells (drvC d0 A0) 35 (0, 0))) w_90 := ⟨(b_92.block _ (box_lt KS.1)).trans KS.1, (b_92.block _ (box_lt KS.2)).trans KS.2⟩
  go_simp
  refine hK.out _ _ K5 (fun _ => ?_)
  clear hK KK
  refine wpAnyH_ready (rs := [3]) (by kernel_rfl) (by simp) (AllReadyH.cons rfl (fun KK hK => ?_) AllReadyH.nil)
  go_simp
  go_at_call 15
  refine (eqDriver_eq d0 Ax Ay w_90 ((m_88.below BD).below b_92).m Oy.m hl0).mono ?_
  rintro e w_91 ⟨rfl, b_93⟩
  have K6 : (fun v : World => v.heap[w_27.heap.size]? = some (.cells (drvC d0 Ax) 46 (0, 0)) ∧ v.heap[w.heap.size]? = some (.cells (drvC d0 A0) 35 (0, 0))) w_91 := ⟨(b_93.block _ (box_lt K5.1)).trans K5.1, (b_93.block _ (box_lt K5.2)).trans K5.2⟩
  go_simp
  refine hK.out _ _ K6 (fun _ => ?_)
  clear hK KK
  refine wpAnyH_take (i := 4) (v := .bool false) rfl (by kernel_rfl) (by kernel_rfl) (by kernel_rfl) (fun _ _ _ h => h) (Or.inl ⟨by rfl, by intro w _; go_simp⟩) K6 ?_
  go_simp
  refine wpAnyH_done (by kernel_rfl) ?_ _
  have b_94 : Below w_78.heap.size w_78 w_91 := (BD.trans (b_92.mono (Nat.le_refl _))).trans (b_93.mono b_92.size)
  clear KS K5 K6 BD Oy Sy
  have zw_91 := b_94.size
  have B_95 := B_80.trans (b_94.mono B_80.size)
  have H_96 := (b_94.block _ (box_lt H_81)).trans H_81
  have H_97 := (b_94.block _ (box_lt H_82)).trans H_82
  have H_98 := (b_94.block _ (box_lt H_83)).trans H_83
  have H_99 := (b_94.block _ (box_lt H_84)).trans H_84
  have o_100 := own_below o_85 b_94
  have o_101 := own_below o_86 b_94
  have m_102 := m_87.below b_94
  have m_103 := m_88.below b_94
  have m_104 := m_89.below b_94
  go_wp2_with (first
    | (refine wpList_load_box _ rfl (by rfl) (b := w_27.heap.size) (off := 0) (n := 22) rfl H_98 Try.underlying46 (by kernel_rfl) (Nat.le_of_ble_eq_true rfl) (drvC d0 Ax) rfl ?_
       skip))
  refine (markDriver_any d0 Ax _ 1 w_91 m_103 Sx (by omega) (by have := hk0.2; omega)).mono ?_
  rintro e w_105 ⟨rfl, M_106, f_107⟩
  have zw_105 := f_107.size
  have B_108 := Off.bel B_95 f_107 B_95.size (hLx.out.low (by omega))
  have H_109 := Off.box H_96 f_107 (DrvO.ne m_103 H_96 (by decide) (by decide))
  have H_110 := Off.box H_97 f_107 (DrvO.ne m_103 H_97 (by decide) (by decide))
  have H_111 := Off.box H_98 f_107 (DrvO.ne m_103 H_98 (by decide) (by decide))
  have H_112 := Off.box H_99 f_107 (DrvO.ne m_103 H_99 (by decide) (by decide))
  have O_113 := DrvO.off m_102 f_107 hLx.out hLq.out (by omega)
  have O_114 := DrvO.off m_104 f_107 hLx.out hLg.out (by omega)
  have o_115 := own_off o_100 f_107 (hLx.out.apart ilql.out (by omega))
  have o_116 := own_off o_101 f_107 (hLx.out.apart ilgl.out (by omega))
  go_wp2_with (first
    | (refine wpList_load_box _ rfl (by rfl) (b := w_44.heap.size) (off := 0) (n := 22) rfl H_112 Try.underlying46 (by kernel_rfl) (Nat.le_of_ble_eq_true rfl) (drvC d2 Ag) rfl ?_
       skip)
    | (refine wpList_load_box _ rfl (by rfl) (b := w_13.heap.size) (off := 0) (n := 22) rfl H_110 Try.underlying46 (by kernel_rfl) (Nat.le_of_ble_eq_true rfl) (drvC d2 Aq) rfl ?_
       skip))
  refine (eqDriver_eq d2 Ag Aq w_105 (O_114).m (O_113).m hl2).mono ?_
  rintro e w_117 ⟨rfl, b_118⟩
  have zw_117 := b_118.size
  have B_119 := B_108.trans (b_118.mono B_108.size)
  have H_120 := (b_118.block _ (box_lt H_109)).trans H_109
  have H_121 := (b_118.block _ (box_lt H_110)).trans H_110
  have H_122 := (b_118.block _ (box_lt H_112)).trans H_112
  have o_123 := own_below o_115 b_118
  have o_124 := own_below o_116 b_118
  have m_125 := O_113.below b_118
  have m_126 := O_114.below b_118
  go_wp2_with fail
  refine (eqIntS_below ag aq L1 L1 cg cq w_117 (own_cells o_124) (own_cells o_123) (by omega) (by omega)).mono ?_
  rintro e w_127 ⟨rfl, b_128⟩
  have zw_127 := b_128.size
  have B_129 := B_119.trans (b_128.mono B_119.size)
  have H_130 := (b_128.block _ (box_lt H_120)).trans H_120
  have H_131 := (b_128.block _ (box_lt H_121)).trans H_121
  have H_132 := (b_128.block _ (box_lt H_122)).trans H_122
  have o_133 := own_below o_123 b_128
  have o_134 := own_below o_124 b_128
  have m_135 := m_125.below b_128
  have m_136 := m_126.below b_128
  go_wp2_with (first
    | (refine wpList_load_box _ rfl (by rfl) (b := w_44.heap.size) (off := 0) (n := 22) rfl H_132 Try.underlying46 (by kernel_rfl) (Nat.le_of_ble_eq_true rfl) (drvC d2 Ag) rfl ?_
       skip))
  refine (markDriver_any d2 Ag _ 1 w_127 m_136 Sg.1 (by omega) (by have := hk2.2; omega)).mono ?_
  rintro e w_137 ⟨rfl, M_138, f_139⟩
  have zw_137 := f_139.size
  have B_140 := Off.bel B_129 f_139 B_129.size (hLg.out.low (by omega))
  have H_141 := Off.box H_130 f_139 (DrvO.ne m_136 H_130 (by decide) (by decide))
  have H_142 := Off.box H_131 f_139 (DrvO.ne m_136 H_131 (by decide) (by decide))
  have H_143 := Off.box H_132 f_139 (DrvO.ne m_136 H_132 (by decide) (by decide))
  have O_144 := DrvO.off m_135 f_139 hLg.out hLq.out (by omega)
  have o_145 := own_off o_133 f_139 (hLg.out.apart ilql.out (by omega))
  have o_146 := own_off o_134 f_139 (TakeS.row Sg m_136 o_134)
  go_wp2_with fail
  refine (markIntS_any _ ag _ cg (drvN d2 1) _ w_137 o_146 (by omega) (by omega)).mono ?_
  rintro e w_147 ⟨rfl, o_148, g_149⟩
  have f_150 := Off.row g_149
  have M_151 := MarkO.row M_138 o_146 Sg g_149
  have zw_147 := f_150.size
  have B_152 := Off.bel B_140 f_150 B_140.size ((inL_one ilgl.out).low (by omega))
  have H_153 := Off.box H_141 f_150 (row_ne o_146 H_141 (by decide))
  have H_154 := Off.box H_142 f_150 (row_ne o_146 H_142 (by decide))
  have H_155 := Off.box H_143 f_150 (row_ne o_146 H_143 (by decide))
  have O_156 := DrvO.off O_144 f_150 (inL_one ilgl.out) hLq.out (by omega)
  have o_157 := own_off o_145 f_150 ((inL_one ilgl.out).apart ilql.out (by omega))
  go_wp2_with (first
    | (refine wpList_load_box _ rfl (by rfl) (b := w_44.heap.size) (off := 0) (n := 22) rfl H_155 Try.underlying46 (by kernel_rfl) (Nat.le_of_ble_eq_true rfl) (drvC d2 Ag) rfl ?_
       skip))
  refine (heldDriver_any d2 Ag 1 w_147 (M_151).held (by omega) (by have := hk2.2; omega)).mono ?_
  rintro e w_158 ⟨rfl, b_159⟩
  have zw_158 := b_159.size
  have B_160 := B_152.trans (b_159.mono B_152.size)
  have H_161 := (b_159.block _ (box_lt H_153)).trans H_153
  have H_162 := (b_159.block _ (box_lt H_154)).trans H_154
  have H_163 := (b_159.block _ (box_lt H_155)).trans H_155
  have o_164 := own_below o_157 b_159
  have o_165 := own_below o_148 b_159
  have m_166 := O_156.below b_159
  have m_167 := M_151.below b_159
  go_wp2_with fail
  refine (heldIntS_below ag _ cg (drvN d2 1) w_158 (own_cells o_165) (by omega) (by omega)).mono ?_
  rintro e w_168 ⟨rfl, b_169⟩
  have zw_168 := b_169.size
  have B_170 := B_160.trans (b_169.mono B_160.size)
  have H_171 := (b_169.block _ (box_lt H_161)).trans H_161
  have H_172 := (b_169.block _ (box_lt H_162)).trans H_162
  have H_173 := (b_169.block _ (box_lt H_163)).trans H_163
  have o_174 := own_below o_164 b_169
  have o_175 := own_below o_165 b_169
  have m_176 := m_166.below b_169
  have m_177 := m_167.below b_169
  go_wp2_with (first
    | (refine wpList_load_box _ rfl (by rfl) (b := w.heap.size) (off := 0) (n := 22) rfl H_171 Try.underlying35 (by kernel_rfl) (Nat.le_of_ble_eq_true rfl) (drvC d0 A0) rfl ?_
       skip))
  refine (toDriver_any d0 A0 w_168 (hm0.below B_170) hl0).mono ?_
  rintro e w_178 ⟨Av, rfl, Ov, Sv, b_179⟩
  have zw_178 := b_179.size
  have B_180 := B_170.trans (b_179.mono B_170.size)
  have H_181 := (b_179.block _ (box_lt H_171)).trans H_171
  have H_182 := (b_179.block _ (box_lt H_172)).trans H_172
  have H_183 := (b_179.block _ (box_lt H_173)).trans H_173
  have o_184 := own_below o_174 b_179
  have o_185 := own_below o_175 b_179
  have m_186 := m_176.below b_179
  have m_187 := m_177.below b_179
  have hLv := Lib.hid (DrvO.inL Ov)
  go_wp2_with fail
  refine (HI.out Av w_178 (Ov).m (Ov).n).mono ?_
  rintro e w_188 ⟨Ah, ah, ch, rfl, Oh, oh, Sh, b_189⟩
  have zw_188 := b_189.size
  have B_190 := B_180.trans (b_189.mono B_180.size)
  have H_191 := (b_189.block _ (box_lt H_181)).trans H_181
  have H_192 := (b_189.block _ (box_lt H_182)).trans H_182
  have H_193 := (b_189.block _ (box_lt H_183)).trans H_183
  have o_194 := own_below o_184 b_189
  have o_195 := own_below o_185 b_189
  have m_196 := m_186.below b_189
  have m_197 := m_187.below b_189
  have m_198 := Ov.below b_189
  have hLh := Lib.hid (DrvO.inL Oh)
  have ilhl := Lib.hid (own_in oh)
  clear Sv Sh
  go_wp2_with (first
    | (refine wpList_store_any _ rfl rfl (by rfl) (b := w_188.heap.size) (off := 0) (n := 22) rfl rfl (vs := drvC d2 Ah) rfl (heap_new_at w_188 (.cells (drvC zDrv zDrvA) 46) _ rfl) (by kernel_rfl) rfl rfl (Nat.le_of_ble_eq_true rfl) (drvC d2 Ah) rfl ?_
       intro w_199 H_200 g_201
       have b_202 : Below w_188.heap.size w_188 w_199 := below_only ((Below.refl _ _).alloc (Nat.le_refl _) _) g_201 (Nat.le_refl _)
       have zw_199 := b_202.size
       have B_203 := B_190.trans (b_202.mono B_190.size)
       have lH_200 := box_lt H_200
       have H_204 := (b_202.block _ (box_lt H_191)).trans H_191
       have H_205 := (b_202.block _ (box_lt H_192)).trans H_192
       have H_206 := (b_202.block _ (box_lt H_193)).trans H_193
       have o_207 := own_below o_194 b_202
       have o_208 := own_below o_195 b_202
       have o_209 := own_below oh b_202
       have m_210 := m_196.below b_202
       have m_211 := m_197.below b_202
       have m_212 := m_198.below b_202
       have m_213 := Oh.below b_202
       skip)
    | (refine wpList_load_box _ rfl (by rfl) (b := w_188.heap.size) (off := 0) (n := 22) rfl H_200 Try.underlying46 (by kernel_rfl) (Nat.le_of_ble_eq_true rfl) (drvC d2 Ah) rfl ?_
       skip)
    | (refine wpList_load_box _ rfl (by rfl) (b := w_13.heap.size) (off := 0) (n := 22) rfl H_205 Try.underlying46 (by kernel_rfl) (Nat.le_of_ble_eq_true rfl) (drvC d2 Aq) rfl ?_
       skip))
  refine (eqDriver_eq d2 Ah Aq w_199 (m_213).m (m_210).m hl2).mono ?_
  rintro e w_214 ⟨rfl, b_215⟩
  have zw_214 := b_215.size
  have B_216 := B_203.trans (b_215.mono B_203.size)
  have H_217 := (b_215.block _ (box_lt H_204)).trans H_204
  have H_218 := (b_215.block _ (box_lt H_205)).trans H_205
  have H_219 := (b_215.block _ (box_lt H_206)).trans H_206
  have H_220 := (b_215.block _ (box_lt H_200)).trans H_200
  have o_221 := own_below o_207 b_215
  have o_222 := own_below o_208 b_215
  have o_223 := own_below o_209 b_215
  have m_224 := m_210.below b_215
  have m_225 := m_211.below b_215
  have m_226 := m_213.below b_215
  go_wp2_with fail
  refine (eqIntS_below ah aq L1 L1 ch cq w_214 (own_cells o_223) (own_cells o_221) (by omega) (by omega)).mono ?_
  rintro e w_227 ⟨rfl, b_228⟩
  have zw_227 := b_228.size
  have B_229 := B_216.trans (b_228.mono B_216.size)
  have H_230 := (b_228.block _ (box_lt H_217)).trans H_217
  have H_231 := (b_228.block _ (box_lt H_218)).trans H_218
  have H_232 := (b_228.block _ (box_lt H_219)).trans H_219
  have H_233 := (b_228.block _ (box_lt H_220)).trans H_220
  have o_234 := own_below o_221 b_228
  have o_235 := own_below o_222 b_228
  have o_236 := own_below o_223 b_228
  have m_237 := m_224.below b_228
  have m_238 := m_225.below b_228
  have m_239 := m_226.below b_228
  go_wp2_with (first
    | (refine wpList_load_box _ rfl (by rfl) (b := w_44.heap.size) (off := 0) (n := 22) rfl H_232 Try.underlying46 (by kernel_rfl) (Nat.le_of_ble_eq_true rfl) (drvC d2 Ag) rfl ?_
       skip))
  refine (heldDriver_any d2 Ag 1 w_227 (m_238).held (by omega) (by have := hk2.2; omega)).mono ?_
  rintro e w_240 ⟨rfl, b_241⟩
  have zw_240 := b_241.size
  have B_242 := B_229.trans (b_241.mono B_229.size)
  have H_243 := (b_241.block _ (box_lt H_230)).trans H_230
  have H_244 := (b_241.block _ (box_lt H_231)).trans H_231
  have H_245 := (b_241.block _ (box_lt H_232)).trans H_232
  have o_246 := own_below o_234 b_241
  have o_247 := own_below o_235 b_241
  have m_248 := m_237.below b_241
  have m_249 := m_238.below b_241
  go_wp2_with fail
  refine (heldIntS_below ag _ cg (drvN d2 1) w_240 (own_cells o_247) (by omega) (by omega)).mono ?_
  rintro e w_250 ⟨rfl, b_251⟩
  have zw_250 := b_251.size
  have B_252 := B_242.trans (b_251.mono B_242.size)
  have H_253 := (b_251.block _ (box_lt H_243)).trans H_243
  have H_254 := (b_251.block _ (box_lt H_244)).trans H_244
  have H_255 := (b_251.block _ (box_lt H_245)).trans H_245
  have o_256 := own_below o_246 b_251
  have o_257 := own_below o_247 b_251
  have m_258 := m_248.below b_251
  have m_259 := m_249.below b_251
  go_wp2
  go_ret
  exact ⟨rfl, B_252⟩

set_option linter.unusedVariables false in
set_option maxRecDepth 100000 in
theorem FnExactDriverTake_lifted (os : Os) (started : os.Started) (H : Type) (enc : TypeId × Value → H) :
    ReturnsInHanded {} Try.checked os 3 .any (Rows.fnExactDriverTakeSpec.pre6 enc Try.prog Try.f3 Rows.fnExactDriverTakeRow.domain false) (Rows.fnExactDriverTakeSpec.post enc Try.prog Try.f3 false true false false) := by
  refine returnsInHanded_of_change (C := Try.checked) own_knob started (by kernel_rfl) Try.func3
    (ChangeSpec.witness6 (enc := enc) (C := Try.checked) false ⟨#[], #[.agg #[.int .i64 0, .int .i64 0, .int .i64 0, .int .i64 0, .int .i64 0, .int .i64 0, .int .i64 0, .slice none 0 0, .bool false, .int .i64 0, .int .i64 0, .slice none 0 0, .int .i64 0, .int .i64 0, .bool false, .bool false, .bool false, .bool false, .slice none 0 0, .slice none 0 0, .int .i64 0, .int .i64 0], .int .i64 0], []⟩ 8 (by kernel_rfl) (by kernel_rfl) (by kernel_rfl) (by kernel_rfl)) ?_
  intro W base args ds gs before hval0 hW hcnd _
  have hval : ∀ (j : Nat) t v, Try.f3.params[j]? = some t → args[j]? = some v → Value.okWide Try.prog W .any base t v := hval0
  have hW' := hW
  obtain ⟨p, q, hA0, hV, rfl, hfz, hnd⟩ := hW
  have hA : DataW.TrodAll enc Try.prog W 0 (fun _ => true) true Try.f3.params.toList args.toList ds p := hA0
  rw [Try.params3] at hA hval
  obtain ⟨v0, vs0, d0, ds0, p0, q0, hargs, rfl, rfl, h0, r0⟩ := trodAll_cons hA
  obtain ⟨v1, vs1, d1, ds1, p1, q1, rfl, rfl, rfl, h1, r1⟩ := trodAll_cons r0
  obtain ⟨rfl, rfl, rfl⟩ := trodAll_nil r1
  obtain rfl : args = #[v0, v1] := by cases args; simp_all
  obtain ⟨rfl, rfl⟩ := trodVars_none hV
  have k0 := h0
  have lt0 : ∀ x ∈ p0, x.block < W.heap.size := by obtain ⟨m, hm⟩ := k0; exact DataW.trod_lt m _ _ _ hm
  obtain ⟨d0, A0, rfl, rz0, rx0⟩ := rd_driver (hval 0 35 v0 rfl rfl) h0
  obtain ⟨x1, rfl, rfl, rfl, wx1⟩ := open_int Try.underlying3 (hval 1 3 v1 rfl rfl) h1
  clear hA0 hval0
  refine (FnExactDriverTake_walk d0 A0 x1 W rz0 rx0 (bd_i64 wx1)).mono fun e W' ⟨he, bel⟩ => ?_
  subst he
  exact ⟨_, rfl, _, _, _, [], _, [], hW', trodAll_mk1 (shut_bool Try.underlying4 _), (trodAll_cons_mk (Below.trod laid_out (by kernel_rfl) (of_decide_eq_true (by kernel_rfl)) k0 bel lt0) (trodAll_cons_mk (shut_int Try.underlying3 wx1) trodAll_mk0)), rfl, bel.frame _, fun h => by cases h⟩

theorem FnExactDriverTake_holds : Rows.FnExactDriverTakeSaid :=
  OpenClaim.holds_of_wide 3 Try.f3 rfl rfl rfl rfl rfl rfl rfl ⟨rfl, rfl, rfl, rfl, rfl⟩ rfl rfl rfl rfl rfl (by kernel_rfl) Try.func3 (by kernel_rfl)
    (of_decide_eq_true (by kernel_rfl)) (by unfold Func.isWrapper; first | (rw [if_pos (by decide +kernel)]; kernel_rfl) | (rw [if_neg (by decide +kernel)]; exact ⟨rfl, rfl⟩))
    (fun os started H enc _ => FnExactDriverTake_lifted os started H enc)
end Go.Proofs.Ytkmampichfbppaa
