/- FnExactDriverSend: The program's DriverSend returns what the reference's returns. No conditions beyond the statement's own. -/
import Derived.Test.YtkmampichfbppaaDrvEx3
namespace Go.Proofs.Ytkmampichfbppaa
open Go.ChangeShapes Go.WideShapes Go.ChangeAt Go.RowKit

set_option maxHeartbeats 4000000 in
set_option maxRecDepth 100000 in
theorem FnExactDriverSend_walk (d0 : DrvD) (A0 : DrvA) (a1 : Option Addr) (z1 : List Int) (cap1 : Nat) (w : World) (hm0 : DrvM w d0 A0) (hx0 : DrvX d0) (rz1 : Ints w a1 z1) (_lc1 : z1.length ≤ cap1) (_lm1 : cap1 ≤ maxLen) :
    Calls Try.prog 4 #[.agg (drvC d0 A0), .slice a1 z1.length cap1] w fun e w' => e = .returned (.bool true) ∧ Below w.heap.size w w' := by
  obtain ⟨lg, ly, li, lo⟩ := hx0
  by_cases hn1 : (z1.length : Int) ≤ 1048576
  case neg =>
    have hn1' : (1048576 : Int) < (z1.length : Int) := by omega
    go_enter Try.func4, Try.ntmps4
    go_wp2
    go_ret
    refine ⟨rfl, ?_⟩
    repeat' (first | exact Below.refl _ _ | exact Nat.le_refl _ | assumption | refine Below.drew ?_ | refine below_drewN ?_ _ | (refine Below.alloc ?_ (by first | exact Nat.le_refl _ | omega | (simp; done) | (simp; omega)) _) | (refine Below.setCell ?_ (by first | exact Nat.le_refl _ | omega | (simp; done) | (simp; omega)) _))
  by_cases hn : (d0.p.gs.length : Int) + (d0.p.ys.length : Int) + (d0.i.length : Int) + (d0.o.length : Int) ≤ 1048576
  case neg =>
    have b0 : Below w.heap.size w (w.alloc (.cells (drvC d0 A0) 35)) := (Below.refl _ _).alloc (Nat.le_refl _) _
    have H0 := heap_new_at w (.cells (drvC d0 A0) 35) _ rfl
    go_enter Try.func4, Try.ntmps4
    go_wp2_with (first
      | (refine wpList_load_box _ rfl (by rfl) (b := w.heap.size) (off := 0) (n := 22) rfl H0 Try.underlying35 (by kernel_rfl) (Nat.le_of_ble_eq_true rfl) (drvC d0 A0) rfl ?_))
    refine name_calls fun W hW => ?_
    have bW : Below w.heap.size w W := by rw [hW]; exact b0
    have h1 : W.heap[w.heap.size]? = some (.cells (drvC d0 A0) 35 (0, 0)) := by rw [hW]; exact H0
    have zW : w.heap.size + 1 ≤ W.heap.size := by rw [hW]; simp
    clear hW b0 H0
    refine (szDriver_no d0 A0 1048576 W (by omega) (by omega) (by omega) (by omega) (by omega) (by omega) (by omega)).mono ?_
    rintro e w_1 ⟨rfl, b_2⟩
    have zw_1 := b_2.size
    have B_3 := bW.trans (b_2.mono bW.size)
    have H_4 := (b_2.block _ (box_lt h1)).trans h1
    go_wp2
    go_ret
    exact ⟨rfl, B_3⟩
  have hl0 : DrvL d0 := ⟨by omega, by omega, by omega, by omega⟩
  have hk0 := drvN_le d0 hl0
  have hl2 := sendR_len z1 hl0
  obtain ⟨⟨d2, ok⟩, hR⟩ : ∃ R, R = sendR d0 z1 := ⟨_, rfl⟩
  rw [← hR] at hl2
  have hR := hR.symm
  dsimp only at hl2
  have hk2 := drvN_le d2 hl2
  have HS := Lib.hid (fun A a c v (h : DrvM v d0 A) (n : DrvN d0 A) (hs : Ints v a z1) (hc : a = none → z1.length = 0 ∧ c = 0) => send_at hR (specDriverSend_any d0 A a z1 c v h hl0 n hs (by omega) hc))
  have HI := Lib.hid (fun A a c v (h : DrvM v d0 A) (n : DrvN d0 A) (hs : Ints v a z1) (hc : a = none → z1.length = 0 ∧ c = 0) => send_at hR (implDriverSend_any d0 A a z1 c v h hl0 n hs (by omega) hc))
  clear hR
  have b0 : Below w.heap.size w (w.alloc (.cells (drvC d0 A0) 35)) := (Below.refl _ _).alloc (Nat.le_refl _) _
  have H0 := heap_new_at w (.cells (drvC d0 A0) 35) _ rfl
  go_enter Try.func4, Try.ntmps4
  go_wp2_with (first
    | (refine wpList_load_box _ rfl (by rfl) (b := w.heap.size) (off := 0) (n := 22) rfl H0 Try.underlying35 (by kernel_rfl) (Nat.le_of_ble_eq_true rfl) (drvC d0 A0) rfl ?_))
  refine name_calls fun W hW => ?_
  have bW : Below w.heap.size w W := by rw [hW]; exact b0
  have h1 : W.heap[w.heap.size]? = some (.cells (drvC d0 A0) 35 (0, 0)) := by rw [hW]; exact H0
  have zW : w.heap.size + 1 ≤ W.heap.size := by rw [hW]; simp
  clear hW b0 H0
  refine (szDriver_yes d0 A0 1048576 W (by omega) (by omega)).mono ?_
  rintro e w_5 ⟨rfl, b_6⟩
  have zw_5 := b_6.size
  have B_7 := bW.trans (b_6.mono bW.size)
  have H_8 := (b_6.block _ (box_lt h1)).trans h1
  go_wp2_with (first
    | (refine wpList_load_box _ rfl (by rfl) (b := w.heap.size) (off := 0) (n := 22) rfl H_8 Try.underlying35 (by kernel_rfl) (Nat.le_of_ble_eq_true rfl) (drvC d0 A0) rfl ?_
       skip))
  refine (toDriver_any d0 A0 w_5 (hm0.below B_7) hl0).mono ?_
  rintro e w_9 ⟨Au, rfl, Ou, Su, b_10⟩
  have zw_9 := b_10.size
  have B_11 := B_7.trans (b_10.mono B_7.size)
  have H_12 := (b_10.block _ (box_lt H_8)).trans H_8
  have hLu := Lib.hid (DrvO.inL Ou)
  go_wp2_with fail
  refine (toIntS_any a1 z1 cap1 w_9 (Ints.below rz1 B_11) (by omega)).mono ?_
  rintro e w_13 ⟨au, cu, rfl, ou, b_14⟩
  have zw_13 := b_14.size
  have B_15 := B_11.trans (b_14.mono B_11.size)
  have H_16 := (b_14.block _ (box_lt H_12)).trans H_12
  have m_17 := Ou.below b_14
  have ilul := Lib.hid (own_in ou)
  go_wp2_with fail
  refine (HS.out Au au cu w_13 (m_17).m (m_17).n (own_cells ou) (own_nilcap ou)).mono ?_
  rintro e w_18 ⟨Aq, rfl, Oq, Sq, b_19⟩
  have zw_18 := b_19.size
  have B_20 := B_15.trans (b_19.mono B_15.size)
  have H_21 := (b_19.block _ (box_lt H_16)).trans H_16
  have o_22 := own_below ou b_19
  have m_23 := m_17.below b_19
  have hLq := Lib.hid (DrvO.inL Oq)
  clear Su Sq
  go_wp2_with (first
    | (refine wpList_store_any _ rfl rfl (by rfl) (b := w_18.heap.size) (off := 0) (n := 22) rfl rfl (vs := drvC d2 Aq) rfl (heap_new_at w_18 (.cells (drvC zDrv zDrvA) 46) _ rfl) (by kernel_rfl) rfl rfl (Nat.le_of_ble_eq_true rfl) (drvC d2 Aq) rfl ?_
       intro w_24 H_25 g_26
       have b_27 : Below w_18.heap.size w_18 w_24 := below_only ((Below.refl _ _).alloc (Nat.le_refl _) _) g_26 (Nat.le_refl _)
       have zw_24 := b_27.size
       have B_28 := B_20.trans (b_27.mono B_20.size)
       have lH_25 := box_lt H_25
       have H_29 := (b_27.block _ (box_lt H_21)).trans H_21
       have o_30 := own_below o_22 b_27
       have m_31 := m_23.below b_27
       have m_32 := Oq.below b_27
       skip)
    | (refine wpList_load_box _ rfl (by rfl) (b := w.heap.size) (off := 0) (n := 22) rfl H_29 Try.underlying35 (by kernel_rfl) (Nat.le_of_ble_eq_true rfl) (drvC d0 A0) rfl ?_
       skip))
  refine (toDriver_any d0 A0 w_24 (hm0.below B_28) hl0).mono ?_
  rintro e w_33 ⟨Ax, rfl, Ox, Sx, b_34⟩
  have zw_33 := b_34.size
  have B_35 := B_28.trans (b_34.mono B_28.size)
  have H_36 := (b_34.block _ (box_lt H_29)).trans H_29
  have H_37 := (b_34.block _ (box_lt H_25)).trans H_25
  have m_38 := m_32.below b_34
  have hLx := Lib.hid (DrvO.inL Ox)
  go_wp2_with (first
    | (refine wpList_store_any _ rfl rfl (by rfl) (b := w_33.heap.size) (off := 0) (n := 22) rfl rfl (vs := drvC d0 Ax) rfl (heap_new_at w_33 (.cells (drvC zDrv zDrvA) 46) _ rfl) (by kernel_rfl) rfl rfl (Nat.le_of_ble_eq_true rfl) (drvC d0 Ax) rfl ?_
       intro w_39 H_40 g_41
       have b_42 : Below w_33.heap.size w_33 w_39 := below_only ((Below.refl _ _).alloc (Nat.le_refl _) _) g_41 (Nat.le_refl _)
       have zw_39 := b_42.size
       have B_43 := B_35.trans (b_42.mono B_35.size)
       have lH_40 := box_lt H_40
       have H_44 := (b_42.block _ (box_lt H_36)).trans H_36
       have H_45 := (b_42.block _ (box_lt H_37)).trans H_37
       have m_46 := m_38.below b_42
       have m_47 := Ox.below b_42
       skip))
  refine (toIntS_any a1 z1 cap1 w_39 (Ints.below rz1 B_43) (by omega)).mono ?_
  rintro e w_48 ⟨ax, cx, rfl, ox, b_49⟩
  have zw_48 := b_49.size
  have B_50 := B_43.trans (b_49.mono B_43.size)
  have H_51 := (b_49.block _ (box_lt H_44)).trans H_44
  have H_52 := (b_49.block _ (box_lt H_45)).trans H_45
  have H_53 := (b_49.block _ (box_lt H_40)).trans H_40
  have m_54 := m_46.below b_49
  have m_55 := m_47.below b_49
  have ilxl := Lib.hid (own_in ox)
  go_wp2_with (first
    | (refine wpList_load_box _ rfl (by rfl) (b := w_33.heap.size) (off := 0) (n := 22) rfl H_53 Try.underlying46 (by kernel_rfl) (Nat.le_of_ble_eq_true rfl) (drvC d0 Ax) rfl ?_
       skip))
  refine (HI.out Ax ax cx w_48 (m_55).m (m_55).n (own_cells ox) (own_nilcap ox)).mono ?_
  rintro e w_56 ⟨Ag, rfl, Og, Sg, b_57⟩
  have zw_56 := b_57.size
  have B_58 := B_50.trans (b_57.mono B_50.size)
  have H_59 := (b_57.block _ (box_lt H_51)).trans H_51
  have H_60 := (b_57.block _ (box_lt H_52)).trans H_52
  have H_61 := (b_57.block _ (box_lt H_53)).trans H_53
  have o_62 := own_below ox b_57
  have m_63 := m_54.below b_57
  have m_64 := m_55.below b_57
  have hLg := Lib.hid (DrvO.inL Og)
  go_wp2_with (first
    | (refine wpList_store_any _ rfl rfl (by rfl) (b := w_56.heap.size) (off := 0) (n := 22) rfl rfl (vs := drvC d2 Ag) rfl (heap_new_at w_56 (.cells (drvC zDrv zDrvA) 46) _ rfl) (by kernel_rfl) rfl rfl (Nat.le_of_ble_eq_true rfl) (drvC d2 Ag) rfl ?_
       intro w_65 H_66 g_67
       have b_68 : Below w_56.heap.size w_56 w_65 := below_only ((Below.refl _ _).alloc (Nat.le_refl _) _) g_67 (Nat.le_refl _)
       have zw_65 := b_68.size
       have B_69 := B_58.trans (b_68.mono B_58.size)
       have lH_66 := box_lt H_66
       have H_70 := (b_68.block _ (box_lt H_59)).trans H_59
       have H_71 := (b_68.block _ (box_lt H_60)).trans H_60
       have H_72 := (b_68.block _ (box_lt H_61)).trans H_61
       have o_73 := own_below o_62 b_68
       have m_74 := m_63.below b_68
       have m_75 := m_64.below b_68
       have m_76 := Og.below b_68
       skip)
    | (refine wpList_load_box _ rfl (by rfl) (b := w_56.heap.size) (off := 0) (n := 22) rfl H_66 Try.underlying46 (by kernel_rfl) (Nat.le_of_ble_eq_true rfl) (drvC d2 Ag) rfl ?_
       skip)
    | (refine wpList_load_box _ rfl (by rfl) (b := w_18.heap.size) (off := 0) (n := 22) rfl H_71 Try.underlying46 (by kernel_rfl) (Nat.le_of_ble_eq_true rfl) (drvC d2 Aq) rfl ?_
       skip))
  refine (eqDriver_eq d2 Ag Aq w_65 (m_76).m (m_74).m hl2).mono ?_
  rintro e w_77 ⟨rfl, b_78⟩
  have zw_77 := b_78.size
  have B_79 := B_69.trans (b_78.mono B_69.size)
  have H_80 := (b_78.block _ (box_lt H_70)).trans H_70
  have H_81 := (b_78.block _ (box_lt H_71)).trans H_71
  have H_82 := (b_78.block _ (box_lt H_72)).trans H_72
  have H_83 := (b_78.block _ (box_lt H_66)).trans H_66
  have o_84 := own_below o_73 b_78
  have m_85 := m_74.below b_78
  have m_86 := m_75.below b_78
  have m_87 := m_76.below b_78
  go_wp2_with fail
  have KS : (fun v : World => v.heap[w_33.heap.size]? = some (.cells (drvC d0 Ax) 46 (0, 0)) ∧ v.heap[w.heap.size]? = some (.cells (drvC d0 A0) 35 (0, 0))) w_77.drew := ⟨H_82, H_80⟩
  have BD : Below w_77.heap.size w_77 w_77.drew := (Below.refl _ _).drew
  refine wp_region_held_drew (S := fun v : World => v.heap[w_33.heap.size]? = some (.cells (drvC d0 Ax) 46 (0, 0)) ∧ v.heap[w.heap.size]? = some (.cells (drvC d0 A0) 35 (0, 0))) (by kernel_rfl) KS (fun _ => ?_)
  refine wpAnyH_take (i := 0) (v := .agg (drvC d0 Ax)) rfl (by kernel_rfl) (by kernel_rfl) (by kernel_rfl) (fun _ _ _ h => h) (yieldsIf_load_box (n := 22) (off := 0) rfl rfl rfl (fun _ h => h.1) Try.underlying46 (by kernel_rfl) (Nat.le_of_ble_eq_true rfl) _ rfl) KS ?_
  go_simp
  refine wpAnyH_take (i := 1) (v := .agg (drvC d0 A0)) rfl (by kernel_rfl) (by kernel_rfl) (by kernel_rfl) (fun _ _ _ h => h) (yieldsIf_load_box (n := 22) (off := 0) rfl rfl rfl (fun _ h => h.2) Try.underlying35 (by kernel_rfl) (Nat.le_of_ble_eq_true rfl) _ rfl) KS ?_
  go_simp
  refine wpAnyH_ready (rs := [2]) (by kernel_rfl) (by simp) (AllReadyH.cons rfl (fun KK hK => ?_) AllReadyH.nil)
  go_simp
  go_at_call 13
  refine (toDriver_any d0 A0 w_77.drew (hm0.below B_79.drew) hl0).mono ?_
  rintro e w_88 ⟨Ay, rfl, Oy, Sy, b_90⟩
  have K5 : (fun v : World => v.heap[w_33.heap.size]? = some (.cells (drvC d0 Ax) 46 (0, 0)) ∧ v.heap[w.heap.size]? = some (.cells (drvC d0 A0) 35 (0, 0))) w_88 := ⟨(b_90.block _ (box_lt KS.1)).trans KS.1, (b_90.block _ (box_lt KS.2)).trans KS.2⟩
  go_simp
  refine hK.out _ _ K5 (fun _ => ?_)
  clear hK KK
  refine wpAnyH_ready (rs := [3]) (by kernel_rfl) (by simp) (AllReadyH.cons rfl (fun KK hK => ?_) AllReadyH.nil)
  go_simp
  go_at_call 15
  refine (eqDriver_eq d0 Ax Ay w_88 ((m_86.below BD).below b_90).m Oy.m hl0).mono ?_
  rintro e w_89 ⟨rfl, b_91⟩
  have K6 : (fun v : World => v.heap[w_33.heap.size]? = some (.cells (drvC d0 Ax) 46 (0, 0)) ∧ v.heap[w.heap.size]? = some (.cells (drvC d0 A0) 35 (0, 0))) w_89 := ⟨(b_91.block _ (box_lt K5.1)).trans K5.1, (b_91.block _ (box_lt K5.2)).trans K5.2⟩
  go_simp
  refine hK.out _ _ K6 (fun _ => ?_)
  clear hK KK
  refine wpAnyH_take (i := 4) (v := .bool false) rfl (by kernel_rfl) (by kernel_rfl) (by kernel_rfl) (fun _ _ _ h => h) (Or.inl ⟨by rfl, by intro w _; go_simp⟩) K6 ?_
  go_simp
  refine wpAnyH_done (by kernel_rfl) ?_ _
  have b_92 : Below w_77.heap.size w_77 w_89 := (BD.trans (b_90.mono (Nat.le_refl _))).trans (b_91.mono b_90.size)
  clear KS K5 K6 BD Oy Sy
  have zw_89 := b_92.size
  have B_93 := B_79.trans (b_92.mono B_79.size)
  have H_94 := (b_92.block _ (box_lt H_80)).trans H_80
  have H_95 := (b_92.block _ (box_lt H_81)).trans H_81
  have H_96 := (b_92.block _ (box_lt H_82)).trans H_82
  have H_97 := (b_92.block _ (box_lt H_83)).trans H_83
  have o_98 := own_below o_84 b_92
  have m_99 := m_85.below b_92
  have m_100 := m_86.below b_92
  have m_101 := m_87.below b_92
  go_wp2_with fail
  refine (toIntS_any a1 z1 cap1 w_89 (Ints.below rz1 B_93) (by omega)).mono ?_
  rintro e w_102 ⟨ay, cy, rfl, oy, b_103⟩
  have zw_102 := b_103.size
  have B_104 := B_93.trans (b_103.mono B_93.size)
  have H_105 := (b_103.block _ (box_lt H_94)).trans H_94
  have H_106 := (b_103.block _ (box_lt H_95)).trans H_95
  have H_107 := (b_103.block _ (box_lt H_96)).trans H_96
  have H_108 := (b_103.block _ (box_lt H_97)).trans H_97
  have o_109 := own_below o_98 b_103
  have m_110 := m_99.below b_103
  have m_111 := m_100.below b_103
  have m_112 := m_101.below b_103
  have ilyl := Lib.hid (own_in oy)
  go_wp2_with fail
  refine (eqIntS_below ax ay z1 z1 cx cy w_102 (own_cells o_109) (own_cells oy) (by omega) (by omega)).mono ?_
  rintro e w_113 ⟨rfl, b_114⟩
  have zw_113 := b_114.size
  have B_115 := B_104.trans (b_114.mono B_104.size)
  have H_116 := (b_114.block _ (box_lt H_105)).trans H_105
  have H_117 := (b_114.block _ (box_lt H_106)).trans H_106
  have H_118 := (b_114.block _ (box_lt H_107)).trans H_107
  have H_119 := (b_114.block _ (box_lt H_108)).trans H_108
  have o_120 := own_below o_109 b_114
  have o_121 := own_below oy b_114
  have m_122 := m_110.below b_114
  have m_123 := m_111.below b_114
  have m_124 := m_112.below b_114
  go_wp2_with (first
    | (refine wpList_load_box _ rfl (by rfl) (b := w_33.heap.size) (off := 0) (n := 22) rfl H_118 Try.underlying46 (by kernel_rfl) (Nat.le_of_ble_eq_true rfl) (drvC d0 Ax) rfl ?_
       skip))
  refine (markDriver_any d0 Ax _ 1 w_113 m_123 Sx (by omega) (by have := hk0.2; omega)).mono ?_
  rintro e w_125 ⟨rfl, M_126, f_127⟩
  have zw_125 := f_127.size
  have B_128 := Off.bel B_115 f_127 B_115.size (hLx.out.low (by omega))
  have H_129 := Off.box H_116 f_127 (DrvO.ne m_123 H_116 (by decide) (by decide))
  have H_130 := Off.box H_117 f_127 (DrvO.ne m_123 H_117 (by decide) (by decide))
  have H_131 := Off.box H_118 f_127 (DrvO.ne m_123 H_118 (by decide) (by decide))
  have H_132 := Off.box H_119 f_127 (DrvO.ne m_123 H_119 (by decide) (by decide))
  have O_133 := DrvO.off m_122 f_127 hLx.out hLq.out (by omega)
  have O_134 := DrvO.off m_124 f_127 hLx.out hLg.out (by omega)
  have o_135 := own_off o_120 f_127 (hLx.out.apart ilxl.out (by omega))
  go_wp2_with fail
  refine (markIntS_any _ ax _ cx (drvN d0 1) _ w_125 o_135 (by omega) (by omega)).mono ?_
  rintro e w_136 ⟨rfl, o_137, g_138⟩
  have f_139 := Off.row g_138
  have zw_136 := f_139.size
  have B_140 := Off.bel B_128 f_139 B_128.size ((inL_one ilxl.out).low (by omega))
  have H_141 := Off.box H_129 f_139 (row_ne o_135 H_129 (by decide))
  have H_142 := Off.box H_130 f_139 (row_ne o_135 H_130 (by decide))
  have H_143 := Off.box H_132 f_139 (row_ne o_135 H_132 (by decide))
  have O_144 := DrvO.off O_133 f_139 (inL_one ilxl.out) hLq.out (by omega)
  have O_145 := DrvO.off O_134 f_139 (inL_one ilxl.out) hLg.out (by omega)
  go_wp2_with (first
    | (refine wpList_load_box _ rfl (by rfl) (b := w_56.heap.size) (off := 0) (n := 22) rfl H_143 Try.underlying46 (by kernel_rfl) (Nat.le_of_ble_eq_true rfl) (drvC d2 Ag) rfl ?_
       skip)
    | (refine wpList_load_box _ rfl (by rfl) (b := w_18.heap.size) (off := 0) (n := 22) rfl H_142 Try.underlying46 (by kernel_rfl) (Nat.le_of_ble_eq_true rfl) (drvC d2 Aq) rfl ?_
       skip))
  refine (eqDriver_eq d2 Ag Aq w_136 (O_145).m (O_144).m hl2).mono ?_
  rintro e w_146 ⟨rfl, b_147⟩
  have zw_146 := b_147.size
  have B_148 := B_140.trans (b_147.mono B_140.size)
  have H_149 := (b_147.block _ (box_lt H_141)).trans H_141
  have H_150 := (b_147.block _ (box_lt H_142)).trans H_142
  have H_151 := (b_147.block _ (box_lt H_143)).trans H_143
  have m_152 := O_144.below b_147
  have m_153 := O_145.below b_147
  go_wp2_with (first
    | (refine wpList_load_box _ rfl (by rfl) (b := w_56.heap.size) (off := 0) (n := 22) rfl H_151 Try.underlying46 (by kernel_rfl) (Nat.le_of_ble_eq_true rfl) (drvC d2 Ag) rfl ?_
       skip))
  refine (markDriver_any d2 Ag _ 1 w_146 m_153 Sg (by omega) (by have := hk2.2; omega)).mono ?_
  rintro e w_154 ⟨rfl, M_155, f_156⟩
  have zw_154 := f_156.size
  have B_157 := Off.bel B_148 f_156 B_148.size (hLg.out.low (by omega))
  have H_158 := Off.box H_149 f_156 (DrvO.ne m_153 H_149 (by decide) (by decide))
  have H_159 := Off.box H_150 f_156 (DrvO.ne m_153 H_150 (by decide) (by decide))
  have H_160 := Off.box H_151 f_156 (DrvO.ne m_153 H_151 (by decide) (by decide))
  have O_161 := DrvO.off m_152 f_156 hLg.out hLq.out (by omega)
  go_wp2_with (first
    | (refine wpList_load_box _ rfl (by rfl) (b := w_56.heap.size) (off := 0) (n := 22) rfl H_160 Try.underlying46 (by kernel_rfl) (Nat.le_of_ble_eq_true rfl) (drvC d2 Ag) rfl ?_
       skip))
  refine (heldDriver_any d2 Ag 1 w_154 (M_155).held (by omega) (by have := hk2.2; omega)).mono ?_
  rintro e w_162 ⟨rfl, b_163⟩
  have zw_162 := b_163.size
  have B_164 := B_157.trans (b_163.mono B_157.size)
  have H_165 := (b_163.block _ (box_lt H_158)).trans H_158
  have H_166 := (b_163.block _ (box_lt H_159)).trans H_159
  have H_167 := (b_163.block _ (box_lt H_160)).trans H_160
  have m_168 := O_161.below b_163
  have m_169 := M_155.below b_163
  go_wp2_with (first
    | (refine wpList_load_box _ rfl (by rfl) (b := w.heap.size) (off := 0) (n := 22) rfl H_165 Try.underlying35 (by kernel_rfl) (Nat.le_of_ble_eq_true rfl) (drvC d0 A0) rfl ?_
       skip))
  refine (toDriver_any d0 A0 w_162 (hm0.below B_164) hl0).mono ?_
  rintro e w_170 ⟨Av, rfl, Ov, Sv, b_171⟩
  have zw_170 := b_171.size
  have B_172 := B_164.trans (b_171.mono B_164.size)
  have H_173 := (b_171.block _ (box_lt H_165)).trans H_165
  have H_174 := (b_171.block _ (box_lt H_166)).trans H_166
  have H_175 := (b_171.block _ (box_lt H_167)).trans H_167
  have m_176 := m_168.below b_171
  have m_177 := m_169.below b_171
  have hLv := Lib.hid (DrvO.inL Ov)
  go_wp2_with fail
  refine (toIntS_any a1 z1 cap1 w_170 (Ints.below rz1 B_172) (by omega)).mono ?_
  rintro e w_178 ⟨av, cv, rfl, ov, b_179⟩
  have zw_178 := b_179.size
  have B_180 := B_172.trans (b_179.mono B_172.size)
  have H_181 := (b_179.block _ (box_lt H_173)).trans H_173
  have H_182 := (b_179.block _ (box_lt H_174)).trans H_174
  have H_183 := (b_179.block _ (box_lt H_175)).trans H_175
  have m_184 := m_176.below b_179
  have m_185 := m_177.below b_179
  have m_186 := Ov.below b_179
  have ilvl := Lib.hid (own_in ov)
  go_wp2_with fail
  refine (HI.out Av av cv w_178 (m_186).m (m_186).n (own_cells ov) (own_nilcap ov)).mono ?_
  rintro e w_187 ⟨Ah, rfl, Oh, Sh, b_188⟩
  have zw_187 := b_188.size
  have B_189 := B_180.trans (b_188.mono B_180.size)
  have H_190 := (b_188.block _ (box_lt H_181)).trans H_181
  have H_191 := (b_188.block _ (box_lt H_182)).trans H_182
  have H_192 := (b_188.block _ (box_lt H_183)).trans H_183
  have o_193 := own_below ov b_188
  have m_194 := m_184.below b_188
  have m_195 := m_185.below b_188
  have m_196 := m_186.below b_188
  have hLh := Lib.hid (DrvO.inL Oh)
  clear Sv Sh
  go_wp2_with (first
    | (refine wpList_store_any _ rfl rfl (by rfl) (b := w_187.heap.size) (off := 0) (n := 22) rfl rfl (vs := drvC d2 Ah) rfl (heap_new_at w_187 (.cells (drvC zDrv zDrvA) 46) _ rfl) (by kernel_rfl) rfl rfl (Nat.le_of_ble_eq_true rfl) (drvC d2 Ah) rfl ?_
       intro w_197 H_198 g_199
       have b_200 : Below w_187.heap.size w_187 w_197 := below_only ((Below.refl _ _).alloc (Nat.le_refl _) _) g_199 (Nat.le_refl _)
       have zw_197 := b_200.size
       have B_201 := B_189.trans (b_200.mono B_189.size)
       have lH_198 := box_lt H_198
       have H_202 := (b_200.block _ (box_lt H_190)).trans H_190
       have H_203 := (b_200.block _ (box_lt H_191)).trans H_191
       have H_204 := (b_200.block _ (box_lt H_192)).trans H_192
       have o_205 := own_below o_193 b_200
       have m_206 := m_194.below b_200
       have m_207 := m_195.below b_200
       have m_208 := m_196.below b_200
       have m_209 := Oh.below b_200
       skip)
    | (refine wpList_load_box _ rfl (by rfl) (b := w_187.heap.size) (off := 0) (n := 22) rfl H_198 Try.underlying46 (by kernel_rfl) (Nat.le_of_ble_eq_true rfl) (drvC d2 Ah) rfl ?_
       skip)
    | (refine wpList_load_box _ rfl (by rfl) (b := w_18.heap.size) (off := 0) (n := 22) rfl H_203 Try.underlying46 (by kernel_rfl) (Nat.le_of_ble_eq_true rfl) (drvC d2 Aq) rfl ?_
       skip))
  refine (eqDriver_eq d2 Ah Aq w_197 (m_209).m (m_206).m hl2).mono ?_
  rintro e w_210 ⟨rfl, b_211⟩
  have zw_210 := b_211.size
  have B_212 := B_201.trans (b_211.mono B_201.size)
  have H_213 := (b_211.block _ (box_lt H_202)).trans H_202
  have H_214 := (b_211.block _ (box_lt H_203)).trans H_203
  have H_215 := (b_211.block _ (box_lt H_204)).trans H_204
  have H_216 := (b_211.block _ (box_lt H_198)).trans H_198
  have m_217 := m_206.below b_211
  have m_218 := m_207.below b_211
  have m_219 := m_209.below b_211
  go_wp2_with (first
    | (refine wpList_load_box _ rfl (by rfl) (b := w_56.heap.size) (off := 0) (n := 22) rfl H_215 Try.underlying46 (by kernel_rfl) (Nat.le_of_ble_eq_true rfl) (drvC d2 Ag) rfl ?_
       skip))
  refine (heldDriver_any d2 Ag 1 w_210 (m_218).held (by omega) (by have := hk2.2; omega)).mono ?_
  rintro e w_220 ⟨rfl, b_221⟩
  have zw_220 := b_221.size
  have B_222 := B_212.trans (b_221.mono B_212.size)
  have H_223 := (b_221.block _ (box_lt H_213)).trans H_213
  have H_224 := (b_221.block _ (box_lt H_214)).trans H_214
  have H_225 := (b_221.block _ (box_lt H_215)).trans H_215
  have m_226 := m_217.below b_221
  have m_227 := m_218.below b_221
  go_wp2
  go_ret
  exact ⟨rfl, B_222⟩

set_option linter.unusedVariables false in
set_option maxRecDepth 100000 in
theorem FnExactDriverSend_lifted (os : Os) (started : os.Started) (H : Type) (enc : TypeId × Value → H) :
    ReturnsInHanded {} Try.checked os 4 .any (Rows.fnExactDriverSendSpec.pre6 enc Try.prog Try.f4 Rows.fnExactDriverSendRow.domain false) (Rows.fnExactDriverSendSpec.post enc Try.prog Try.f4 false true false false) := by
  refine returnsInHanded_of_change (C := Try.checked) own_knob started (by kernel_rfl) Try.func4
    (ChangeSpec.witness6 (enc := enc) (C := Try.checked) false ⟨#[], #[.agg #[.int .i64 0, .int .i64 0, .int .i64 0, .int .i64 0, .int .i64 0, .int .i64 0, .int .i64 0, .slice none 0 0, .bool false, .int .i64 0, .int .i64 0, .slice none 0 0, .int .i64 0, .int .i64 0, .bool false, .bool false, .bool false, .bool false, .slice none 0 0, .slice none 0 0, .int .i64 0, .int .i64 0], .slice none 0 0], []⟩ 8 (by kernel_rfl) (by kernel_rfl) (by kernel_rfl) (by kernel_rfl)) ?_
  intro W base args ds gs before hval0 hW hcnd _
  have hval : ∀ (j : Nat) t v, Try.f4.params[j]? = some t → args[j]? = some v → Value.okWide Try.prog W .any base t v := hval0
  have hW' := hW
  obtain ⟨p, q, hA0, hV, rfl, hfz, hnd⟩ := hW
  have hA : DataW.TrodAll enc Try.prog W 0 (fun _ => true) true Try.f4.params.toList args.toList ds p := hA0
  rw [Try.params4] at hA hval
  obtain ⟨v0, vs0, d0, ds0, p0, q0, hargs, rfl, rfl, h0, r0⟩ := trodAll_cons hA
  obtain ⟨v1, vs1, d1, ds1, p1, q1, rfl, rfl, rfl, h1, r1⟩ := trodAll_cons r0
  obtain ⟨rfl, rfl, rfl⟩ := trodAll_nil r1
  obtain rfl : args = #[v0, v1] := by cases args; simp_all
  obtain ⟨rfl, rfl⟩ := trodVars_none hV
  have k0 := h0
  have lt0 : ∀ x ∈ p0, x.block < W.heap.size := by obtain ⟨m, hm⟩ := k0; exact DataW.trod_lt m _ _ _ hm
  obtain ⟨d0, A0, rfl, rz0, rx0⟩ := rd_driver (hval 0 35 v0 rfl rfl) h0
  have k1 := h1
  have lt1 : ∀ x ∈ p1, x.block < W.heap.size := by obtain ⟨m, hm⟩ := k1; exact DataW.trod_lt m _ _ _ hm
  obtain ⟨a1, len1, cap1, rfl⟩ := okWide_slice Try.underlying27 (hval 1 27 v1 rfl rfl)
  obtain ⟨z1, rfl, lc1, lm1, rz1⟩ : ∃ z : List Int, len1 = z.length ∧ z.length ≤ cap1 ∧ cap1 ≤ maxLen ∧ Ints W a1 z := by
    obtain ⟨fuel, hf⟩ := h1
    obtain ⟨ao, cap, z, e, h1, h2, h3⟩ := rd_ints Try.underlying27 Try.underlying3 (by kernel_rfl) hf
    simp [Value.cells] at e
    obtain ⟨rfl, rfl, rfl⟩ := e
    exact ⟨z, rfl, h1, h2, h3⟩
  have lb1 : z1.length ≤ cap1 := lc1
  clear hA0 hval0
  refine (FnExactDriverSend_walk d0 A0 a1 z1 cap1 W rz0 rx0 rz1 lc1 lm1).mono fun e W' ⟨he, bel⟩ => ?_
  subst he
  exact ⟨_, rfl, _, _, _, [], _, [], hW', trodAll_mk1 (shut_bool Try.underlying4 _), (trodAll_cons_mk (Below.trod laid_out (by kernel_rfl) (of_decide_eq_true (by kernel_rfl)) k0 bel lt0) (trodAll_cons_mk (Below.trod laid_out (by kernel_rfl) (of_decide_eq_true (by kernel_rfl)) k1 bel lt1) trodAll_mk0)), rfl, bel.frame _, fun h => by cases h⟩

theorem FnExactDriverSend_holds : Rows.FnExactDriverSendSaid :=
  OpenClaim.holds_of_wide 4 Try.f4 rfl rfl rfl rfl rfl rfl rfl ⟨rfl, rfl, rfl, rfl, rfl⟩ rfl rfl rfl rfl rfl (by kernel_rfl) Try.func4 (by kernel_rfl)
    (of_decide_eq_true (by kernel_rfl)) (by unfold Func.isWrapper; first | (rw [if_pos (by decide +kernel)]; kernel_rfl) | (rw [if_neg (by decide +kernel)]; exact ⟨rfl, rfl⟩))
    (fun os started H enc _ => FnExactDriverSend_lifted os started H enc)
end Go.Proofs.Ytkmampichfbppaa
