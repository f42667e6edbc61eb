/- FnDriverSend: Bytes to send wait behind the others. No conditions beyond the statement's own. -/
import Derived.Test.YtkmampichfbppaaDrvLaw3
import Derived.Test.YtkmampichfbppaaDrvDraw6
namespace Go.Proofs.Ytkmampichfbppaa
open Go.ChangeShapes Go.WideShapes Go.ChangeAt Go.RowKit

set_option maxHeartbeats 4000000 in
set_option maxRecDepth 100000 in
theorem FnDriverSend_walk (a0 : Option Addr) (z0 : List Int) (cap0 : Nat) (w : World) (rz0 : Bytes w a0 z0) (lc0 : z0.length ≤ cap0) (_lm0 : cap0 ≤ maxLen) :
    Calls Try.prog 7 #[.slice a0 z0.length cap0] w fun e w' => e = .returned (.bool true) ∧ Below w.heap.size w w' := by
  unfold maxLen at _lm0
  by_cases hn0 : (z0.length : Int) ≤ 1048576
  case neg =>
    have hn0' : (1048576 : Int) < (z0.length : Int) := by omega
    go_enter Try.func7, Try.ntmps7
    go_wp2
    go_ret
    exact ⟨rfl, Below.refl _ _⟩
  go_enter Try.func7, Try.ntmps7
  have B0 : Below w.heap.size w w := Below.refl _ _
  go_wp2_with fail
  refine (drawDriverSend_any a0 z0 cap0 w rz0 lc0 (by omega)).mono ?_
  rintro e w_1 ⟨d, A, al, ls, cl, rfl, lg, ly, li, lo, ll, DO, ol, b_2⟩
  have zw_1 := b_2.size
  have B_3 := B0.trans (b_2.mono B0.size)
  have hm := DO.m
  have hN := DO.n
  have hl : DrvL d := ⟨by omega, by omega, by omega, by omega⟩
  have hs := own_cells ol
  have hcl := own_nilcap ol
  have HCL := Lib.hid hcl
  have hcm := own_cap ol
  have hcx := own_capmax ol
  clear DO ol
  cases hB : sendB d ls
  · have hR := sendR_no hB
    have HI := Lib.hid (fun v h hs => send_at hR (implDriverSend_any d A al ls cl v h hl hN hs (by omega) hcl))
    have HJ := Lib.hid (fun v h hs => send_at hR (specDriverSend_any d A al ls cl v h hl hN hs (by omega) hcl))
    clear hcl
    go_wp2_with (first
      | (refine wpList_store_any _ rfl rfl (by rfl) (b := w_1.heap.size) (off := 0) (n := 22) rfl rfl (vs := drvC d A) rfl (heap_new_at w_1 (.cells (drvC zDrv zDrvA) 46) _ rfl) (by kernel_rfl) rfl rfl (Nat.le_of_ble_eq_true rfl) (drvC d A) rfl ?_
         intro w_4 H_5 g_6
         have b_7 : Below w_1.heap.size w_1 w_4 := below_only ((Below.refl _ _).alloc (Nat.le_refl _) _) g_6 (Nat.le_refl _)
         have zw_4 := b_7.size
         have B_8 := B_3.trans (b_7.mono B_3.size)
         have lH_5 := box_lt H_5
         have m_9 := hm.below b_7
         have m_10 := hs.below b_7
         skip)
      | (refine wpList_load_box _ rfl (by rfl) (b := w_1.heap.size) (off := 0) (n := 22) rfl H_5 Try.underlying46 (by kernel_rfl) (Nat.le_of_ble_eq_true rfl) (drvC d A) rfl ?_
         skip))
    refine (HI.out w_4 m_9 m_10).mono ?_
    rintro e w_11 ⟨A1, rfl, O1, S1, b_12⟩
    have zw_11 := b_12.size
    have B_13 := B_8.trans (b_12.mono B_8.size)
    have H_14 := (b_12.block _ (box_lt H_5)).trans H_5
    have m_15 := m_9.below b_12
    have m_16 := m_10.below b_12
    have n1 := O1.m
    have N1 := O1.n
    clear O1 S1
    go_wp2_with (first
      | (refine wpList_store_any _ rfl rfl (by rfl) (b := w_11.heap.size) (off := 0) (n := 22) rfl rfl (vs := drvC zDrv A1) rfl (heap_new_at w_11 (.cells (drvC zDrv zDrvA) 46) _ rfl) (by kernel_rfl) rfl rfl (Nat.le_of_ble_eq_true rfl) (drvC zDrv A1) rfl ?_
         intro w_17 H_18 g_19
         have b_20 : Below w_11.heap.size w_11 w_17 := below_only ((Below.refl _ _).alloc (Nat.le_refl _) _) g_19 (Nat.le_refl _)
         have zw_17 := b_20.size
         have B_21 := B_13.trans (b_20.mono B_13.size)
         have lH_18 := box_lt H_18
         have H_22 := (b_20.block _ (box_lt H_14)).trans H_14
         have m_23 := m_15.below b_20
         have m_24 := m_16.below b_20
         have m_25 := n1.below b_20
         skip)
      | (refine wpList_load_box _ rfl (by rfl) (b := w_1.heap.size) (off := 0) (n := 22) rfl H_22 Try.underlying46 (by kernel_rfl) (Nat.le_of_ble_eq_true rfl) (drvC d A) rfl ?_
         skip))
    refine (HJ.out w_17 m_23 m_24).mono ?_
    rintro e w_26 ⟨A2, rfl, O2, S2, b_27⟩
    have zw_26 := b_27.size
    have B_28 := B_21.trans (b_27.mono B_21.size)
    have H_29 := (b_27.block _ (box_lt H_22)).trans H_22
    have H_30 := (b_27.block _ (box_lt H_18)).trans H_18
    have m_31 := m_23.below b_27
    have m_32 := m_24.below b_27
    have m_33 := m_25.below b_27
    have n2 := O2.m
    clear O2 S2
    go_wp2_with (first
      | (refine wpList_store_any _ rfl rfl (by rfl) (b := w_26.heap.size) (off := 0) (n := 22) rfl rfl (vs := drvC zDrv A2) rfl (heap_new_at w_26 (.cells (drvC zDrv zDrvA) 46) _ rfl) (by kernel_rfl) rfl rfl (Nat.le_of_ble_eq_true rfl) (drvC zDrv A2) rfl ?_
         intro w_34 H_35 g_36
         have b_37 : Below w_26.heap.size w_26 w_34 := below_only ((Below.refl _ _).alloc (Nat.le_refl _) _) g_36 (Nat.le_refl _)
         have zw_34 := b_37.size
         have B_38 := B_28.trans (b_37.mono B_28.size)
         have lH_35 := box_lt H_35
         have H_39 := (b_37.block _ (box_lt H_29)).trans H_29
         have H_40 := (b_37.block _ (box_lt H_30)).trans H_30
         have m_41 := m_31.below b_37
         have m_42 := m_32.below b_37
         have m_43 := m_33.below b_37
         have m_44 := n2.below b_37
         skip)
      | (refine wpList_load_box _ rfl (by rfl) (b := w_11.heap.size) (off := 0) (n := 22) rfl H_40 Try.underlying46 (by kernel_rfl) (Nat.le_of_ble_eq_true rfl) (drvC zDrv A1) rfl ?_
         skip)
      | (refine wpList_load_box _ rfl (by rfl) (b := w_26.heap.size) (off := 0) (n := 22) rfl H_35 Try.underlying46 (by kernel_rfl) (Nat.le_of_ble_eq_true rfl) (drvC zDrv A2) rfl ?_
         skip))
    refine (sameDriver_eq zDrv A1 A2 w_34 m_43 m_44 zDrvL).mono ?_
    rintro e w_45 ⟨rfl, b_46⟩
    have zw_45 := b_46.size
    have B_47 := B_38.trans (b_46.mono B_38.size)
    have H_48 := (b_46.block _ (box_lt H_39)).trans H_39
    have H_49 := (b_46.block _ (box_lt H_40)).trans H_40
    have H_50 := (b_46.block _ (box_lt H_35)).trans H_35
    have m_51 := m_41.below b_46
    have m_52 := m_42.below b_46
    have m_53 := m_43.below b_46
    have m_54 := m_44.below b_46
    go_wp2_with (first
      | (refine wpList_load_box _ rfl (by rfl) (b := w_11.heap.size) (off := 0) (n := 22) rfl H_49 Try.underlying46 (by kernel_rfl) (Nat.le_of_ble_eq_true rfl) (drvC zDrv A1) rfl ?_
         skip)
      | (refine wpList_load_box _ rfl (by rfl) (b := w_26.heap.size) (off := 0) (n := 22) rfl H_50 Try.underlying46 (by kernel_rfl) (Nat.le_of_ble_eq_true rfl) (drvC zDrv A2) rfl ?_
         skip))
    refine (sameDriver_eq zDrv A1 A2 w_45 m_53 m_54 zDrvL).mono ?_
    rintro e w_55 ⟨rfl, b_56⟩
    have zw_55 := b_56.size
    have B_57 := B_47.trans (b_56.mono B_47.size)
    have H_58 := (b_56.block _ (box_lt H_48)).trans H_48
    have H_59 := (b_56.block _ (box_lt H_49)).trans H_49
    have H_60 := (b_56.block _ (box_lt H_50)).trans H_50
    have m_61 := m_51.below b_56
    have m_62 := m_52.below b_56
    have m_63 := m_53.below b_56
    have m_64 := m_54.below b_56
    go_wp2
    go_ret
    exact ⟨rfl, B_57⟩
  · have hR := sendR_yes hB rfl
    have hfc := send_facts hB
    obtain ⟨hv, hdl, hlz, hpe, hv2⟩ := hfc
    have HV := Lib.hid hv2
    obtain ⟨d2, hd2⟩ : ∃ d2 : DrvD, d2 = { d with p := { d.p with en := sendE d ls }, o := d.o ++ ls } := ⟨_, rfl⟩
    rw [← hd2] at hR HV
    clear hv2
    have HI2 := Lib.hid (show d2.i = d.i by rw [hd2])
    have HO2 := Lib.hid (show d.o ++ ls = d2.o by rw [hd2])
    have HE2 := Lib.hid (show d2.p.en = sendE d ls by rw [hd2])
    have hlo2 : d2.o.length = d.o.length + ls.length := by rw [← HO2.out, List.length_append]
    have HLL := Lib.hid hlo2.symm
    have hlo2a := Nat.le_of_eq hlo2
    have hlo2b := Nat.le_of_eq hlo2.symm
    clear hlo2
    have hl2 : DrvL d2 := by rw [hd2]; exact ⟨hl.1, hl.2.1, hl.2.2.1, by dsimp only; rw [List.length_append]; omega⟩
    clear hd2
    by_cases hzz : d.o.length + ls.length = 0
    · clear hpe
      have HI := Lib.hid (fun v h hs => send_at hR (implDriverSend_any d A al ls cl v h hl hN hs (by omega) hcl))
      have HJ := Lib.hid (fun v h hs => send_at hR (specDriverSend_any d A al ls cl v h hl hN hs (by omega) hcl))
      clear hcl
      go_wp2_with (first
        | (refine wpList_store_any _ rfl rfl (by rfl) (b := w_1.heap.size) (off := 0) (n := 22) rfl rfl (vs := drvC d A) rfl (heap_new_at w_1 (.cells (drvC zDrv zDrvA) 46) _ rfl) (by kernel_rfl) rfl rfl (Nat.le_of_ble_eq_true rfl) (drvC d A) rfl ?_
           intro w_4 H_5 g_6
           have b_7 : Below w_1.heap.size w_1 w_4 := below_only ((Below.refl _ _).alloc (Nat.le_refl _) _) g_6 (Nat.le_refl _)
           have zw_4 := b_7.size
           have B_8 := B_3.trans (b_7.mono B_3.size)
           have lH_5 := box_lt H_5
           have m_9 := hm.below b_7
           have m_10 := hs.below b_7
           skip)
        | (refine wpList_load_box _ rfl (by rfl) (b := w_1.heap.size) (off := 0) (n := 22) rfl H_5 Try.underlying46 (by kernel_rfl) (Nat.le_of_ble_eq_true rfl) (drvC d A) rfl ?_
           skip))
      refine (HI.out w_4 m_9 m_10).mono ?_
      rintro e w_65 ⟨A1, rfl, O1, S1, b_66⟩
      have zw_65 := b_66.size
      have B_67 := B_8.trans (b_66.mono B_8.size)
      have H_68 := (b_66.block _ (box_lt H_5)).trans H_5
      have m_69 := m_9.below b_66
      have m_70 := m_10.below b_66
      have n1 := O1.m
      have N1 := O1.n
      clear O1 S1
      go_wp2_with (first
        | (refine wpList_store_any _ rfl rfl (by rfl) (b := w_65.heap.size) (off := 0) (n := 22) rfl rfl (vs := drvC d2 A1) rfl (heap_new_at w_65 (.cells (drvC zDrv zDrvA) 46) _ rfl) (by kernel_rfl) rfl rfl (Nat.le_of_ble_eq_true rfl) (drvC d2 A1) rfl ?_
           intro w_71 H_72 g_73
           have b_74 : Below w_65.heap.size w_65 w_71 := below_only ((Below.refl _ _).alloc (Nat.le_refl _) _) g_73 (Nat.le_refl _)
           have zw_71 := b_74.size
           have B_75 := B_67.trans (b_74.mono B_67.size)
           have lH_72 := box_lt H_72
           have H_76 := (b_74.block _ (box_lt H_68)).trans H_68
           have m_77 := m_69.below b_74
           have m_78 := m_70.below b_74
           have m_79 := n1.below b_74
           skip)
        | (refine wpList_load_box _ rfl (by rfl) (b := w_1.heap.size) (off := 0) (n := 22) rfl H_76 Try.underlying46 (by kernel_rfl) (Nat.le_of_ble_eq_true rfl) (drvC d A) rfl ?_
           skip))
      refine (HJ.out w_71 m_77 m_78).mono ?_
      rintro e w_80 ⟨A2, rfl, O2, S2, b_81⟩
      have zw_80 := b_81.size
      have B_82 := B_75.trans (b_81.mono B_75.size)
      have H_83 := (b_81.block _ (box_lt H_76)).trans H_76
      have H_84 := (b_81.block _ (box_lt H_72)).trans H_72
      have m_85 := m_77.below b_81
      have m_86 := m_78.below b_81
      have m_87 := m_79.below b_81
      have n2 := O2.m
      clear O2 S2
      go_wp2_with (first
        | (refine wpList_store_any _ rfl rfl (by rfl) (b := w_80.heap.size) (off := 0) (n := 22) rfl rfl (vs := drvC d2 A2) rfl (heap_new_at w_80 (.cells (drvC zDrv zDrvA) 46) _ rfl) (by kernel_rfl) rfl rfl (Nat.le_of_ble_eq_true rfl) (drvC d2 A2) rfl ?_
           intro w_88 H_89 g_90
           have b_91 : Below w_80.heap.size w_80 w_88 := below_only ((Below.refl _ _).alloc (Nat.le_refl _) _) g_90 (Nat.le_refl _)
           have zw_88 := b_91.size
           have B_92 := B_82.trans (b_91.mono B_82.size)
           have lH_89 := box_lt H_89
           have H_93 := (b_91.block _ (box_lt H_83)).trans H_83
           have H_94 := (b_91.block _ (box_lt H_84)).trans H_84
           have m_95 := m_85.below b_91
           have m_96 := m_86.below b_91
           have m_97 := m_87.below b_91
           have m_98 := n2.below b_91
           skip)
        | (refine wpList_load_box _ rfl (by rfl) (b := w_65.heap.size) (off := 0) (n := 22) rfl H_94 Try.underlying46 (by kernel_rfl) (Nat.le_of_ble_eq_true rfl) (drvC d2 A1) rfl ?_
           skip)
        | (refine wpList_load_box _ rfl (by rfl) (b := w_80.heap.size) (off := 0) (n := 22) rfl H_89 Try.underlying46 (by kernel_rfl) (Nat.le_of_ble_eq_true rfl) (drvC d2 A2) rfl ?_
           skip))
      refine (sameDriver_eq d2 A1 A2 w_88 m_97 m_98 hl2).mono ?_
      rintro e w_99 ⟨rfl, b_100⟩
      have zw_99 := b_100.size
      have B_101 := B_92.trans (b_100.mono B_92.size)
      have H_102 := (b_100.block _ (box_lt H_93)).trans H_93
      have H_103 := (b_100.block _ (box_lt H_94)).trans H_94
      have H_104 := (b_100.block _ (box_lt H_89)).trans H_89
      have m_105 := m_95.below b_100
      have m_106 := m_96.below b_100
      have m_107 := m_97.below b_100
      have m_108 := m_98.below b_100
      have c_109 := box_cell H_102 19 (v := .slice A.ao d.o.length A.co) rfl
      have lc_109 := box_lt H_102
      go_wp2_with (first
        | (at_builtin
           refine name_list fun Wq hq => ?_
           have bq : Below w_99.heap.size w_99 Wq := (by rw [hq]; exact (Below.refl _ _).alloc (Nat.le_refl _) _)
           have oq : Wq.ownsRow w_99.heap.size 3 1 (.slice (some ⟨w_99.heap.size, 0, none⟩) 0 0) 0 [] := (by rw [hq]; exact own_made_at w_99 #[] _ _ 0 _ _ rfl (Nat.le_refl _) (by simp) rfl)
           have Bq := B_101.trans (bq.mono B_101.size)
           refine wpList_append_row Wq rfl _ _ _ rfl w_99.heap.size 3 _ 1 8 Try.underlying27 int_info rfl (by decide) (some ⟨w_99.heap.size, 0, none⟩) 0 0 [] (by rfl) oq A.ao (d.o.length) (A.co) (d.o.map (Value.int .i64)) (by rfl) (show Ints _ A.ao d.o from (m_105.below bq).2.2) (by simp) (ints_one _) hN.2.2.2 (by simp only [maxLen]; omega) (by omega) bq.size ?_
           intro a_110 c_111 w_112 o_113 hg
           rw [Nat.zero_add, List.nil_append] at o_113
           rw [Nat.zero_add]
           have b_114 := below_append bq oq hg bq.size
           clear hq bq oq Bq
           clear hg
           have zw_112 := b_114.size
           have B_115 := B_101.trans (b_114.mono B_101.size)
           have H_116 := (b_114.block _ (box_lt H_102)).trans H_102
           have H_117 := (b_114.block _ (box_lt H_103)).trans H_103
           have H_118 := (b_114.block _ (box_lt H_104)).trans H_104
           have m_119 := m_105.below b_114
           have m_120 := m_106.below b_114
           have m_121 := m_107.below b_114
           have m_122 := m_108.below b_114
           skip)
        | (at_builtin
           refine wpList_append_row w_112 (by rfl) _ _ _ rfl w_99.heap.size 3 _ 1 8 Try.underlying27 int_info rfl (by decide) a_110 (d.o.length) c_111 (d.o.map (Value.int .i64)) (by rfl) o_113 al (ls.length) cl (ls.map (Value.int .i64)) (by rfl) m_120 (by simp) (ints_one _) HCL.out (by simp only [maxLen]; omega) (by omega) (by omega) ?_
           intro a5 c5 w5 o5 hg
           rw [← List.map_append, HLL.out, HO2.out] at o5
           rw [HLL.out]
           have b5 : Below w_99.heap.size w_112 w5 := (Below.refl _ _).grown hg (by omega) (fun k hk => (o_113.lt k hk).1)
           have B5 : Below w_99.heap.size w_99 w5 := b_114.trans b5
           have zw5 := B5.size
           have B_123 := B_101.trans (B5.mono B_101.size)
           have H_124 := (B5.block _ (box_lt H_102)).trans H_102
           have H_125 := (B5.block _ (box_lt H_103)).trans H_103
           have H_126 := (B5.block _ (box_lt H_104)).trans H_104
           have m_127 := m_105.below B5
           have m_128 := m_106.below B5
           have m_129 := m_107.below B5
           have m_130 := m_108.below B5
           skip)
        | (refine wpList_load_box _ rfl (by rfl) (b := w_65.heap.size) (off := 0) (n := 22) rfl H_125 Try.underlying46 (by kernel_rfl) (Nat.le_of_ble_eq_true rfl) (drvC d2 A1) rfl ?_
           skip))
      refine (implDriverValid_any d2 A1 w5 m_129 hl2).mono ?_
      rintro e w_131 ⟨rfl, b_132⟩
      have zw_131 := b_132.size
      have B_133 := B_123.trans (b_132.mono B_123.size)
      have H_134 := (b_132.block _ (box_lt H_124)).trans H_124
      have H_135 := (b_132.block _ (box_lt H_125)).trans H_125
      have H_136 := (b_132.block _ (box_lt H_126)).trans H_126
      have o_137 := own_below o5 b_132
      have m_138 := m_127.below b_132
      have m_139 := m_128.below b_132
      have m_140 := m_129.below b_132
      have m_141 := m_130.below b_132
      rw [HV.out]
      have c_142 := box_cell H_135 19 (v := .slice A1.ao d2.o.length A1.co) rfl
      have lc_142 := box_lt H_135
      go_wp2_with fail
      refine (sameInts_below A1.ao a5 d2.o d2.o A1.co c5 w_131 (m_140).2.2 (own_cells o_137) (by omega) (by omega)).mono ?_
      rintro e w_143 ⟨rfl, b_144⟩
      have zw_143 := b_144.size
      have B_145 := B_133.trans (b_144.mono B_133.size)
      have H_146 := (b_144.block _ (box_lt H_134)).trans H_134
      have H_147 := (b_144.block _ (box_lt H_135)).trans H_135
      have H_148 := (b_144.block _ (box_lt H_136)).trans H_136
      have o_149 := own_below o_137 b_144
      have m_150 := m_138.below b_144
      have m_151 := m_139.below b_144
      have m_152 := m_140.below b_144
      have m_153 := m_141.below b_144
      have c_154 := box_cell H_147 18 (v := .slice A1.ai d2.i.length A1.ci) rfl
      have lc_154 := box_lt H_147
      have c_155 := box_cell H_146 18 (v := .slice A.ai d.i.length A.ci) rfl
      have lc_155 := box_lt H_146
      have hz0 : (d2.o.length : Int) = 0 := by omega
      have HID := Lib.hid (decide_eq_true HI2.out)
      have hli2 := hl2.2.2.1
      go_wp2_with fail
      refine (sameInts_below A1.ai A.ai d2.i d.i A1.ci A.ci w_143 (m_152).2.1 (m_150).2.1 (by omega) (by omega)).mono ?_
      rintro e w_156 ⟨rfl, b_157⟩
      have zw_156 := b_157.size
      have B_158 := B_145.trans (b_157.mono B_145.size)
      have H_159 := (b_157.block _ (box_lt H_146)).trans H_146
      have H_160 := (b_157.block _ (box_lt H_147)).trans H_147
      have H_161 := (b_157.block _ (box_lt H_148)).trans H_148
      have o_162 := own_below o_149 b_157
      have m_163 := m_150.below b_157
      have m_164 := m_151.below b_157
      have m_165 := m_152.below b_157
      have m_166 := m_153.below b_157
      rw [HID.out]
      go_wp2
      go_ret
      exact ⟨rfl, B_158⟩
    · have hee := Lib.hid (show d2.p.en / 2 % 2 = 1 by rw [HE2.out]; exact hpe (by omega))
      have hen0 := Lib.hid (show 0 ≤ d2.p.en by rw [HE2.out]; omega)
      clear hpe
      have HI := Lib.hid (fun v h hs => send_at hR (implDriverSend_any d A al ls cl v h hl hN hs (by omega) hcl))
      have HJ := Lib.hid (fun v h hs => send_at hR (specDriverSend_any d A al ls cl v h hl hN hs (by omega) hcl))
      clear hcl
      go_wp2_with (first
        | (refine wpList_store_any _ rfl rfl (by rfl) (b := w_1.heap.size) (off := 0) (n := 22) rfl rfl (vs := drvC d A) rfl (heap_new_at w_1 (.cells (drvC zDrv zDrvA) 46) _ rfl) (by kernel_rfl) rfl rfl (Nat.le_of_ble_eq_true rfl) (drvC d A) rfl ?_
           intro w_4 H_5 g_6
           have b_7 : Below w_1.heap.size w_1 w_4 := below_only ((Below.refl _ _).alloc (Nat.le_refl _) _) g_6 (Nat.le_refl _)
           have zw_4 := b_7.size
           have B_8 := B_3.trans (b_7.mono B_3.size)
           have lH_5 := box_lt H_5
           have m_9 := hm.below b_7
           have m_10 := hs.below b_7
           skip)
        | (refine wpList_load_box _ rfl (by rfl) (b := w_1.heap.size) (off := 0) (n := 22) rfl H_5 Try.underlying46 (by kernel_rfl) (Nat.le_of_ble_eq_true rfl) (drvC d A) rfl ?_
           skip))
      refine (HI.out w_4 m_9 m_10).mono ?_
      rintro e w_167 ⟨A1, rfl, O1, S1, b_168⟩
      have zw_167 := b_168.size
      have B_169 := B_8.trans (b_168.mono B_8.size)
      have H_170 := (b_168.block _ (box_lt H_5)).trans H_5
      have m_171 := m_9.below b_168
      have m_172 := m_10.below b_168
      have n1 := O1.m
      have N1 := O1.n
      clear O1 S1
      go_wp2_with (first
        | (refine wpList_store_any _ rfl rfl (by rfl) (b := w_167.heap.size) (off := 0) (n := 22) rfl rfl (vs := drvC d2 A1) rfl (heap_new_at w_167 (.cells (drvC zDrv zDrvA) 46) _ rfl) (by kernel_rfl) rfl rfl (Nat.le_of_ble_eq_true rfl) (drvC d2 A1) rfl ?_
           intro w_173 H_174 g_175
           have b_176 : Below w_167.heap.size w_167 w_173 := below_only ((Below.refl _ _).alloc (Nat.le_refl _) _) g_175 (Nat.le_refl _)
           have zw_173 := b_176.size
           have B_177 := B_169.trans (b_176.mono B_169.size)
           have lH_174 := box_lt H_174
           have H_178 := (b_176.block _ (box_lt H_170)).trans H_170
           have m_179 := m_171.below b_176
           have m_180 := m_172.below b_176
           have m_181 := n1.below b_176
           skip)
        | (refine wpList_load_box _ rfl (by rfl) (b := w_1.heap.size) (off := 0) (n := 22) rfl H_178 Try.underlying46 (by kernel_rfl) (Nat.le_of_ble_eq_true rfl) (drvC d A) rfl ?_
           skip))
      refine (HJ.out w_173 m_179 m_180).mono ?_
      rintro e w_182 ⟨A2, rfl, O2, S2, b_183⟩
      have zw_182 := b_183.size
      have B_184 := B_177.trans (b_183.mono B_177.size)
      have H_185 := (b_183.block _ (box_lt H_178)).trans H_178
      have H_186 := (b_183.block _ (box_lt H_174)).trans H_174
      have m_187 := m_179.below b_183
      have m_188 := m_180.below b_183
      have m_189 := m_181.below b_183
      have n2 := O2.m
      clear O2 S2
      go_wp2_with (first
        | (refine wpList_store_any _ rfl rfl (by rfl) (b := w_182.heap.size) (off := 0) (n := 22) rfl rfl (vs := drvC d2 A2) rfl (heap_new_at w_182 (.cells (drvC zDrv zDrvA) 46) _ rfl) (by kernel_rfl) rfl rfl (Nat.le_of_ble_eq_true rfl) (drvC d2 A2) rfl ?_
           intro w_190 H_191 g_192
           have b_193 : Below w_182.heap.size w_182 w_190 := below_only ((Below.refl _ _).alloc (Nat.le_refl _) _) g_192 (Nat.le_refl _)
           have zw_190 := b_193.size
           have B_194 := B_184.trans (b_193.mono B_184.size)
           have lH_191 := box_lt H_191
           have H_195 := (b_193.block _ (box_lt H_185)).trans H_185
           have H_196 := (b_193.block _ (box_lt H_186)).trans H_186
           have m_197 := m_187.below b_193
           have m_198 := m_188.below b_193
           have m_199 := m_189.below b_193
           have m_200 := n2.below b_193
           skip)
        | (refine wpList_load_box _ rfl (by rfl) (b := w_167.heap.size) (off := 0) (n := 22) rfl H_196 Try.underlying46 (by kernel_rfl) (Nat.le_of_ble_eq_true rfl) (drvC d2 A1) rfl ?_
           skip)
        | (refine wpList_load_box _ rfl (by rfl) (b := w_182.heap.size) (off := 0) (n := 22) rfl H_191 Try.underlying46 (by kernel_rfl) (Nat.le_of_ble_eq_true rfl) (drvC d2 A2) rfl ?_
           skip))
      refine (sameDriver_eq d2 A1 A2 w_190 m_199 m_200 hl2).mono ?_
      rintro e w_201 ⟨rfl, b_202⟩
      have zw_201 := b_202.size
      have B_203 := B_194.trans (b_202.mono B_194.size)
      have H_204 := (b_202.block _ (box_lt H_195)).trans H_195
      have H_205 := (b_202.block _ (box_lt H_196)).trans H_196
      have H_206 := (b_202.block _ (box_lt H_191)).trans H_191
      have m_207 := m_197.below b_202
      have m_208 := m_198.below b_202
      have m_209 := m_199.below b_202
      have m_210 := m_200.below b_202
      have c_211 := box_cell H_204 19 (v := .slice A.ao d.o.length A.co) rfl
      have lc_211 := box_lt H_204
      go_wp2_with (first
        | (at_builtin
           refine name_list fun Wq hq => ?_
           have bq : Below w_201.heap.size w_201 Wq := (by rw [hq]; exact (Below.refl _ _).alloc (Nat.le_refl _) _)
           have oq : Wq.ownsRow w_201.heap.size 3 1 (.slice (some ⟨w_201.heap.size, 0, none⟩) 0 0) 0 [] := (by rw [hq]; exact own_made_at w_201 #[] _ _ 0 _ _ rfl (Nat.le_refl _) (by simp) rfl)
           have Bq := B_203.trans (bq.mono B_203.size)
           refine wpList_append_row Wq rfl _ _ _ rfl w_201.heap.size 3 _ 1 8 Try.underlying27 int_info rfl (by decide) (some ⟨w_201.heap.size, 0, none⟩) 0 0 [] (by rfl) oq A.ao (d.o.length) (A.co) (d.o.map (Value.int .i64)) (by rfl) (show Ints _ A.ao d.o from (m_207.below bq).2.2) (by simp) (ints_one _) hN.2.2.2 (by simp only [maxLen]; omega) (by omega) bq.size ?_
           intro a_212 c_213 w_214 o_215 hg
           rw [Nat.zero_add, List.nil_append] at o_215
           rw [Nat.zero_add]
           have b_216 := below_append bq oq hg bq.size
           clear hq bq oq Bq
           clear hg
           have zw_214 := b_216.size
           have B_217 := B_203.trans (b_216.mono B_203.size)
           have H_218 := (b_216.block _ (box_lt H_204)).trans H_204
           have H_219 := (b_216.block _ (box_lt H_205)).trans H_205
           have H_220 := (b_216.block _ (box_lt H_206)).trans H_206
           have m_221 := m_207.below b_216
           have m_222 := m_208.below b_216
           have m_223 := m_209.below b_216
           have m_224 := m_210.below b_216
           skip)
        | (at_builtin
           refine wpList_append_row w_214 (by rfl) _ _ _ rfl w_201.heap.size 3 _ 1 8 Try.underlying27 int_info rfl (by decide) a_212 (d.o.length) c_213 (d.o.map (Value.int .i64)) (by rfl) o_215 al (ls.length) cl (ls.map (Value.int .i64)) (by rfl) m_222 (by simp) (ints_one _) HCL.out (by simp only [maxLen]; omega) (by omega) (by omega) ?_
           intro a5 c5 w5 o5 hg
           rw [← List.map_append, HLL.out, HO2.out] at o5
           rw [HLL.out]
           have b5 : Below w_201.heap.size w_214 w5 := (Below.refl _ _).grown hg (by omega) (fun k hk => (o_215.lt k hk).1)
           have B5 : Below w_201.heap.size w_201 w5 := b_216.trans b5
           have zw5 := B5.size
           have B_225 := B_203.trans (B5.mono B_203.size)
           have H_226 := (B5.block _ (box_lt H_204)).trans H_204
           have H_227 := (B5.block _ (box_lt H_205)).trans H_205
           have H_228 := (B5.block _ (box_lt H_206)).trans H_206
           have m_229 := m_207.below B5
           have m_230 := m_208.below B5
           have m_231 := m_209.below B5
           have m_232 := m_210.below B5
           skip)
        | (refine wpList_load_box _ rfl (by rfl) (b := w_167.heap.size) (off := 0) (n := 22) rfl H_227 Try.underlying46 (by kernel_rfl) (Nat.le_of_ble_eq_true rfl) (drvC d2 A1) rfl ?_
           skip))
      refine (implDriverValid_any d2 A1 w5 m_231 hl2).mono ?_
      rintro e w_233 ⟨rfl, b_234⟩
      have zw_233 := b_234.size
      have B_235 := B_225.trans (b_234.mono B_225.size)
      have H_236 := (b_234.block _ (box_lt H_226)).trans H_226
      have H_237 := (b_234.block _ (box_lt H_227)).trans H_227
      have H_238 := (b_234.block _ (box_lt H_228)).trans H_228
      have o_239 := own_below o5 b_234
      have m_240 := m_229.below b_234
      have m_241 := m_230.below b_234
      have m_242 := m_231.below b_234
      have m_243 := m_232.below b_234
      rw [HV.out]
      have c_244 := box_cell H_237 19 (v := .slice A1.ao d2.o.length A1.co) rfl
      have lc_244 := box_lt H_237
      go_wp2_with fail
      refine (sameInts_below A1.ao a5 d2.o d2.o A1.co c5 w_233 (m_242).2.2 (own_cells o_239) (by omega) (by omega)).mono ?_
      rintro e w_245 ⟨rfl, b_246⟩
      have zw_245 := b_246.size
      have B_247 := B_235.trans (b_246.mono B_235.size)
      have H_248 := (b_246.block _ (box_lt H_236)).trans H_236
      have H_249 := (b_246.block _ (box_lt H_237)).trans H_237
      have H_250 := (b_246.block _ (box_lt H_238)).trans H_238
      have o_251 := own_below o_239 b_246
      have m_252 := m_240.below b_246
      have m_253 := m_241.below b_246
      have m_254 := m_242.below b_246
      have m_255 := m_243.below b_246
      have c_256 := box_cell H_249 18 (v := .slice A1.ai d2.i.length A1.ci) rfl
      have lc_256 := box_lt H_249
      have c_257 := box_cell H_248 18 (v := .slice A.ai d.i.length A.ci) rfl
      have lc_257 := box_lt H_248
      have hz0 : decide ((d2.o.length : Int) = 0) = false := decide_eq_false (by omega)
      have c_258 := box_cell H_249 3 (v := .int .i64 d2.p.en) rfl
      have lc_258 := box_lt H_249
      have hq1 : IntKind.i64.wrap (d2.p.en.tdiv 2) = d2.p.en / 2 := by rw [Int.tdiv_eq_ediv_of_nonneg hen0.out]; exact IntWalk.i64_in _ (by have := hen0.out; have := HE2.out; omega)
      have hq2 : (d2.p.en / 2).tmod 2 = d2.p.en / 2 % 2 := Int.tmod_eq_emod_of_nonneg (by have := hen0.out; omega)
      have hq3 := hee.out
      have HID := Lib.hid (decide_eq_true HI2.out)
      have hli2 := hl2.2.2.1
      go_wp2_with fail
      refine (sameInts_below A1.ai A.ai d2.i d.i A1.ci A.ci w_245 (m_254).2.1 (m_252).2.1 (by omega) (by omega)).mono ?_
      rintro e w_259 ⟨rfl, b_260⟩
      have zw_259 := b_260.size
      have B_261 := B_247.trans (b_260.mono B_247.size)
      have H_262 := (b_260.block _ (box_lt H_248)).trans H_248
      have H_263 := (b_260.block _ (box_lt H_249)).trans H_249
      have H_264 := (b_260.block _ (box_lt H_250)).trans H_250
      have o_265 := own_below o_251 b_260
      have m_266 := m_252.below b_260
      have m_267 := m_253.below b_260
      have m_268 := m_254.below b_260
      have m_269 := m_255.below b_260
      rw [HID.out]
      go_wp2
      go_ret
      exact ⟨rfl, B_261⟩

set_option linter.unusedVariables false in
set_option maxRecDepth 100000 in
theorem FnDriverSend_lifted (os : Os) (started : os.Started) (H : Type) (enc : TypeId × Value → H) :
    ReturnsInHanded {} Try.checked os 7 .any (Rows.fnDriverSendSpec.pre6 enc Try.prog Try.f7 Rows.fnDriverSendRow.domain false) (Rows.fnDriverSendSpec.post enc Try.prog Try.f7 false true false false) := by
  refine returnsInHanded_of_change (C := Try.checked) own_knob started (by kernel_rfl) Try.func7
    (ChangeSpec.witness6 (enc := enc) (C := Try.checked) false ⟨#[], #[.slice none 0 0], []⟩ 8 (by kernel_rfl) (by kernel_rfl) (by kernel_rfl) (by kernel_rfl)) ?_
  intro W base args ds gs before hval0 hW hcnd _
  have hval : ∀ (j : Nat) t v, Try.f7.params[j]? = some t → args[j]? = some v → Value.okWide Try.prog W .any base t v := hval0
  have hW' := hW
  obtain ⟨p, q, hA0, hV, rfl, hfz, hnd⟩ := hW
  have hA : DataW.TrodAll enc Try.prog W 0 (fun _ => true) true Try.f7.params.toList args.toList ds p := hA0
  rw [Try.params7] at hA hval
  obtain ⟨v0, vs0, d0, ds0, p0, q0, hargs, rfl, rfl, h0, r0⟩ := trodAll_cons hA
  obtain ⟨rfl, rfl, rfl⟩ := trodAll_nil r0
  obtain rfl : args = #[v0] := by cases args; simp_all
  obtain ⟨rfl, rfl⟩ := trodVars_none hV
  have k0 := h0
  have lt0 : ∀ x ∈ p0, x.block < W.heap.size := by obtain ⟨m, hm⟩ := k0; exact DataW.trod_lt m _ _ _ hm
  obtain ⟨a0, len0, cap0, rfl⟩ := okWide_slice Try.underlying59 (hval 0 59 v0 rfl rfl)
  obtain ⟨z0, rfl, lc0, lm0, rz0⟩ : ∃ z : List Int, len0 = z.length ∧ z.length ≤ cap0 ∧ cap0 ≤ maxLen ∧ Bytes W a0 z := by
    obtain ⟨fuel, hf⟩ := h0
    obtain ⟨ao, cap, z, e, h1, h2, h3⟩ := rd_bytes hf
    simp [Value.cells] at e
    obtain ⟨rfl, rfl, rfl⟩ := e
    exact ⟨z, rfl, h1, h2, h3⟩
  have lb0 : z0.length ≤ cap0 := lc0
  clear hA0 hval0
  refine (FnDriverSend_walk a0 z0 cap0 W rz0 lc0 lm0).mono fun e W' ⟨he, bel⟩ => ?_
  subst he
  exact ⟨_, rfl, _, _, _, [], _, [], hW', trodAll_mk1 (shut_bool Try.underlying4 _), (trodAll_cons_mk (Below.trod laid_out (by kernel_rfl) (of_decide_eq_true (by kernel_rfl)) k0 bel lt0) trodAll_mk0), rfl, bel.frame _, fun h => by cases h⟩

theorem FnDriverSend_holds : Rows.FnDriverSendSaid :=
  OpenClaim.holds_of_wide 7 Try.f7 rfl rfl rfl rfl rfl rfl rfl ⟨rfl, rfl, rfl, rfl, rfl⟩ rfl rfl rfl rfl rfl (by kernel_rfl) Try.func7 (by kernel_rfl)
    (of_decide_eq_true (by kernel_rfl)) (by unfold Func.isWrapper; first | (rw [if_pos (by decide +kernel)]; kernel_rfl) | (rw [if_neg (by decide +kernel)]; exact ⟨rfl, rfl⟩))
    (fun os started H enc _ => FnDriverSend_lifted os started H enc)
end Go.Proofs.Ytkmampichfbppaa
