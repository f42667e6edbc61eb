/- FnFlowDriverTake: A driver without bytes can receive. No conditions beyond the statement's own. -/
import Derived.Test.YtkmampichfbppaaDrvLaw5
import Derived.Test.YtkmampichfbppaaDrvDraw7
namespace Go.Proofs.Ytkmampichfbppaa
open Go.ChangeShapes Go.WideShapes Go.ChangeAt Go.RowKit

set_option maxHeartbeats 4000000 in
set_option maxRecDepth 100000 in
theorem FnFlowDriverTake_walk (a0 : Option Addr) (z0 : List Int) (cap0 : Nat) (w : World) (rz0 : Bytes w a0 z0) (lc0 : z0.length ≤ cap0) (_lm0 : cap0 ≤ maxLen) :
    Calls Try.prog 10 #[.slice a0 z0.length cap0] w fun e w' => e = .returned (.bool true) ∧ Below w.heap.size w w' := by
  unfold maxLen at _lm0
  by_cases hn0 : (z0.length : Int) ≤ 1048576
  case neg =>
    have hn0' : (1048576 : Int) < (z0.length : Int) := by omega
    go_enter Try.func10, Try.ntmps10
    go_wp2
    go_ret
    exact ⟨rfl, Below.refl _ _⟩
  go_enter Try.func10, Try.ntmps10
  have B0 : Below w.heap.size w w := Below.refl _ _
  go_wp2_with fail
  refine (drawFlowDriver_any a0 z0 cap0 w rz0 lc0 (by omega)).mono ?_
  rintro e w_1 ⟨fh, fl, d, A, rfl, lg, ly, li, lo, DO, b_2⟩
  have zw_1 := b_2.size
  have B_3 := B0.trans (b_2.mono B0.size)
  have hm := DO.m
  have hN := DO.n
  have hl : DrvL d := ⟨by omega, by omega, by omega, by omega⟩
  clear DO
  cases hB : (flowVB fh fl && drvB d)
  · have hR := flowR_no hB
    have HI := Lib.hid (fun v h => flow_at hR (implFlowDriver_any fh fl d A v h hl hN))
    have HJ := Lib.hid (fun v h => flow_at hR (specFlowDriver_any fh fl d A v h hl hN))
    go_wp2_with (first
      | (refine wpList_store_any _ rfl rfl (by rfl) (b := w_1.heap.size) (off := 0) (n := 2) rfl rfl (vs := #[.int .i64 fh, .int .i64 fl]) rfl (box_alloc (heap_new_at w_1 (.cells #[.int .i64 0, .int .i64 0] 68) _ rfl) (.cells (drvC zDrv zDrvA) 46)) (by kernel_rfl) rfl rfl (Nat.le_of_ble_eq_true rfl) (#[.int .i64 fh, .int .i64 fl]) rfl ?_
         intro w_4 H_6 g_8
         have b_10 : Below w_1.heap.size w_1 w_4 := below_only (((Below.refl _ _).alloc (Nat.le_refl _) _).alloc (by simp) _) g_8 (Nat.le_refl _)
         have zw_4 : w_1.heap.size + 2 ≤ w_4.heap.size := by have := g_8.size; simp at this; omega
         have H_70 := box_only' (heap_new_at (w_1.alloc (.cells #[.int .i64 0, .int .i64 0] 68)) (.cells (drvC zDrv zDrvA) 46) (w_1.heap.size + 1) (by simp)) g_8 (by omega)
         skip)
      | (refine wpList_store_any _ rfl rfl (by rfl) (b := w_1.heap.size + 1) (off := 0) (n := 22) rfl rfl (vs := drvC d A) rfl H_70 (by kernel_rfl) rfl rfl (Nat.le_of_ble_eq_true rfl) (drvC d A) rfl ?_
         intro w_5 H_7 g_9
         have b_11 : Below w_1.heap.size w_1 w_5 := below_only b_10 g_9 (by omega)
         have zw_5 := g_9.size
         have B_12 := B_3.trans (b_11.mono B_3.size)
         have m_13 := hm.below b_11
         have H_6f := box_only' H_6 g_9 (by omega)
         have lH_6 := box_lt H_6f
         have lH_7 := box_lt H_7
         skip)
      | (refine wpList_load_box _ rfl (by rfl) (b := w_1.heap.size) (off := 0) (n := 2) rfl H_6f Try.underlying68 (by kernel_rfl) (Nat.le_of_ble_eq_true rfl) (#[.int .i64 fh, .int .i64 fl]) rfl ?_
         skip)
      | (refine wpList_load_box _ rfl (by rfl) (b := w_1.heap.size + 1) (off := 0) (n := 22) rfl H_7 Try.underlying46 (by kernel_rfl) (Nat.le_of_ble_eq_true rfl) (drvC d A) rfl ?_
         skip))
    refine (HI.out w_5 m_13).mono ?_
    rintro e w_14 ⟨A1, rfl, O1, S1, b_15⟩
    have zw_14 := b_15.size
    have B_16 := B_12.trans (b_15.mono B_12.size)
    have H_17 := (b_15.block _ (box_lt H_6f)).trans H_6f
    have H_18 := (b_15.block _ (box_lt H_7)).trans H_7
    have m_19 := m_13.below b_15
    have n1 := O1.m
    have N1 := O1.n
    clear O1 S1
    go_wp2_with (first
      | (refine wpList_store_any _ rfl rfl (by rfl) (b := w_14.heap.size) (off := 0) (n := 22) rfl rfl (vs := drvC zDrv A1) rfl (heap_new_at w_14 (.cells (drvC zDrv zDrvA) 46) _ rfl) (by kernel_rfl) rfl rfl (Nat.le_of_ble_eq_true rfl) (drvC zDrv A1) rfl ?_
         intro w_20 H_21 g_22
         have b_23 : Below w_14.heap.size w_14 w_20 := below_only ((Below.refl _ _).alloc (Nat.le_refl _) _) g_22 (Nat.le_refl _)
         have zw_20 := b_23.size
         have B_24 := B_16.trans (b_23.mono B_16.size)
         have lH_21 := box_lt H_21
         have H_25 := (b_23.block _ (box_lt H_17)).trans H_17
         have H_26 := (b_23.block _ (box_lt H_18)).trans H_18
         have m_27 := m_19.below b_23
         have m_28 := n1.below b_23
         skip)
      | (refine wpList_load_box _ rfl (by rfl) (b := w_1.heap.size) (off := 0) (n := 2) rfl H_25 Try.underlying68 (by kernel_rfl) (Nat.le_of_ble_eq_true rfl) (#[.int .i64 fh, .int .i64 fl]) rfl ?_
         skip)
      | (refine wpList_load_box _ rfl (by rfl) (b := w_1.heap.size + 1) (off := 0) (n := 22) rfl H_26 Try.underlying46 (by kernel_rfl) (Nat.le_of_ble_eq_true rfl) (drvC d A) rfl ?_
         skip))
    refine (HJ.out w_20 m_27).mono ?_
    rintro e w_29 ⟨A2, rfl, O2, S2, b_30⟩
    have zw_29 := b_30.size
    have B_31 := B_24.trans (b_30.mono B_24.size)
    have H_32 := (b_30.block _ (box_lt H_25)).trans H_25
    have H_33 := (b_30.block _ (box_lt H_26)).trans H_26
    have H_34 := (b_30.block _ (box_lt H_21)).trans H_21
    have m_35 := m_27.below b_30
    have m_36 := m_28.below b_30
    have n2 := O2.m
    clear O2 S2
    go_wp2_with (first
      | (refine wpList_store_any _ rfl rfl (by rfl) (b := w_29.heap.size) (off := 0) (n := 22) rfl rfl (vs := drvC zDrv A2) rfl (heap_new_at w_29 (.cells (drvC zDrv zDrvA) 46) _ rfl) (by kernel_rfl) rfl rfl (Nat.le_of_ble_eq_true rfl) (drvC zDrv A2) rfl ?_
         intro w_37 H_38 g_39
         have b_40 : Below w_29.heap.size w_29 w_37 := below_only ((Below.refl _ _).alloc (Nat.le_refl _) _) g_39 (Nat.le_refl _)
         have zw_37 := b_40.size
         have B_41 := B_31.trans (b_40.mono B_31.size)
         have lH_38 := box_lt H_38
         have H_42 := (b_40.block _ (box_lt H_32)).trans H_32
         have H_43 := (b_40.block _ (box_lt H_33)).trans H_33
         have H_44 := (b_40.block _ (box_lt H_34)).trans H_34
         have m_45 := m_35.below b_40
         have m_46 := m_36.below b_40
         have m_47 := n2.below b_40
         skip)
      | (refine wpList_load_box _ rfl (by rfl) (b := w_14.heap.size) (off := 0) (n := 22) rfl H_44 Try.underlying46 (by kernel_rfl) (Nat.le_of_ble_eq_true rfl) (drvC zDrv A1) rfl ?_
         skip)
      | (refine wpList_load_box _ rfl (by rfl) (b := w_29.heap.size) (off := 0) (n := 22) rfl H_38 Try.underlying46 (by kernel_rfl) (Nat.le_of_ble_eq_true rfl) (drvC zDrv A2) rfl ?_
         skip))
    refine (sameDriver_eq zDrv A1 A2 w_37 m_46 m_47 zDrvL).mono ?_
    rintro e w_48 ⟨rfl, b_49⟩
    have zw_48 := b_49.size
    have B_50 := B_41.trans (b_49.mono B_41.size)
    have H_51 := (b_49.block _ (box_lt H_42)).trans H_42
    have H_52 := (b_49.block _ (box_lt H_43)).trans H_43
    have H_53 := (b_49.block _ (box_lt H_44)).trans H_44
    have H_54 := (b_49.block _ (box_lt H_38)).trans H_38
    have m_55 := m_45.below b_49
    have m_56 := m_46.below b_49
    have m_57 := m_47.below b_49
    go_wp2_with (first
      | (refine wpList_load_box _ rfl (by rfl) (b := w_14.heap.size) (off := 0) (n := 22) rfl H_53 Try.underlying46 (by kernel_rfl) (Nat.le_of_ble_eq_true rfl) (drvC zDrv A1) rfl ?_
         skip)
      | (refine wpList_load_box _ rfl (by rfl) (b := w_29.heap.size) (off := 0) (n := 22) rfl H_54 Try.underlying46 (by kernel_rfl) (Nat.le_of_ble_eq_true rfl) (drvC zDrv A2) rfl ?_
         skip))
    refine (sameDriver_eq zDrv A1 A2 w_48 m_56 m_57 zDrvL).mono ?_
    rintro e w_58 ⟨rfl, b_59⟩
    have zw_58 := b_59.size
    have B_60 := B_50.trans (b_59.mono B_50.size)
    have H_61 := (b_59.block _ (box_lt H_51)).trans H_51
    have H_62 := (b_59.block _ (box_lt H_52)).trans H_52
    have H_63 := (b_59.block _ (box_lt H_53)).trans H_53
    have H_64 := (b_59.block _ (box_lt H_54)).trans H_54
    have m_65 := m_55.below b_59
    have m_66 := m_56.below b_59
    have m_67 := m_57.below b_59
    go_wp2
    go_ret
    exact ⟨rfl, B_60⟩
  · have hBB := hB
    rw [Bool.and_eq_true] at hBB
    have hf := hBB.1
    have hv := hBB.2
    have hen := drvB_en hv
    have hc0 := hen.2.2.1
    have hc1 := hen.2.2.2
    clear hen hBB
    have hlen := (drvB_len hv).2.2.1
    cases hw : flowW fh fl (d.i.length : Int) (decide (d.p.co / 2 = 1))
    · have hR := flowR_yes (co := d.p.co % 2) hB (by simp only [flowC, co_bits hc0 hc1, hw]; simp)
      have hv2 := drvB_co (c := d.p.co % 2) hv (by omega)
      obtain ⟨d3, L3, hR3, h30, hv3, hl3⟩ := take_whole hv2 (show DrvL { d with p := { d.p with co := (d.p.co % 2) } } from hl)
      obtain ⟨d4, hR4, h40, h41, _⟩ := flow_empty hf hv3 h30
      clear h30 hv2
      have HI := Lib.hid (fun v h => flow_at hR (implFlowDriver_any fh fl d A v h hl hN))
      have HJ := Lib.hid (fun v h => flow_at hR (specFlowDriver_any fh fl d A v h hl hN))
      go_wp2_with (first
        | (refine wpList_store_any _ rfl rfl (by rfl) (b := w_1.heap.size) (off := 0) (n := 2) rfl rfl (vs := #[.int .i64 fh, .int .i64 fl]) rfl (box_alloc (heap_new_at w_1 (.cells #[.int .i64 0, .int .i64 0] 68) _ rfl) (.cells (drvC zDrv zDrvA) 46)) (by kernel_rfl) rfl rfl (Nat.le_of_ble_eq_true rfl) (#[.int .i64 fh, .int .i64 fl]) rfl ?_
           intro w_4 H_6 g_8
           have b_10 : Below w_1.heap.size w_1 w_4 := below_only (((Below.refl _ _).alloc (Nat.le_refl _) _).alloc (by simp) _) g_8 (Nat.le_refl _)
           have zw_4 : w_1.heap.size + 2 ≤ w_4.heap.size := by have := g_8.size; simp at this; omega
           have H_70 := box_only' (heap_new_at (w_1.alloc (.cells #[.int .i64 0, .int .i64 0] 68)) (.cells (drvC zDrv zDrvA) 46) (w_1.heap.size + 1) (by simp)) g_8 (by omega)
           skip)
        | (refine wpList_store_any _ rfl rfl (by rfl) (b := w_1.heap.size + 1) (off := 0) (n := 22) rfl rfl (vs := drvC d A) rfl H_70 (by kernel_rfl) rfl rfl (Nat.le_of_ble_eq_true rfl) (drvC d A) rfl ?_
           intro w_5 H_7 g_9
           have b_11 : Below w_1.heap.size w_1 w_5 := below_only b_10 g_9 (by omega)
           have zw_5 := g_9.size
           have B_12 := B_3.trans (b_11.mono B_3.size)
           have m_13 := hm.below b_11
           have H_6f := box_only' H_6 g_9 (by omega)
           have lH_6 := box_lt H_6f
           have lH_7 := box_lt H_7
           skip)
        | (refine wpList_load_box _ rfl (by rfl) (b := w_1.heap.size) (off := 0) (n := 2) rfl H_6f Try.underlying68 (by kernel_rfl) (Nat.le_of_ble_eq_true rfl) (#[.int .i64 fh, .int .i64 fl]) rfl ?_
           skip)
        | (refine wpList_load_box _ rfl (by rfl) (b := w_1.heap.size + 1) (off := 0) (n := 22) rfl H_7 Try.underlying46 (by kernel_rfl) (Nat.le_of_ble_eq_true rfl) (drvC d A) rfl ?_
           skip))
      refine (HI.out w_5 m_13).mono ?_
      rintro e w_68 ⟨A1, rfl, O1, S1, b_69⟩
      have zw_68 := b_69.size
      have B_70 := B_12.trans (b_69.mono B_12.size)
      have H_71 := (b_69.block _ (box_lt H_6f)).trans H_6f
      have H_72 := (b_69.block _ (box_lt H_7)).trans H_7
      have m_73 := m_13.below b_69
      have n1 := O1.m
      have N1 := O1.n
      clear O1 S1
      go_wp2_with (first
        | (refine wpList_store_any _ rfl rfl (by rfl) (b := w_68.heap.size) (off := 0) (n := 22) rfl rfl (vs := drvC { d with p := { d.p with co := (d.p.co % 2) } } A1) rfl (heap_new_at w_68 (.cells (drvC zDrv zDrvA) 46) _ rfl) (by kernel_rfl) rfl rfl (Nat.le_of_ble_eq_true rfl) (drvC { d with p := { d.p with co := (d.p.co % 2) } } A1) rfl ?_
           intro w_74 H_75 g_76
           have b_77 : Below w_68.heap.size w_68 w_74 := below_only ((Below.refl _ _).alloc (Nat.le_refl _) _) g_76 (Nat.le_refl _)
           have zw_74 := b_77.size
           have B_78 := B_70.trans (b_77.mono B_70.size)
           have lH_75 := box_lt H_75
           have H_79 := (b_77.block _ (box_lt H_71)).trans H_71
           have H_80 := (b_77.block _ (box_lt H_72)).trans H_72
           have m_81 := m_73.below b_77
           have m_82 := n1.below b_77
           skip)
        | (refine wpList_load_box _ rfl (by rfl) (b := w_1.heap.size) (off := 0) (n := 2) rfl H_79 Try.underlying68 (by kernel_rfl) (Nat.le_of_ble_eq_true rfl) (#[.int .i64 fh, .int .i64 fl]) rfl ?_
           skip)
        | (refine wpList_load_box _ rfl (by rfl) (b := w_1.heap.size + 1) (off := 0) (n := 22) rfl H_80 Try.underlying46 (by kernel_rfl) (Nat.le_of_ble_eq_true rfl) (drvC d A) rfl ?_
           skip))
      refine (HJ.out w_74 m_81).mono ?_
      rintro e w_83 ⟨A2, rfl, O2, S2, b_84⟩
      have zw_83 := b_84.size
      have B_85 := B_78.trans (b_84.mono B_78.size)
      have H_86 := (b_84.block _ (box_lt H_79)).trans H_79
      have H_87 := (b_84.block _ (box_lt H_80)).trans H_80
      have H_88 := (b_84.block _ (box_lt H_75)).trans H_75
      have m_89 := m_81.below b_84
      have m_90 := m_82.below b_84
      have n2 := O2.m
      clear O2 S2
      go_wp2_with (first
        | (refine wpList_store_any _ rfl rfl (by rfl) (b := w_83.heap.size) (off := 0) (n := 22) rfl rfl (vs := drvC { d with p := { d.p with co := (d.p.co % 2) } } A2) rfl (heap_new_at w_83 (.cells (drvC zDrv zDrvA) 46) _ rfl) (by kernel_rfl) rfl rfl (Nat.le_of_ble_eq_true rfl) (drvC { d with p := { d.p with co := (d.p.co % 2) } } A2) rfl ?_
           intro w_91 H_92 g_93
           have b_94 : Below w_83.heap.size w_83 w_91 := below_only ((Below.refl _ _).alloc (Nat.le_refl _) _) g_93 (Nat.le_refl _)
           have zw_91 := b_94.size
           have B_95 := B_85.trans (b_94.mono B_85.size)
           have lH_92 := box_lt H_92
           have H_96 := (b_94.block _ (box_lt H_86)).trans H_86
           have H_97 := (b_94.block _ (box_lt H_87)).trans H_87
           have H_98 := (b_94.block _ (box_lt H_88)).trans H_88
           have m_99 := m_89.below b_94
           have m_100 := m_90.below b_94
           have m_101 := n2.below b_94
           skip)
        | (refine wpList_load_box _ rfl (by rfl) (b := w_68.heap.size) (off := 0) (n := 22) rfl H_98 Try.underlying46 (by kernel_rfl) (Nat.le_of_ble_eq_true rfl) (drvC { d with p := { d.p with co := (d.p.co % 2) } } A1) rfl ?_
           skip)
        | (refine wpList_load_box _ rfl (by rfl) (b := w_83.heap.size) (off := 0) (n := 22) rfl H_92 Try.underlying46 (by kernel_rfl) (Nat.le_of_ble_eq_true rfl) (drvC { d with p := { d.p with co := (d.p.co % 2) } } A2) rfl ?_
           skip))
      refine (sameDriver_eq { d with p := { d.p with co := (d.p.co % 2) } } A1 A2 w_91 m_100 m_101 hl).mono ?_
      rintro e w_102 ⟨rfl, b_103⟩
      have zw_102 := b_103.size
      have B_104 := B_95.trans (b_103.mono B_95.size)
      have H_105 := (b_103.block _ (box_lt H_96)).trans H_96
      have H_106 := (b_103.block _ (box_lt H_97)).trans H_97
      have H_107 := (b_103.block _ (box_lt H_98)).trans H_98
      have H_108 := (b_103.block _ (box_lt H_92)).trans H_92
      have m_109 := m_99.below b_103
      have m_110 := m_100.below b_103
      have m_111 := m_101.below b_103
      have HI3 := Lib.hid (fun v h => take_at hR3 (implDriverTake_any { d with p := { d.p with co := (d.p.co % 2) } } A1 32 v h hl N1))
      go_wp2_with (first
        | (refine wpList_load_box _ rfl (by rfl) (b := w_68.heap.size) (off := 0) (n := 22) rfl H_107 Try.underlying46 (by kernel_rfl) (Nat.le_of_ble_eq_true rfl) (drvC { d with p := { d.p with co := (d.p.co % 2) } } A1) rfl ?_
           skip))
      refine (HI3.out w_102 m_110).mono ?_
      rintro e w_112 ⟨A3, a3, c3, rfl, O3, o3, S3, b_113⟩
      have zw_112 := b_113.size
      have B_114 := B_104.trans (b_113.mono B_104.size)
      have H_115 := (b_113.block _ (box_lt H_105)).trans H_105
      have H_116 := (b_113.block _ (box_lt H_106)).trans H_106
      have H_117 := (b_113.block _ (box_lt H_107)).trans H_107
      have H_118 := (b_113.block _ (box_lt H_108)).trans H_108
      have m_119 := m_109.below b_113
      have m_120 := m_110.below b_113
      have m_121 := m_111.below b_113
      have n3 := O3.m
      have N3 := O3.n
      clear O3 o3 S3
      have HI4 := Lib.hid (fun v h => flow_at hR4 (implFlowDriver_any fh fl d3 A3 v h hl3 N3))
      go_wp2_with (first
        | (refine wpList_store_any _ rfl rfl (by rfl) (b := w_112.heap.size) (off := 0) (n := 22) rfl rfl (vs := drvC d3 A3) rfl (heap_new_at w_112 (.cells (drvC zDrv zDrvA) 46) _ rfl) (by kernel_rfl) rfl rfl (Nat.le_of_ble_eq_true rfl) (drvC d3 A3) rfl ?_
           intro w_122 H_123 g_124
           have b_125 : Below w_112.heap.size w_112 w_122 := below_only ((Below.refl _ _).alloc (Nat.le_refl _) _) g_124 (Nat.le_refl _)
           have zw_122 := b_125.size
           have B_126 := B_114.trans (b_125.mono B_114.size)
           have lH_123 := box_lt H_123
           have H_127 := (b_125.block _ (box_lt H_115)).trans H_115
           have H_128 := (b_125.block _ (box_lt H_116)).trans H_116
           have H_129 := (b_125.block _ (box_lt H_117)).trans H_117
           have H_130 := (b_125.block _ (box_lt H_118)).trans H_118
           have m_131 := m_119.below b_125
           have m_132 := m_120.below b_125
           have m_133 := m_121.below b_125
           have m_134 := n3.below b_125
           skip)
        | (refine wpList_load_box _ rfl (by rfl) (b := w_1.heap.size) (off := 0) (n := 2) rfl H_127 Try.underlying68 (by kernel_rfl) (Nat.le_of_ble_eq_true rfl) (#[.int .i64 fh, .int .i64 fl]) rfl ?_
           skip)
        | (refine wpList_load_box _ rfl (by rfl) (b := w_112.heap.size) (off := 0) (n := 22) rfl H_123 Try.underlying46 (by kernel_rfl) (Nat.le_of_ble_eq_true rfl) (drvC d3 A3) rfl ?_
           skip))
      refine (HI4.out w_122 m_134).mono ?_
      rintro e w_135 ⟨A4, rfl, O4, S4, b_136⟩
      have zw_135 := b_136.size
      have B_137 := B_126.trans (b_136.mono B_126.size)
      have H_138 := (b_136.block _ (box_lt H_127)).trans H_127
      have H_139 := (b_136.block _ (box_lt H_128)).trans H_128
      have H_140 := (b_136.block _ (box_lt H_129)).trans H_129
      have H_141 := (b_136.block _ (box_lt H_130)).trans H_130
      have H_142 := (b_136.block _ (box_lt H_123)).trans H_123
      have m_143 := m_131.below b_136
      have m_144 := m_132.below b_136
      have m_145 := m_133.below b_136
      have m_146 := m_134.below b_136
      clear O4 S4
      have htd : IntKind.i64.wrap (d4.p.co.tdiv 2) = d4.p.co / 2 := by rw [Int.tdiv_eq_ediv_of_nonneg (by omega)]; exact IntWalk.i64_in _ (by omega)
      have htq : d4.p.co / 2 = 1 := by omega
      go_wp2_with (first
        | (refine wpList_store_any _ rfl rfl (by rfl) (b := w_135.heap.size) (off := 0) (n := 22) rfl rfl (vs := drvC d4 A4) rfl (heap_new_at w_135 (.cells (drvC zDrv zDrvA) 46) _ rfl) (by kernel_rfl) rfl rfl (Nat.le_of_ble_eq_true rfl) (drvC d4 A4) rfl ?_
           intro w_147 H_148 g_149
           have b_150 : Below w_135.heap.size w_135 w_147 := below_only ((Below.refl _ _).alloc (Nat.le_refl _) _) g_149 (Nat.le_refl _)
           have zw_147 := b_150.size
           have B_151 := B_137.trans (b_150.mono B_137.size)
           have lH_148 := box_lt H_148
           have H_152 := (b_150.block _ (box_lt H_138)).trans H_138
           have H_153 := (b_150.block _ (box_lt H_139)).trans H_139
           have H_154 := (b_150.block _ (box_lt H_140)).trans H_140
           have H_155 := (b_150.block _ (box_lt H_141)).trans H_141
           have H_156 := (b_150.block _ (box_lt H_142)).trans H_142
           have m_157 := m_143.below b_150
           have m_158 := m_144.below b_150
           have m_159 := m_145.below b_150
           have m_160 := m_146.below b_150
           have c_161 := box_cell H_148 4 (v := .int .i64 d4.p.co) rfl
           have lc_161 := box_lt H_148
           skip))
      go_ret
      exact ⟨rfl, B_151⟩
    · have hR := flowR_yes (co := d.p.co % 2 + 2) hB (by simp only [flowC, co_bits hc0 hc1, hw]; simp)
      have hv2 := drvB_co (c := d.p.co % 2 + 2) hv (by omega)
      obtain ⟨d3, L3, hR3, h30, hv3, hl3⟩ := take_whole hv2 (show DrvL { d with p := { d.p with co := (d.p.co % 2 + 2) } } from hl)
      obtain ⟨d4, hR4, h40, h41, _⟩ := flow_empty hf hv3 h30
      clear h30 hv2
      have HI := Lib.hid (fun v h => flow_at hR (implFlowDriver_any fh fl d A v h hl hN))
      have HJ := Lib.hid (fun v h => flow_at hR (specFlowDriver_any fh fl d A v h hl hN))
      go_wp2_with (first
        | (refine wpList_store_any _ rfl rfl (by rfl) (b := w_1.heap.size) (off := 0) (n := 2) rfl rfl (vs := #[.int .i64 fh, .int .i64 fl]) rfl (box_alloc (heap_new_at w_1 (.cells #[.int .i64 0, .int .i64 0] 68) _ rfl) (.cells (drvC zDrv zDrvA) 46)) (by kernel_rfl) rfl rfl (Nat.le_of_ble_eq_true rfl) (#[.int .i64 fh, .int .i64 fl]) rfl ?_
           intro w_4 H_6 g_8
           have b_10 : Below w_1.heap.size w_1 w_4 := below_only (((Below.refl _ _).alloc (Nat.le_refl _) _).alloc (by simp) _) g_8 (Nat.le_refl _)
           have zw_4 : w_1.heap.size + 2 ≤ w_4.heap.size := by have := g_8.size; simp at this; omega
           have H_70 := box_only' (heap_new_at (w_1.alloc (.cells #[.int .i64 0, .int .i64 0] 68)) (.cells (drvC zDrv zDrvA) 46) (w_1.heap.size + 1) (by simp)) g_8 (by omega)
           skip)
        | (refine wpList_store_any _ rfl rfl (by rfl) (b := w_1.heap.size + 1) (off := 0) (n := 22) rfl rfl (vs := drvC d A) rfl H_70 (by kernel_rfl) rfl rfl (Nat.le_of_ble_eq_true rfl) (drvC d A) rfl ?_
           intro w_5 H_7 g_9
           have b_11 : Below w_1.heap.size w_1 w_5 := below_only b_10 g_9 (by omega)
           have zw_5 := g_9.size
           have B_12 := B_3.trans (b_11.mono B_3.size)
           have m_13 := hm.below b_11
           have H_6f := box_only' H_6 g_9 (by omega)
           have lH_6 := box_lt H_6f
           have lH_7 := box_lt H_7
           skip)
        | (refine wpList_load_box _ rfl (by rfl) (b := w_1.heap.size) (off := 0) (n := 2) rfl H_6f Try.underlying68 (by kernel_rfl) (Nat.le_of_ble_eq_true rfl) (#[.int .i64 fh, .int .i64 fl]) rfl ?_
           skip)
        | (refine wpList_load_box _ rfl (by rfl) (b := w_1.heap.size + 1) (off := 0) (n := 22) rfl H_7 Try.underlying46 (by kernel_rfl) (Nat.le_of_ble_eq_true rfl) (drvC d A) rfl ?_
           skip))
      refine (HI.out w_5 m_13).mono ?_
      rintro e w_162 ⟨A1, rfl, O1, S1, b_163⟩
      have zw_162 := b_163.size
      have B_164 := B_12.trans (b_163.mono B_12.size)
      have H_165 := (b_163.block _ (box_lt H_6f)).trans H_6f
      have H_166 := (b_163.block _ (box_lt H_7)).trans H_7
      have m_167 := m_13.below b_163
      have n1 := O1.m
      have N1 := O1.n
      clear O1 S1
      go_wp2_with (first
        | (refine wpList_store_any _ rfl rfl (by rfl) (b := w_162.heap.size) (off := 0) (n := 22) rfl rfl (vs := drvC { d with p := { d.p with co := (d.p.co % 2 + 2) } } A1) rfl (heap_new_at w_162 (.cells (drvC zDrv zDrvA) 46) _ rfl) (by kernel_rfl) rfl rfl (Nat.le_of_ble_eq_true rfl) (drvC { d with p := { d.p with co := (d.p.co % 2 + 2) } } A1) rfl ?_
           intro w_168 H_169 g_170
           have b_171 : Below w_162.heap.size w_162 w_168 := below_only ((Below.refl _ _).alloc (Nat.le_refl _) _) g_170 (Nat.le_refl _)
           have zw_168 := b_171.size
           have B_172 := B_164.trans (b_171.mono B_164.size)
           have lH_169 := box_lt H_169
           have H_173 := (b_171.block _ (box_lt H_165)).trans H_165
           have H_174 := (b_171.block _ (box_lt H_166)).trans H_166
           have m_175 := m_167.below b_171
           have m_176 := n1.below b_171
           skip)
        | (refine wpList_load_box _ rfl (by rfl) (b := w_1.heap.size) (off := 0) (n := 2) rfl H_173 Try.underlying68 (by kernel_rfl) (Nat.le_of_ble_eq_true rfl) (#[.int .i64 fh, .int .i64 fl]) rfl ?_
           skip)
        | (refine wpList_load_box _ rfl (by rfl) (b := w_1.heap.size + 1) (off := 0) (n := 22) rfl H_174 Try.underlying46 (by kernel_rfl) (Nat.le_of_ble_eq_true rfl) (drvC d A) rfl ?_
           skip))
      refine (HJ.out w_168 m_175).mono ?_
      rintro e w_177 ⟨A2, rfl, O2, S2, b_178⟩
      have zw_177 := b_178.size
      have B_179 := B_172.trans (b_178.mono B_172.size)
      have H_180 := (b_178.block _ (box_lt H_173)).trans H_173
      have H_181 := (b_178.block _ (box_lt H_174)).trans H_174
      have H_182 := (b_178.block _ (box_lt H_169)).trans H_169
      have m_183 := m_175.below b_178
      have m_184 := m_176.below b_178
      have n2 := O2.m
      clear O2 S2
      go_wp2_with (first
        | (refine wpList_store_any _ rfl rfl (by rfl) (b := w_177.heap.size) (off := 0) (n := 22) rfl rfl (vs := drvC { d with p := { d.p with co := (d.p.co % 2 + 2) } } A2) rfl (heap_new_at w_177 (.cells (drvC zDrv zDrvA) 46) _ rfl) (by kernel_rfl) rfl rfl (Nat.le_of_ble_eq_true rfl) (drvC { d with p := { d.p with co := (d.p.co % 2 + 2) } } A2) rfl ?_
           intro w_185 H_186 g_187
           have b_188 : Below w_177.heap.size w_177 w_185 := below_only ((Below.refl _ _).alloc (Nat.le_refl _) _) g_187 (Nat.le_refl _)
           have zw_185 := b_188.size
           have B_189 := B_179.trans (b_188.mono B_179.size)
           have lH_186 := box_lt H_186
           have H_190 := (b_188.block _ (box_lt H_180)).trans H_180
           have H_191 := (b_188.block _ (box_lt H_181)).trans H_181
           have H_192 := (b_188.block _ (box_lt H_182)).trans H_182
           have m_193 := m_183.below b_188
           have m_194 := m_184.below b_188
           have m_195 := n2.below b_188
           skip)
        | (refine wpList_load_box _ rfl (by rfl) (b := w_162.heap.size) (off := 0) (n := 22) rfl H_192 Try.underlying46 (by kernel_rfl) (Nat.le_of_ble_eq_true rfl) (drvC { d with p := { d.p with co := (d.p.co % 2 + 2) } } A1) rfl ?_
           skip)
        | (refine wpList_load_box _ rfl (by rfl) (b := w_177.heap.size) (off := 0) (n := 22) rfl H_186 Try.underlying46 (by kernel_rfl) (Nat.le_of_ble_eq_true rfl) (drvC { d with p := { d.p with co := (d.p.co % 2 + 2) } } A2) rfl ?_
           skip))
      refine (sameDriver_eq { d with p := { d.p with co := (d.p.co % 2 + 2) } } A1 A2 w_185 m_194 m_195 hl).mono ?_
      rintro e w_196 ⟨rfl, b_197⟩
      have zw_196 := b_197.size
      have B_198 := B_189.trans (b_197.mono B_189.size)
      have H_199 := (b_197.block _ (box_lt H_190)).trans H_190
      have H_200 := (b_197.block _ (box_lt H_191)).trans H_191
      have H_201 := (b_197.block _ (box_lt H_192)).trans H_192
      have H_202 := (b_197.block _ (box_lt H_186)).trans H_186
      have m_203 := m_193.below b_197
      have m_204 := m_194.below b_197
      have m_205 := m_195.below b_197
      have HI3 := Lib.hid (fun v h => take_at hR3 (implDriverTake_any { d with p := { d.p with co := (d.p.co % 2 + 2) } } A1 32 v h hl N1))
      go_wp2_with (first
        | (refine wpList_load_box _ rfl (by rfl) (b := w_162.heap.size) (off := 0) (n := 22) rfl H_201 Try.underlying46 (by kernel_rfl) (Nat.le_of_ble_eq_true rfl) (drvC { d with p := { d.p with co := (d.p.co % 2 + 2) } } A1) rfl ?_
           skip))
      refine (HI3.out w_196 m_204).mono ?_
      rintro e w_206 ⟨A3, a3, c3, rfl, O3, o3, S3, b_207⟩
      have zw_206 := b_207.size
      have B_208 := B_198.trans (b_207.mono B_198.size)
      have H_209 := (b_207.block _ (box_lt H_199)).trans H_199
      have H_210 := (b_207.block _ (box_lt H_200)).trans H_200
      have H_211 := (b_207.block _ (box_lt H_201)).trans H_201
      have H_212 := (b_207.block _ (box_lt H_202)).trans H_202
      have m_213 := m_203.below b_207
      have m_214 := m_204.below b_207
      have m_215 := m_205.below b_207
      have n3 := O3.m
      have N3 := O3.n
      clear O3 o3 S3
      have HI4 := Lib.hid (fun v h => flow_at hR4 (implFlowDriver_any fh fl d3 A3 v h hl3 N3))
      go_wp2_with (first
        | (refine wpList_store_any _ rfl rfl (by rfl) (b := w_206.heap.size) (off := 0) (n := 22) rfl rfl (vs := drvC d3 A3) rfl (heap_new_at w_206 (.cells (drvC zDrv zDrvA) 46) _ rfl) (by kernel_rfl) rfl rfl (Nat.le_of_ble_eq_true rfl) (drvC d3 A3) rfl ?_
           intro w_216 H_217 g_218
           have b_219 : Below w_206.heap.size w_206 w_216 := below_only ((Below.refl _ _).alloc (Nat.le_refl _) _) g_218 (Nat.le_refl _)
           have zw_216 := b_219.size
           have B_220 := B_208.trans (b_219.mono B_208.size)
           have lH_217 := box_lt H_217
           have H_221 := (b_219.block _ (box_lt H_209)).trans H_209
           have H_222 := (b_219.block _ (box_lt H_210)).trans H_210
           have H_223 := (b_219.block _ (box_lt H_211)).trans H_211
           have H_224 := (b_219.block _ (box_lt H_212)).trans H_212
           have m_225 := m_213.below b_219
           have m_226 := m_214.below b_219
           have m_227 := m_215.below b_219
           have m_228 := n3.below b_219
           skip)
        | (refine wpList_load_box _ rfl (by rfl) (b := w_1.heap.size) (off := 0) (n := 2) rfl H_221 Try.underlying68 (by kernel_rfl) (Nat.le_of_ble_eq_true rfl) (#[.int .i64 fh, .int .i64 fl]) rfl ?_
           skip)
        | (refine wpList_load_box _ rfl (by rfl) (b := w_206.heap.size) (off := 0) (n := 22) rfl H_217 Try.underlying46 (by kernel_rfl) (Nat.le_of_ble_eq_true rfl) (drvC d3 A3) rfl ?_
           skip))
      refine (HI4.out w_216 m_228).mono ?_
      rintro e w_229 ⟨A4, rfl, O4, S4, b_230⟩
      have zw_229 := b_230.size
      have B_231 := B_220.trans (b_230.mono B_220.size)
      have H_232 := (b_230.block _ (box_lt H_221)).trans H_221
      have H_233 := (b_230.block _ (box_lt H_222)).trans H_222
      have H_234 := (b_230.block _ (box_lt H_223)).trans H_223
      have H_235 := (b_230.block _ (box_lt H_224)).trans H_224
      have H_236 := (b_230.block _ (box_lt H_217)).trans H_217
      have m_237 := m_225.below b_230
      have m_238 := m_226.below b_230
      have m_239 := m_227.below b_230
      have m_240 := m_228.below b_230
      clear O4 S4
      have htd : IntKind.i64.wrap (d4.p.co.tdiv 2) = d4.p.co / 2 := by rw [Int.tdiv_eq_ediv_of_nonneg (by omega)]; exact IntWalk.i64_in _ (by omega)
      have htq : d4.p.co / 2 = 1 := by omega
      go_wp2_with (first
        | (refine wpList_store_any _ rfl rfl (by rfl) (b := w_229.heap.size) (off := 0) (n := 22) rfl rfl (vs := drvC d4 A4) rfl (heap_new_at w_229 (.cells (drvC zDrv zDrvA) 46) _ rfl) (by kernel_rfl) rfl rfl (Nat.le_of_ble_eq_true rfl) (drvC d4 A4) rfl ?_
           intro w_241 H_242 g_243
           have b_244 : Below w_229.heap.size w_229 w_241 := below_only ((Below.refl _ _).alloc (Nat.le_refl _) _) g_243 (Nat.le_refl _)
           have zw_241 := b_244.size
           have B_245 := B_231.trans (b_244.mono B_231.size)
           have lH_242 := box_lt H_242
           have H_246 := (b_244.block _ (box_lt H_232)).trans H_232
           have H_247 := (b_244.block _ (box_lt H_233)).trans H_233
           have H_248 := (b_244.block _ (box_lt H_234)).trans H_234
           have H_249 := (b_244.block _ (box_lt H_235)).trans H_235
           have H_250 := (b_244.block _ (box_lt H_236)).trans H_236
           have m_251 := m_237.below b_244
           have m_252 := m_238.below b_244
           have m_253 := m_239.below b_244
           have m_254 := m_240.below b_244
           have c_255 := box_cell H_242 4 (v := .int .i64 d4.p.co) rfl
           have lc_255 := box_lt H_242
           skip))
      go_ret
      exact ⟨rfl, B_245⟩

set_option linter.unusedVariables false in
set_option maxRecDepth 100000 in
theorem FnFlowDriverTake_lifted (os : Os) (started : os.Started) (H : Type) (enc : TypeId × Value → H) :
    ReturnsInHanded {} Try.checked os 10 .any (Rows.fnFlowDriverTakeSpec.pre6 enc Try.prog Try.f10 Rows.fnFlowDriverTakeRow.domain false) (Rows.fnFlowDriverTakeSpec.post enc Try.prog Try.f10 false true false false) := by
  refine returnsInHanded_of_change (C := Try.checked) own_knob started (by kernel_rfl) Try.func10
    (ChangeSpec.witness6 (enc := enc) (C := Try.checked) false ⟨#[], #[.slice none 0 0], []⟩ 8 (by kernel_rfl) (by kernel_rfl) (by kernel_rfl) (by kernel_rfl)) ?_
  intro W base args ds gs before hval0 hW hcnd _
  have hval : ∀ (j : Nat) t v, Try.f10.params[j]? = some t → args[j]? = some v → Value.okWide Try.prog W .any base t v := hval0
  have hW' := hW
  obtain ⟨p, q, hA0, hV, rfl, hfz, hnd⟩ := hW
  have hA : DataW.TrodAll enc Try.prog W 0 (fun _ => true) true Try.f10.params.toList args.toList ds p := hA0
  rw [Try.params10] at hA hval
  obtain ⟨v0, vs0, d0, ds0, p0, q0, hargs, rfl, rfl, h0, r0⟩ := trodAll_cons hA
  obtain ⟨rfl, rfl, rfl⟩ := trodAll_nil r0
  obtain rfl : args = #[v0] := by cases args; simp_all
  obtain ⟨rfl, rfl⟩ := trodVars_none hV
  have k0 := h0
  have lt0 : ∀ x ∈ p0, x.block < W.heap.size := by obtain ⟨m, hm⟩ := k0; exact DataW.trod_lt m _ _ _ hm
  obtain ⟨a0, len0, cap0, rfl⟩ := okWide_slice Try.underlying59 (hval 0 59 v0 rfl rfl)
  obtain ⟨z0, rfl, lc0, lm0, rz0⟩ : ∃ z : List Int, len0 = z.length ∧ z.length ≤ cap0 ∧ cap0 ≤ maxLen ∧ Bytes W a0 z := by
    obtain ⟨fuel, hf⟩ := h0
    obtain ⟨ao, cap, z, e, h1, h2, h3⟩ := rd_bytes hf
    simp [Value.cells] at e
    obtain ⟨rfl, rfl, rfl⟩ := e
    exact ⟨z, rfl, h1, h2, h3⟩
  have lb0 : z0.length ≤ cap0 := lc0
  clear hA0 hval0
  refine (FnFlowDriverTake_walk a0 z0 cap0 W rz0 lc0 lm0).mono fun e W' ⟨he, bel⟩ => ?_
  subst he
  exact ⟨_, rfl, _, _, _, [], _, [], hW', trodAll_mk1 (shut_bool Try.underlying4 _), (trodAll_cons_mk (Below.trod laid_out (by kernel_rfl) (of_decide_eq_true (by kernel_rfl)) k0 bel lt0) trodAll_mk0), rfl, bel.frame _, fun h => by cases h⟩

theorem FnFlowDriverTake_holds : Rows.FnFlowDriverTakeSaid :=
  OpenClaim.holds_of_wide 10 Try.f10 rfl rfl rfl rfl rfl rfl rfl ⟨rfl, rfl, rfl, rfl, rfl⟩ rfl rfl rfl rfl rfl (by kernel_rfl) Try.func10 (by kernel_rfl)
    (of_decide_eq_true (by kernel_rfl)) (by unfold Func.isWrapper; first | (rw [if_pos (by decide +kernel)]; kernel_rfl) | (rw [if_neg (by decide +kernel)]; exact ⟨rfl, rfl⟩))
    (fun os started H enc _ => FnFlowDriverTake_lifted os started H enc)
end Go.Proofs.Ytkmampichfbppaa
