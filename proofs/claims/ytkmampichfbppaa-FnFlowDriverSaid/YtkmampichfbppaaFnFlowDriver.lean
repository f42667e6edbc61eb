/- FnFlowDriver: A driver tells whether it can receive. No conditions beyond the statement's own. -/
import Derived.Test.YtkmampichfbppaaDrvLaw5
import Derived.Test.YtkmampichfbppaaDrvDraw7
namespace Go.Proofs.Ytkmampichfbppaa
open Go.ChangeShapes Go.WideShapes Go.ChangeAt Go.RowKit

set_option maxHeartbeats 4000000 in
set_option maxRecDepth 100000 in
theorem FnFlowDriver_walk (a0 : Option Addr) (z0 : List Int) (cap0 : Nat) (w : World) (rz0 : Bytes w a0 z0) (lc0 : z0.length ≤ cap0) (_lm0 : cap0 ≤ maxLen) :
    Calls Try.prog 9 #[.slice a0 z0.length cap0] w fun e w' => e = .returned (.bool true) ∧ Below w.heap.size w w' := by
  unfold maxLen at _lm0
  by_cases hn0 : (z0.length : Int) ≤ 1048576
  case neg =>
    have hn0' : (1048576 : Int) < (z0.length : Int) := by omega
    go_enter Try.func9, Try.ntmps9
    go_wp2
    go_ret
    exact ⟨rfl, Below.refl _ _⟩
  go_enter Try.func9, Try.ntmps9
  have B0 : Below w.heap.size w w := Below.refl _ _
  go_wp2_with fail
  refine (drawFlowDriver_any a0 z0 cap0 w rz0 lc0 (by omega)).mono ?_
  rintro e w_1 ⟨fh, fl, d, A, rfl, lg, ly, li, lo, DO, b_2⟩
  have zw_1 := b_2.size
  have B_3 := B0.trans (b_2.mono B0.size)
  have hm := DO.m
  have hN := DO.n
  have hl : DrvL d := ⟨by omega, by omega, by omega, by omega⟩
  clear DO
  cases hB : (flowVB fh fl && drvB d)
  · have hR := flowR_no hB
    have HI := Lib.hid (fun v h => flow_at hR (implFlowDriver_any fh fl d A v h hl hN))
    have HJ := Lib.hid (fun v h => flow_at hR (specFlowDriver_any fh fl d A v h hl hN))
    go_wp2_with (first
      | (refine wpList_store_any _ rfl rfl (by rfl) (b := w_1.heap.size) (off := 0) (n := 2) rfl rfl (vs := #[.int .i64 fh, .int .i64 fl]) rfl (box_alloc (heap_new_at w_1 (.cells #[.int .i64 0, .int .i64 0] 68) _ rfl) (.cells (drvC zDrv zDrvA) 46)) (by kernel_rfl) rfl rfl (Nat.le_of_ble_eq_true rfl) (#[.int .i64 fh, .int .i64 fl]) rfl ?_
         intro w_4 H_6 g_8
         have b_10 : Below w_1.heap.size w_1 w_4 := below_only (((Below.refl _ _).alloc (Nat.le_refl _) _).alloc (by simp) _) g_8 (Nat.le_refl _)
         have zw_4 : w_1.heap.size + 2 ≤ w_4.heap.size := by have := g_8.size; simp at this; omega
         have H_70 := box_only' (heap_new_at (w_1.alloc (.cells #[.int .i64 0, .int .i64 0] 68)) (.cells (drvC zDrv zDrvA) 46) (w_1.heap.size + 1) (by simp)) g_8 (by omega)
         skip)
      | (refine wpList_store_any _ rfl rfl (by rfl) (b := w_1.heap.size + 1) (off := 0) (n := 22) rfl rfl (vs := drvC d A) rfl H_70 (by kernel_rfl) rfl rfl (Nat.le_of_ble_eq_true rfl) (drvC d A) rfl ?_
         intro w_5 H_7 g_9
         have b_11 : Below w_1.heap.size w_1 w_5 := below_only b_10 g_9 (by omega)
         have zw_5 := g_9.size
         have B_12 := B_3.trans (b_11.mono B_3.size)
         have m_13 := hm.below b_11
         have H_6f := box_only' H_6 g_9 (by omega)
         have lH_6 := box_lt H_6f
         have lH_7 := box_lt H_7
         skip)
      | (refine wpList_load_box _ rfl (by rfl) (b := w_1.heap.size) (off := 0) (n := 2) rfl H_6f Try.underlying68 (by kernel_rfl) (Nat.le_of_ble_eq_true rfl) (#[.int .i64 fh, .int .i64 fl]) rfl ?_
         skip)
      | (refine wpList_load_box _ rfl (by rfl) (b := w_1.heap.size + 1) (off := 0) (n := 22) rfl H_7 Try.underlying46 (by kernel_rfl) (Nat.le_of_ble_eq_true rfl) (drvC d A) rfl ?_
         skip))
    refine (HI.out w_5 m_13).mono ?_
    rintro e w_14 ⟨A1, rfl, O1, S1, b_15⟩
    have zw_14 := b_15.size
    have B_16 := B_12.trans (b_15.mono B_12.size)
    have H_17 := (b_15.block _ (box_lt H_6f)).trans H_6f
    have H_18 := (b_15.block _ (box_lt H_7)).trans H_7
    have m_19 := m_13.below b_15
    have n1 := O1.m
    have N1 := O1.n
    clear O1 S1
    go_wp2_with (first
      | (refine wpList_store_any _ rfl rfl (by rfl) (b := w_14.heap.size) (off := 0) (n := 22) rfl rfl (vs := drvC zDrv A1) rfl (heap_new_at w_14 (.cells (drvC zDrv zDrvA) 46) _ rfl) (by kernel_rfl) rfl rfl (Nat.le_of_ble_eq_true rfl) (drvC zDrv A1) rfl ?_
         intro w_20 H_21 g_22
         have b_23 : Below w_14.heap.size w_14 w_20 := below_only ((Below.refl _ _).alloc (Nat.le_refl _) _) g_22 (Nat.le_refl _)
         have zw_20 := b_23.size
         have B_24 := B_16.trans (b_23.mono B_16.size)
         have lH_21 := box_lt H_21
         have H_25 := (b_23.block _ (box_lt H_17)).trans H_17
         have H_26 := (b_23.block _ (box_lt H_18)).trans H_18
         have m_27 := m_19.below b_23
         have m_28 := n1.below b_23
         skip)
      | (refine wpList_load_box _ rfl (by rfl) (b := w_1.heap.size) (off := 0) (n := 2) rfl H_25 Try.underlying68 (by kernel_rfl) (Nat.le_of_ble_eq_true rfl) (#[.int .i64 fh, .int .i64 fl]) rfl ?_
         skip)
      | (refine wpList_load_box _ rfl (by rfl) (b := w_1.heap.size + 1) (off := 0) (n := 22) rfl H_26 Try.underlying46 (by kernel_rfl) (Nat.le_of_ble_eq_true rfl) (drvC d A) rfl ?_
         skip))
    refine (HJ.out w_20 m_27).mono ?_
    rintro e w_29 ⟨A2, rfl, O2, S2, b_30⟩
    have zw_29 := b_30.size
    have B_31 := B_24.trans (b_30.mono B_24.size)
    have H_32 := (b_30.block _ (box_lt H_25)).trans H_25
    have H_33 := (b_30.block _ (box_lt H_26)).trans H_26
    have H_34 := (b_30.block _ (box_lt H_21)).trans H_21
    have m_35 := m_27.below b_30
    have m_36 := m_28.below b_30
    have n2 := O2.m
    clear O2 S2
    go_wp2_with (first
      | (refine wpList_store_any _ rfl rfl (by rfl) (b := w_29.heap.size) (off := 0) (n := 22) rfl rfl (vs := drvC zDrv A2) rfl (heap_new_at w_29 (.cells (drvC zDrv zDrvA) 46) _ rfl) (by kernel_rfl) rfl rfl (Nat.le_of_ble_eq_true rfl) (drvC zDrv A2) rfl ?_
         intro w_37 H_38 g_39
         have b_40 : Below w_29.heap.size w_29 w_37 := below_only ((Below.refl _ _).alloc (Nat.le_refl _) _) g_39 (Nat.le_refl _)
         have zw_37 := b_40.size
         have B_41 := B_31.trans (b_40.mono B_31.size)
         have lH_38 := box_lt H_38
         have H_42 := (b_40.block _ (box_lt H_32)).trans H_32
         have H_43 := (b_40.block _ (box_lt H_33)).trans H_33
         have H_44 := (b_40.block _ (box_lt H_34)).trans H_34
         have m_45 := m_35.below b_40
         have m_46 := m_36.below b_40
         have m_47 := n2.below b_40
         skip)
      | (refine wpList_load_box _ rfl (by rfl) (b := w_14.heap.size) (off := 0) (n := 22) rfl H_44 Try.underlying46 (by kernel_rfl) (Nat.le_of_ble_eq_true rfl) (drvC zDrv A1) rfl ?_
         skip)
      | (refine wpList_load_box _ rfl (by rfl) (b := w_29.heap.size) (off := 0) (n := 22) rfl H_38 Try.underlying46 (by kernel_rfl) (Nat.le_of_ble_eq_true rfl) (drvC zDrv A2) rfl ?_
         skip))
    refine (sameDriver_eq zDrv A1 A2 w_37 m_46 m_47 zDrvL).mono ?_
    rintro e w_48 ⟨rfl, b_49⟩
    have zw_48 := b_49.size
    have B_50 := B_41.trans (b_49.mono B_41.size)
    have H_51 := (b_49.block _ (box_lt H_42)).trans H_42
    have H_52 := (b_49.block _ (box_lt H_43)).trans H_43
    have H_53 := (b_49.block _ (box_lt H_44)).trans H_44
    have H_54 := (b_49.block _ (box_lt H_38)).trans H_38
    have m_55 := m_45.below b_49
    have m_56 := m_46.below b_49
    have m_57 := m_47.below b_49
    go_wp2_with (first
      | (refine wpList_load_box _ rfl (by rfl) (b := w_14.heap.size) (off := 0) (n := 22) rfl H_53 Try.underlying46 (by kernel_rfl) (Nat.le_of_ble_eq_true rfl) (drvC zDrv A1) rfl ?_
         skip)
      | (refine wpList_load_box _ rfl (by rfl) (b := w_29.heap.size) (off := 0) (n := 22) rfl H_54 Try.underlying46 (by kernel_rfl) (Nat.le_of_ble_eq_true rfl) (drvC zDrv A2) rfl ?_
         skip))
    refine (sameDriver_eq zDrv A1 A2 w_48 m_56 m_57 zDrvL).mono ?_
    rintro e w_58 ⟨rfl, b_59⟩
    have zw_58 := b_59.size
    have B_60 := B_50.trans (b_59.mono B_50.size)
    have H_61 := (b_59.block _ (box_lt H_51)).trans H_51
    have H_62 := (b_59.block _ (box_lt H_52)).trans H_52
    have H_63 := (b_59.block _ (box_lt H_53)).trans H_53
    have H_64 := (b_59.block _ (box_lt H_54)).trans H_54
    have m_65 := m_55.below b_59
    have m_66 := m_56.below b_59
    have m_67 := m_57.below b_59
    go_wp2
    go_ret
    exact ⟨rfl, B_60⟩
  · have hBB := hB
    rw [Bool.and_eq_true] at hBB
    have hf := hBB.1
    have hv := hBB.2
    have hen := drvB_en hv
    have hc0 := hen.2.2.1
    have hc1 := hen.2.2.2
    clear hen hBB
    have hlen := (drvB_len hv).2.2.1
    cases hw : flowW fh fl (d.i.length : Int) (decide (d.p.co / 2 = 1))
    · have hR := flowR_yes (co := d.p.co % 2) hB (by simp only [flowC, co_bits hc0 hc1, hw]; simp)
      have HI := Lib.hid (fun v h => flow_at hR (implFlowDriver_any fh fl d A v h hl hN))
      have HJ := Lib.hid (fun v h => flow_at hR (specFlowDriver_any fh fl d A v h hl hN))
      go_wp2_with (first
        | (refine wpList_store_any _ rfl rfl (by rfl) (b := w_1.heap.size) (off := 0) (n := 2) rfl rfl (vs := #[.int .i64 fh, .int .i64 fl]) rfl (box_alloc (heap_new_at w_1 (.cells #[.int .i64 0, .int .i64 0] 68) _ rfl) (.cells (drvC zDrv zDrvA) 46)) (by kernel_rfl) rfl rfl (Nat.le_of_ble_eq_true rfl) (#[.int .i64 fh, .int .i64 fl]) rfl ?_
           intro w_4 H_6 g_8
           have b_10 : Below w_1.heap.size w_1 w_4 := below_only (((Below.refl _ _).alloc (Nat.le_refl _) _).alloc (by simp) _) g_8 (Nat.le_refl _)
           have zw_4 : w_1.heap.size + 2 ≤ w_4.heap.size := by have := g_8.size; simp at this; omega
           have H_70 := box_only' (heap_new_at (w_1.alloc (.cells #[.int .i64 0, .int .i64 0] 68)) (.cells (drvC zDrv zDrvA) 46) (w_1.heap.size + 1) (by simp)) g_8 (by omega)
           skip)
        | (refine wpList_store_any _ rfl rfl (by rfl) (b := w_1.heap.size + 1) (off := 0) (n := 22) rfl rfl (vs := drvC d A) rfl H_70 (by kernel_rfl) rfl rfl (Nat.le_of_ble_eq_true rfl) (drvC d A) rfl ?_
           intro w_5 H_7 g_9
           have b_11 : Below w_1.heap.size w_1 w_5 := below_only b_10 g_9 (by omega)
           have zw_5 := g_9.size
           have B_12 := B_3.trans (b_11.mono B_3.size)
           have m_13 := hm.below b_11
           have H_6f := box_only' H_6 g_9 (by omega)
           have lH_6 := box_lt H_6f
           have lH_7 := box_lt H_7
           skip)
        | (refine wpList_load_box _ rfl (by rfl) (b := w_1.heap.size) (off := 0) (n := 2) rfl H_6f Try.underlying68 (by kernel_rfl) (Nat.le_of_ble_eq_true rfl) (#[.int .i64 fh, .int .i64 fl]) rfl ?_
           skip)
        | (refine wpList_load_box _ rfl (by rfl) (b := w_1.heap.size + 1) (off := 0) (n := 22) rfl H_7 Try.underlying46 (by kernel_rfl) (Nat.le_of_ble_eq_true rfl) (drvC d A) rfl ?_
           skip))
      refine (HI.out w_5 m_13).mono ?_
      rintro e w_68 ⟨A1, rfl, O1, S1, b_69⟩
      have zw_68 := b_69.size
      have B_70 := B_12.trans (b_69.mono B_12.size)
      have H_71 := (b_69.block _ (box_lt H_6f)).trans H_6f
      have H_72 := (b_69.block _ (box_lt H_7)).trans H_7
      have m_73 := m_13.below b_69
      have n1 := O1.m
      have N1 := O1.n
      clear O1 S1
      go_wp2_with (first
        | (refine wpList_store_any _ rfl rfl (by rfl) (b := w_68.heap.size) (off := 0) (n := 22) rfl rfl (vs := drvC { d with p := { d.p with co := (d.p.co % 2) } } A1) rfl (heap_new_at w_68 (.cells (drvC zDrv zDrvA) 46) _ rfl) (by kernel_rfl) rfl rfl (Nat.le_of_ble_eq_true rfl) (drvC { d with p := { d.p with co := (d.p.co % 2) } } A1) rfl ?_
           intro w_74 H_75 g_76
           have b_77 : Below w_68.heap.size w_68 w_74 := below_only ((Below.refl _ _).alloc (Nat.le_refl _) _) g_76 (Nat.le_refl _)
           have zw_74 := b_77.size
           have B_78 := B_70.trans (b_77.mono B_70.size)
           have lH_75 := box_lt H_75
           have H_79 := (b_77.block _ (box_lt H_71)).trans H_71
           have H_80 := (b_77.block _ (box_lt H_72)).trans H_72
           have m_81 := m_73.below b_77
           have m_82 := n1.below b_77
           skip)
        | (refine wpList_load_box _ rfl (by rfl) (b := w_1.heap.size) (off := 0) (n := 2) rfl H_79 Try.underlying68 (by kernel_rfl) (Nat.le_of_ble_eq_true rfl) (#[.int .i64 fh, .int .i64 fl]) rfl ?_
           skip)
        | (refine wpList_load_box _ rfl (by rfl) (b := w_1.heap.size + 1) (off := 0) (n := 22) rfl H_80 Try.underlying46 (by kernel_rfl) (Nat.le_of_ble_eq_true rfl) (drvC d A) rfl ?_
           skip))
      refine (HJ.out w_74 m_81).mono ?_
      rintro e w_83 ⟨A2, rfl, O2, S2, b_84⟩
      have zw_83 := b_84.size
      have B_85 := B_78.trans (b_84.mono B_78.size)
      have H_86 := (b_84.block _ (box_lt H_79)).trans H_79
      have H_87 := (b_84.block _ (box_lt H_80)).trans H_80
      have H_88 := (b_84.block _ (box_lt H_75)).trans H_75
      have m_89 := m_81.below b_84
      have m_90 := m_82.below b_84
      have n2 := O2.m
      clear O2 S2
      go_wp2_with (first
        | (refine wpList_store_any _ rfl rfl (by rfl) (b := w_83.heap.size) (off := 0) (n := 22) rfl rfl (vs := drvC { d with p := { d.p with co := (d.p.co % 2) } } A2) rfl (heap_new_at w_83 (.cells (drvC zDrv zDrvA) 46) _ rfl) (by kernel_rfl) rfl rfl (Nat.le_of_ble_eq_true rfl) (drvC { d with p := { d.p with co := (d.p.co % 2) } } A2) rfl ?_
           intro w_91 H_92 g_93
           have b_94 : Below w_83.heap.size w_83 w_91 := below_only ((Below.refl _ _).alloc (Nat.le_refl _) _) g_93 (Nat.le_refl _)
           have zw_91 := b_94.size
           have B_95 := B_85.trans (b_94.mono B_85.size)
           have lH_92 := box_lt H_92
           have H_96 := (b_94.block _ (box_lt H_86)).trans H_86
           have H_97 := (b_94.block _ (box_lt H_87)).trans H_87
           have H_98 := (b_94.block _ (box_lt H_88)).trans H_88
           have m_99 := m_89.below b_94
           have m_100 := m_90.below b_94
           have m_101 := n2.below b_94
           skip)
        | (refine wpList_load_box _ rfl (by rfl) (b := w_68.heap.size) (off := 0) (n := 22) rfl H_98 Try.underlying46 (by kernel_rfl) (Nat.le_of_ble_eq_true rfl) (drvC { d with p := { d.p with co := (d.p.co % 2) } } A1) rfl ?_
           skip)
        | (refine wpList_load_box _ rfl (by rfl) (b := w_83.heap.size) (off := 0) (n := 22) rfl H_92 Try.underlying46 (by kernel_rfl) (Nat.le_of_ble_eq_true rfl) (drvC { d with p := { d.p with co := (d.p.co % 2) } } A2) rfl ?_
           skip))
      refine (sameDriver_eq { d with p := { d.p with co := (d.p.co % 2) } } A1 A2 w_91 m_100 m_101 hl).mono ?_
      rintro e w_102 ⟨rfl, b_103⟩
      have zw_102 := b_103.size
      have B_104 := B_95.trans (b_103.mono B_95.size)
      have H_105 := (b_103.block _ (box_lt H_96)).trans H_96
      have H_106 := (b_103.block _ (box_lt H_97)).trans H_97
      have H_107 := (b_103.block _ (box_lt H_98)).trans H_98
      have H_108 := (b_103.block _ (box_lt H_92)).trans H_92
      have m_109 := m_99.below b_103
      have m_110 := m_100.below b_103
      have m_111 := m_101.below b_103
      have c_112 := box_cell H_106 4 (v := .int .i64 d.p.co) rfl
      have lc_112 := box_lt H_106
      have c_113 := box_cell H_106 18 (v := .slice A.ai d.i.length A.ci) rfl
      have lc_113 := box_lt H_106
      have htm : d.p.co.tmod 2 = d.p.co % 2 := Int.tmod_eq_emod_of_nonneg hc0
      have htd : IntKind.i64.wrap (d.p.co.tdiv 2) = d.p.co / 2 := by rw [Int.tdiv_eq_ediv_of_nonneg hc0]; exact IntWalk.i64_in _ (by omega)
      have hwr : IntKind.i64.wrap (d.p.co % 2 + 2) = d.p.co % 2 + 2 := IntWalk.i64_in _ (by omega)
      have HFN := Lib.hid (fun v => implFlowNext_any fh fl (d.i.length : Int) (decide (d.p.co / 2 = 1)) v hf)
      rw [hw] at HFN
      go_wp2_with (first
        | (refine wpList_load_box _ rfl (by rfl) (b := w_1.heap.size) (off := 0) (n := 2) rfl H_105 Try.underlying68 (by kernel_rfl) (Nat.le_of_ble_eq_true rfl) (#[.int .i64 fh, .int .i64 fl]) rfl ?_
           skip))
      refine (HFN.out w_102).mono ?_
      rintro e w_114 ⟨rfl, b_115⟩
      have zw_114 := b_115.size
      have B_116 := B_104.trans (b_115.mono B_104.size)
      have H_117 := (b_115.block _ (box_lt H_105)).trans H_105
      have H_118 := (b_115.block _ (box_lt H_106)).trans H_106
      have H_119 := (b_115.block _ (box_lt H_107)).trans H_107
      have H_120 := (b_115.block _ (box_lt H_108)).trans H_108
      have m_121 := m_109.below b_115
      have m_122 := m_110.below b_115
      have m_123 := m_111.below b_115
      go_wp2_with (first
        | (refine wpList_load_box _ rfl (by rfl) (b := w_1.heap.size + 1) (off := 0) (n := 22) rfl H_118 Try.underlying46 (by kernel_rfl) (Nat.le_of_ble_eq_true rfl) (drvC d A) rfl ?_
           skip)
        | (refine wpList_store_any _ rfl rfl (by rfl) (b := w_114.heap.size) (off := 0) (n := 22) rfl rfl (vs := drvC d A) rfl (heap_new_at w_114 (.cells (drvC zDrv zDrvA) 46) _ rfl) (by kernel_rfl) rfl rfl (Nat.le_of_ble_eq_true rfl) (drvC d A) rfl ?_
           intro w_124 H_125 g_126
           have b_127 : Below w_114.heap.size w_114 w_124 := below_only ((Below.refl _ _).alloc (Nat.le_refl _) _) g_126 (Nat.le_refl _)
           have zw_124 := b_127.size
           have B_128 := B_116.trans (b_127.mono B_116.size)
           have lH_125 := box_lt H_125
           have H_129 := (b_127.block _ (box_lt H_117)).trans H_117
           have H_130 := (b_127.block _ (box_lt H_118)).trans H_118
           have H_131 := (b_127.block _ (box_lt H_119)).trans H_119
           have H_132 := (b_127.block _ (box_lt H_120)).trans H_120
           have m_133 := m_121.below b_127
           have m_134 := m_122.below b_127
           have m_135 := m_123.below b_127
           skip)
        | (refine wpList_store_any _ rfl rfl (by rfl) (b := w_114.heap.size) (off := 4) (n := 1) rfl rfl (vs := #[.int .i64 (d.p.co % 2)]) rfl H_125 (by kernel_rfl) rfl rfl (Nat.le_of_ble_eq_true rfl) (drvC { d with p := { d.p with co := (d.p.co % 2) } } A) rfl ?_
           intro w_136 H_137 g_138
           have zw_136 := g_138.size
           have B_139 := below_only B_128 g_138 (by omega)
           have H_140 := box_only' H_129 g_138 (by omega)
           have H_141 := box_only' H_130 g_138 (by omega)
           have H_142 := box_only' H_131 g_138 (by omega)
           have H_143 := box_only' H_132 g_138 (by omega)
           have b_144 : Below w_114.heap.size w_114 w_136 := below_only b_127 g_138 (Nat.le_refl _)
           have m_145 := m_121.below b_144
           have m_146 := m_122.below b_144
           have m_147 := m_123.below b_144
           skip)
        | (refine wpList_load_box _ rfl (by rfl) (b := w_68.heap.size) (off := 0) (n := 22) rfl H_142 Try.underlying46 (by kernel_rfl) (Nat.le_of_ble_eq_true rfl) (drvC { d with p := { d.p with co := (d.p.co % 2) } } A1) rfl ?_
           skip)
        | (refine wpList_load_box _ rfl (by rfl) (b := w_114.heap.size) (off := 0) (n := 22) rfl H_137 Try.underlying46 (by kernel_rfl) (Nat.le_of_ble_eq_true rfl) (drvC { d with p := { d.p with co := (d.p.co % 2) } } A) rfl ?_
           skip))
      refine (sameDriver_eq { d with p := { d.p with co := (d.p.co % 2) } } A1 A w_136 m_146 m_145 hl).mono ?_
      rintro e w_148 ⟨rfl, b_149⟩
      have zw_148 := b_149.size
      have B_150 := B_139.trans (b_149.mono B_139.size)
      have H_151 := (b_149.block _ (box_lt H_140)).trans H_140
      have H_152 := (b_149.block _ (box_lt H_141)).trans H_141
      have H_153 := (b_149.block _ (box_lt H_142)).trans H_142
      have H_154 := (b_149.block _ (box_lt H_143)).trans H_143
      have H_155 := (b_149.block _ (box_lt H_137)).trans H_137
      have m_156 := m_145.below b_149
      have m_157 := m_146.below b_149
      have m_158 := m_147.below b_149
      go_wp2
      go_ret
      exact ⟨rfl, B_150⟩
    · have hR := flowR_yes (co := d.p.co % 2 + 2) hB (by simp only [flowC, co_bits hc0 hc1, hw]; simp)
      have HI := Lib.hid (fun v h => flow_at hR (implFlowDriver_any fh fl d A v h hl hN))
      have HJ := Lib.hid (fun v h => flow_at hR (specFlowDriver_any fh fl d A v h hl hN))
      go_wp2_with (first
        | (refine wpList_store_any _ rfl rfl (by rfl) (b := w_1.heap.size) (off := 0) (n := 2) rfl rfl (vs := #[.int .i64 fh, .int .i64 fl]) rfl (box_alloc (heap_new_at w_1 (.cells #[.int .i64 0, .int .i64 0] 68) _ rfl) (.cells (drvC zDrv zDrvA) 46)) (by kernel_rfl) rfl rfl (Nat.le_of_ble_eq_true rfl) (#[.int .i64 fh, .int .i64 fl]) rfl ?_
           intro w_4 H_6 g_8
           have b_10 : Below w_1.heap.size w_1 w_4 := below_only (((Below.refl _ _).alloc (Nat.le_refl _) _).alloc (by simp) _) g_8 (Nat.le_refl _)
           have zw_4 : w_1.heap.size + 2 ≤ w_4.heap.size := by have := g_8.size; simp at this; omega
           have H_70 := box_only' (heap_new_at (w_1.alloc (.cells #[.int .i64 0, .int .i64 0] 68)) (.cells (drvC zDrv zDrvA) 46) (w_1.heap.size + 1) (by simp)) g_8 (by omega)
           skip)
        | (refine wpList_store_any _ rfl rfl (by rfl) (b := w_1.heap.size + 1) (off := 0) (n := 22) rfl rfl (vs := drvC d A) rfl H_70 (by kernel_rfl) rfl rfl (Nat.le_of_ble_eq_true rfl) (drvC d A) rfl ?_
           intro w_5 H_7 g_9
           have b_11 : Below w_1.heap.size w_1 w_5 := below_only b_10 g_9 (by omega)
           have zw_5 := g_9.size
           have B_12 := B_3.trans (b_11.mono B_3.size)
           have m_13 := hm.below b_11
           have H_6f := box_only' H_6 g_9 (by omega)
           have lH_6 := box_lt H_6f
           have lH_7 := box_lt H_7
           skip)
        | (refine wpList_load_box _ rfl (by rfl) (b := w_1.heap.size) (off := 0) (n := 2) rfl H_6f Try.underlying68 (by kernel_rfl) (Nat.le_of_ble_eq_true rfl) (#[.int .i64 fh, .int .i64 fl]) rfl ?_
           skip)
        | (refine wpList_load_box _ rfl (by rfl) (b := w_1.heap.size + 1) (off := 0) (n := 22) rfl H_7 Try.underlying46 (by kernel_rfl) (Nat.le_of_ble_eq_true rfl) (drvC d A) rfl ?_
           skip))
      refine (HI.out w_5 m_13).mono ?_
      rintro e w_159 ⟨A1, rfl, O1, S1, b_160⟩
      have zw_159 := b_160.size
      have B_161 := B_12.trans (b_160.mono B_12.size)
      have H_162 := (b_160.block _ (box_lt H_6f)).trans H_6f
      have H_163 := (b_160.block _ (box_lt H_7)).trans H_7
      have m_164 := m_13.below b_160
      have n1 := O1.m
      have N1 := O1.n
      clear O1 S1
      go_wp2_with (first
        | (refine wpList_store_any _ rfl rfl (by rfl) (b := w_159.heap.size) (off := 0) (n := 22) rfl rfl (vs := drvC { d with p := { d.p with co := (d.p.co % 2 + 2) } } A1) rfl (heap_new_at w_159 (.cells (drvC zDrv zDrvA) 46) _ rfl) (by kernel_rfl) rfl rfl (Nat.le_of_ble_eq_true rfl) (drvC { d with p := { d.p with co := (d.p.co % 2 + 2) } } A1) rfl ?_
           intro w_165 H_166 g_167
           have b_168 : Below w_159.heap.size w_159 w_165 := below_only ((Below.refl _ _).alloc (Nat.le_refl _) _) g_167 (Nat.le_refl _)
           have zw_165 := b_168.size
           have B_169 := B_161.trans (b_168.mono B_161.size)
           have lH_166 := box_lt H_166
           have H_170 := (b_168.block _ (box_lt H_162)).trans H_162
           have H_171 := (b_168.block _ (box_lt H_163)).trans H_163
           have m_172 := m_164.below b_168
           have m_173 := n1.below b_168
           skip)
        | (refine wpList_load_box _ rfl (by rfl) (b := w_1.heap.size) (off := 0) (n := 2) rfl H_170 Try.underlying68 (by kernel_rfl) (Nat.le_of_ble_eq_true rfl) (#[.int .i64 fh, .int .i64 fl]) rfl ?_
           skip)
        | (refine wpList_load_box _ rfl (by rfl) (b := w_1.heap.size + 1) (off := 0) (n := 22) rfl H_171 Try.underlying46 (by kernel_rfl) (Nat.le_of_ble_eq_true rfl) (drvC d A) rfl ?_
           skip))
      refine (HJ.out w_165 m_172).mono ?_
      rintro e w_174 ⟨A2, rfl, O2, S2, b_175⟩
      have zw_174 := b_175.size
      have B_176 := B_169.trans (b_175.mono B_169.size)
      have H_177 := (b_175.block _ (box_lt H_170)).trans H_170
      have H_178 := (b_175.block _ (box_lt H_171)).trans H_171
      have H_179 := (b_175.block _ (box_lt H_166)).trans H_166
      have m_180 := m_172.below b_175
      have m_181 := m_173.below b_175
      have n2 := O2.m
      clear O2 S2
      go_wp2_with (first
        | (refine wpList_store_any _ rfl rfl (by rfl) (b := w_174.heap.size) (off := 0) (n := 22) rfl rfl (vs := drvC { d with p := { d.p with co := (d.p.co % 2 + 2) } } A2) rfl (heap_new_at w_174 (.cells (drvC zDrv zDrvA) 46) _ rfl) (by kernel_rfl) rfl rfl (Nat.le_of_ble_eq_true rfl) (drvC { d with p := { d.p with co := (d.p.co % 2 + 2) } } A2) rfl ?_
           intro w_182 H_183 g_184
           have b_185 : Below w_174.heap.size w_174 w_182 := below_only ((Below.refl _ _).alloc (Nat.le_refl _) _) g_184 (Nat.le_refl _)
           have zw_182 := b_185.size
           have B_186 := B_176.trans (b_185.mono B_176.size)
           have lH_183 := box_lt H_183
           have H_187 := (b_185.block _ (box_lt H_177)).trans H_177
           have H_188 := (b_185.block _ (box_lt H_178)).trans H_178
           have H_189 := (b_185.block _ (box_lt H_179)).trans H_179
           have m_190 := m_180.below b_185
           have m_191 := m_181.below b_185
           have m_192 := n2.below b_185
           skip)
        | (refine wpList_load_box _ rfl (by rfl) (b := w_159.heap.size) (off := 0) (n := 22) rfl H_189 Try.underlying46 (by kernel_rfl) (Nat.le_of_ble_eq_true rfl) (drvC { d with p := { d.p with co := (d.p.co % 2 + 2) } } A1) rfl ?_
           skip)
        | (refine wpList_load_box _ rfl (by rfl) (b := w_174.heap.size) (off := 0) (n := 22) rfl H_183 Try.underlying46 (by kernel_rfl) (Nat.le_of_ble_eq_true rfl) (drvC { d with p := { d.p with co := (d.p.co % 2 + 2) } } A2) rfl ?_
           skip))
      refine (sameDriver_eq { d with p := { d.p with co := (d.p.co % 2 + 2) } } A1 A2 w_182 m_191 m_192 hl).mono ?_
      rintro e w_193 ⟨rfl, b_194⟩
      have zw_193 := b_194.size
      have B_195 := B_186.trans (b_194.mono B_186.size)
      have H_196 := (b_194.block _ (box_lt H_187)).trans H_187
      have H_197 := (b_194.block _ (box_lt H_188)).trans H_188
      have H_198 := (b_194.block _ (box_lt H_189)).trans H_189
      have H_199 := (b_194.block _ (box_lt H_183)).trans H_183
      have m_200 := m_190.below b_194
      have m_201 := m_191.below b_194
      have m_202 := m_192.below b_194
      have c_203 := box_cell H_197 4 (v := .int .i64 d.p.co) rfl
      have lc_203 := box_lt H_197
      have c_204 := box_cell H_197 18 (v := .slice A.ai d.i.length A.ci) rfl
      have lc_204 := box_lt H_197
      have htm : d.p.co.tmod 2 = d.p.co % 2 := Int.tmod_eq_emod_of_nonneg hc0
      have htd : IntKind.i64.wrap (d.p.co.tdiv 2) = d.p.co / 2 := by rw [Int.tdiv_eq_ediv_of_nonneg hc0]; exact IntWalk.i64_in _ (by omega)
      have hwr : IntKind.i64.wrap (d.p.co % 2 + 2) = d.p.co % 2 + 2 := IntWalk.i64_in _ (by omega)
      have HFN := Lib.hid (fun v => implFlowNext_any fh fl (d.i.length : Int) (decide (d.p.co / 2 = 1)) v hf)
      rw [hw] at HFN
      go_wp2_with (first
        | (refine wpList_load_box _ rfl (by rfl) (b := w_1.heap.size) (off := 0) (n := 2) rfl H_196 Try.underlying68 (by kernel_rfl) (Nat.le_of_ble_eq_true rfl) (#[.int .i64 fh, .int .i64 fl]) rfl ?_
           skip))
      refine (HFN.out w_193).mono ?_
      rintro e w_205 ⟨rfl, b_206⟩
      have zw_205 := b_206.size
      have B_207 := B_195.trans (b_206.mono B_195.size)
      have H_208 := (b_206.block _ (box_lt H_196)).trans H_196
      have H_209 := (b_206.block _ (box_lt H_197)).trans H_197
      have H_210 := (b_206.block _ (box_lt H_198)).trans H_198
      have H_211 := (b_206.block _ (box_lt H_199)).trans H_199
      have m_212 := m_200.below b_206
      have m_213 := m_201.below b_206
      have m_214 := m_202.below b_206
      go_wp2_with (first
        | (refine wpList_load_box _ rfl (by rfl) (b := w_1.heap.size + 1) (off := 0) (n := 22) rfl H_209 Try.underlying46 (by kernel_rfl) (Nat.le_of_ble_eq_true rfl) (drvC d A) rfl ?_
           skip)
        | (refine wpList_store_any _ rfl rfl (by rfl) (b := w_205.heap.size) (off := 0) (n := 22) rfl rfl (vs := drvC d A) rfl (heap_new_at w_205 (.cells (drvC zDrv zDrvA) 46) _ rfl) (by kernel_rfl) rfl rfl (Nat.le_of_ble_eq_true rfl) (drvC d A) rfl ?_
           intro w_215 H_216 g_217
           have b_218 : Below w_205.heap.size w_205 w_215 := below_only ((Below.refl _ _).alloc (Nat.le_refl _) _) g_217 (Nat.le_refl _)
           have zw_215 := b_218.size
           have B_219 := B_207.trans (b_218.mono B_207.size)
           have lH_216 := box_lt H_216
           have H_220 := (b_218.block _ (box_lt H_208)).trans H_208
           have H_221 := (b_218.block _ (box_lt H_209)).trans H_209
           have H_222 := (b_218.block _ (box_lt H_210)).trans H_210
           have H_223 := (b_218.block _ (box_lt H_211)).trans H_211
           have m_224 := m_212.below b_218
           have m_225 := m_213.below b_218
           have m_226 := m_214.below b_218
           skip)
        | (refine wpList_store_any _ rfl rfl (by rfl) (b := w_205.heap.size) (off := 4) (n := 1) rfl rfl (vs := #[.int .i64 (d.p.co % 2 + 2)]) rfl H_216 (by kernel_rfl) rfl rfl (Nat.le_of_ble_eq_true rfl) (drvC { d with p := { d.p with co := (d.p.co % 2 + 2) } } A) rfl ?_
           intro w_227 H_228 g_229
           have zw_227 := g_229.size
           have B_230 := below_only B_219 g_229 (by omega)
           have H_231 := box_only' H_220 g_229 (by omega)
           have H_232 := box_only' H_221 g_229 (by omega)
           have H_233 := box_only' H_222 g_229 (by omega)
           have H_234 := box_only' H_223 g_229 (by omega)
           have b_235 : Below w_205.heap.size w_205 w_227 := below_only b_218 g_229 (Nat.le_refl _)
           have m_236 := m_212.below b_235
           have m_237 := m_213.below b_235
           have m_238 := m_214.below b_235
           skip)
        | (refine wpList_load_box _ rfl (by rfl) (b := w_159.heap.size) (off := 0) (n := 22) rfl H_233 Try.underlying46 (by kernel_rfl) (Nat.le_of_ble_eq_true rfl) (drvC { d with p := { d.p with co := (d.p.co % 2 + 2) } } A1) rfl ?_
           skip)
        | (refine wpList_load_box _ rfl (by rfl) (b := w_205.heap.size) (off := 0) (n := 22) rfl H_228 Try.underlying46 (by kernel_rfl) (Nat.le_of_ble_eq_true rfl) (drvC { d with p := { d.p with co := (d.p.co % 2 + 2) } } A) rfl ?_
           skip))
      refine (sameDriver_eq { d with p := { d.p with co := (d.p.co % 2 + 2) } } A1 A w_227 m_237 m_236 hl).mono ?_
      rintro e w_239 ⟨rfl, b_240⟩
      have zw_239 := b_240.size
      have B_241 := B_230.trans (b_240.mono B_230.size)
      have H_242 := (b_240.block _ (box_lt H_231)).trans H_231
      have H_243 := (b_240.block _ (box_lt H_232)).trans H_232
      have H_244 := (b_240.block _ (box_lt H_233)).trans H_233
      have H_245 := (b_240.block _ (box_lt H_234)).trans H_234
      have H_246 := (b_240.block _ (box_lt H_228)).trans H_228
      have m_247 := m_236.below b_240
      have m_248 := m_237.below b_240
      have m_249 := m_238.below b_240
      go_wp2
      go_ret
      exact ⟨rfl, B_241⟩

set_option linter.unusedVariables false in
set_option maxRecDepth 100000 in
theorem FnFlowDriver_lifted (os : Os) (started : os.Started) (H : Type) (enc : TypeId × Value → H) :
    ReturnsInHanded {} Try.checked os 9 .any (Rows.fnFlowDriverSpec.pre6 enc Try.prog Try.f9 Rows.fnFlowDriverRow.domain false) (Rows.fnFlowDriverSpec.post enc Try.prog Try.f9 false true false false) := by
  refine returnsInHanded_of_change (C := Try.checked) own_knob started (by kernel_rfl) Try.func9
    (ChangeSpec.witness6 (enc := enc) (C := Try.checked) false ⟨#[], #[.slice none 0 0], []⟩ 8 (by kernel_rfl) (by kernel_rfl) (by kernel_rfl) (by kernel_rfl)) ?_
  intro W base args ds gs before hval0 hW hcnd _
  have hval : ∀ (j : Nat) t v, Try.f9.params[j]? = some t → args[j]? = some v → Value.okWide Try.prog W .any base t v := hval0
  have hW' := hW
  obtain ⟨p, q, hA0, hV, rfl, hfz, hnd⟩ := hW
  have hA : DataW.TrodAll enc Try.prog W 0 (fun _ => true) true Try.f9.params.toList args.toList ds p := hA0
  rw [Try.params9] at hA hval
  obtain ⟨v0, vs0, d0, ds0, p0, q0, hargs, rfl, rfl, h0, r0⟩ := trodAll_cons hA
  obtain ⟨rfl, rfl, rfl⟩ := trodAll_nil r0
  obtain rfl : args = #[v0] := by cases args; simp_all
  obtain ⟨rfl, rfl⟩ := trodVars_none hV
  have k0 := h0
  have lt0 : ∀ x ∈ p0, x.block < W.heap.size := by obtain ⟨m, hm⟩ := k0; exact DataW.trod_lt m _ _ _ hm
  obtain ⟨a0, len0, cap0, rfl⟩ := okWide_slice Try.underlying59 (hval 0 59 v0 rfl rfl)
  obtain ⟨z0, rfl, lc0, lm0, rz0⟩ : ∃ z : List Int, len0 = z.length ∧ z.length ≤ cap0 ∧ cap0 ≤ maxLen ∧ Bytes W a0 z := by
    obtain ⟨fuel, hf⟩ := h0
    obtain ⟨ao, cap, z, e, h1, h2, h3⟩ := rd_bytes hf
    simp [Value.cells] at e
    obtain ⟨rfl, rfl, rfl⟩ := e
    exact ⟨z, rfl, h1, h2, h3⟩
  have lb0 : z0.length ≤ cap0 := lc0
  clear hA0 hval0
  refine (FnFlowDriver_walk a0 z0 cap0 W rz0 lc0 lm0).mono fun e W' ⟨he, bel⟩ => ?_
  subst he
  exact ⟨_, rfl, _, _, _, [], _, [], hW', trodAll_mk1 (shut_bool Try.underlying4 _), (trodAll_cons_mk (Below.trod laid_out (by kernel_rfl) (of_decide_eq_true (by kernel_rfl)) k0 bel lt0) trodAll_mk0), rfl, bel.frame _, fun h => by cases h⟩

theorem FnFlowDriver_holds : Rows.FnFlowDriverSaid :=
  OpenClaim.holds_of_wide 9 Try.f9 rfl rfl rfl rfl rfl rfl rfl ⟨rfl, rfl, rfl, rfl, rfl⟩ rfl rfl rfl rfl rfl (by kernel_rfl) Try.func9 (by kernel_rfl)
    (of_decide_eq_true (by kernel_rfl)) (by unfold Func.isWrapper; first | (rw [if_pos (by decide +kernel)]; kernel_rfl) | (rw [if_neg (by decide +kernel)]; exact ⟨rfl, rfl⟩))
    (fun os started H enc _ => FnFlowDriver_lifted os started H enc)
end Go.Proofs.Ytkmampichfbppaa
