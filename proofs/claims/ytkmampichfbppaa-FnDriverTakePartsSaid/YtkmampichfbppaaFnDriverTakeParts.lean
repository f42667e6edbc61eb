/- FnDriverTakeParts: Bytes can be taken in parts. No conditions beyond the statement's own. -/
import Derived.Test.YtkmampichfbppaaDrvLaw2
import Derived.Test.YtkmampichfbppaaDrvDraw4
namespace Go.Proofs.Ytkmampichfbppaa
open Go.ChangeShapes Go.WideShapes Go.ChangeAt Go.RowKit

set_option maxHeartbeats 4000000 in
set_option maxRecDepth 100000 in
theorem FnDriverTakeParts_walk (a0 : Option Addr) (z0 : List Int) (cap0 : Nat) (a1 : Option Addr) (z1 : List Int) (cap1 : Nat) (w : World) (rz0 : Bytes w a0 z0) (lc0 : z0.length ≤ cap0) (_lm0 : cap0 ≤ maxLen) (_rz1 : Bytes w a1 z1) (_lc1 : z1.length ≤ cap1) (_lm1 : cap1 ≤ maxLen) :
    Calls Try.prog 6 #[.slice a0 z0.length cap0, .slice a1 z1.length cap1] w fun e w' => e = .returned (.bool true) ∧ Below w.heap.size w w' := by
  unfold maxLen at _lm0
  unfold maxLen at _lm1
  by_cases hn0 : (z0.length : Int) ≤ 1048576
  case neg =>
    have hn0' : (1048576 : Int) < (z0.length : Int) := by omega
    go_enter Try.func6, Try.ntmps6
    go_wp2
    go_ret
    exact ⟨rfl, Below.refl _ _⟩
  by_cases hn1 : (z1.length : Int) ≤ 1048576
  case neg =>
    have hn1' : (1048576 : Int) < (z1.length : Int) := by omega
    go_enter Try.func6, Try.ntmps6
    go_wp2
    go_ret
    exact ⟨rfl, Below.refl _ _⟩
  go_enter Try.func6, Try.ntmps6
  have B0 : Below w.heap.size w w := Below.refl _ _
  go_wp2_with fail
  refine (drawDriverTake_any a0 z0 cap0 w rz0 lc0 (by omega)).mono ?_
  rintro e w_1 ⟨d, A, m, rfl, lg, ly, li, lo, DO, b_2⟩
  have zw_1 := b_2.size
  have B_3 := B0.trans (b_2.mono B0.size)
  have hm := DO.m
  have hN := DO.n
  have hl : DrvL d := ⟨by omega, by omega, by omega, by omega⟩
  clear DO
  cases hB : takeB d m
  · have hR := takeR_no hB
    have HI := Lib.hid (fun v h => take_at hR (implDriverTake_any d A m v h hl hN))
    have HJ := Lib.hid (fun v h => take_at hR (specDriverTake_any d A m v h hl hN))
    go_wp2_with (first
      | (refine wpList_store_any _ rfl rfl (by rfl) (b := w_1.heap.size) (off := 0) (n := 22) rfl rfl (vs := drvC d A) rfl (heap_new_at w_1 (.cells (drvC zDrv zDrvA) 46) _ rfl) (by kernel_rfl) rfl rfl (Nat.le_of_ble_eq_true rfl) (drvC d A) rfl ?_
         intro w_4 H_5 g_6
         have b_7 : Below w_1.heap.size w_1 w_4 := below_only ((Below.refl _ _).alloc (Nat.le_refl _) _) g_6 (Nat.le_refl _)
         have zw_4 := b_7.size
         have B_8 := B_3.trans (b_7.mono B_3.size)
         have lH_5 := box_lt H_5
         have m_9 := hm.below b_7
         skip)
      | (refine wpList_load_box _ rfl (by rfl) (b := w_1.heap.size) (off := 0) (n := 22) rfl H_5 Try.underlying46 (by kernel_rfl) (Nat.le_of_ble_eq_true rfl) (drvC d A) rfl ?_
         skip))
    refine (HI.out w_4 m_9).mono ?_
    rintro e w_10 ⟨A1, a1, c1, rfl, O1, o1, S1, b_11⟩
    have zw_10 := b_11.size
    have B_12 := B_8.trans (b_11.mono B_8.size)
    have H_13 := (b_11.block _ (box_lt H_5)).trans H_5
    have m_14 := m_9.below b_11
    have n1 := O1.m
    have N1 := O1.n
    have i1 := own_cells o1
    have HC1 := Lib.hid (own_nilcap o1)
    go_wp2_with (first
      | (refine wpList_store_any _ rfl rfl (by rfl) (b := w_10.heap.size) (off := 0) (n := 22) rfl rfl (vs := drvC zDrv A1) rfl (heap_new_at w_10 (.cells (drvC zDrv zDrvA) 46) _ rfl) (by kernel_rfl) rfl rfl (Nat.le_of_ble_eq_true rfl) (drvC zDrv A1) rfl ?_
         intro w_15 H_16 g_17
         have b_18 : Below w_10.heap.size w_10 w_15 := below_only ((Below.refl _ _).alloc (Nat.le_refl _) _) g_17 (Nat.le_refl _)
         have zw_15 := b_18.size
         have B_19 := B_12.trans (b_18.mono B_12.size)
         have lH_16 := box_lt H_16
         have H_20 := (b_18.block _ (box_lt H_13)).trans H_13
         have o_21 := own_below o1 b_18
         have m_22 := m_14.below b_18
         have m_23 := n1.below b_18
         have m_24 := i1.below b_18
         skip)
      | (refine wpList_load_box _ rfl (by rfl) (b := w_1.heap.size) (off := 0) (n := 22) rfl H_20 Try.underlying46 (by kernel_rfl) (Nat.le_of_ble_eq_true rfl) (drvC d A) rfl ?_
         skip))
    refine (HJ.out w_15 m_22).mono ?_
    rintro e w_25 ⟨A2, a2, c2, rfl, O2, o2, S2, b_26⟩
    have zw_25 := b_26.size
    have B_27 := B_19.trans (b_26.mono B_19.size)
    have H_28 := (b_26.block _ (box_lt H_20)).trans H_20
    have H_29 := (b_26.block _ (box_lt H_16)).trans H_16
    have o_30 := own_below o_21 b_26
    have m_31 := m_22.below b_26
    have m_32 := m_23.below b_26
    have m_33 := m_24.below b_26
    have n2 := O2.m
    have i2 := own_cells o2
    clear O2 o2 S2
    go_wp2_with (first
      | (refine wpList_store_any _ rfl rfl (by rfl) (b := w_25.heap.size) (off := 0) (n := 22) rfl rfl (vs := drvC zDrv A2) rfl (heap_new_at w_25 (.cells (drvC zDrv zDrvA) 46) _ rfl) (by kernel_rfl) rfl rfl (Nat.le_of_ble_eq_true rfl) (drvC zDrv A2) rfl ?_
         intro w_34 H_35 g_36
         have b_37 : Below w_25.heap.size w_25 w_34 := below_only ((Below.refl _ _).alloc (Nat.le_refl _) _) g_36 (Nat.le_refl _)
         have zw_34 := b_37.size
         have B_38 := B_27.trans (b_37.mono B_27.size)
         have lH_35 := box_lt H_35
         have H_39 := (b_37.block _ (box_lt H_28)).trans H_28
         have H_40 := (b_37.block _ (box_lt H_29)).trans H_29
         have o_41 := own_below o_30 b_37
         have m_42 := m_31.below b_37
         have m_43 := m_32.below b_37
         have m_44 := m_33.below b_37
         have m_45 := n2.below b_37
         have m_46 := i2.below b_37
         skip))
    refine (sameInts_below a1 a2 ([] : List Int) ([] : List Int) c1 c2 w_34 m_44 m_46 (by first | omega | simp) (by first | omega | simp)).mono ?_
    rintro e w_47 ⟨rfl, b_48⟩
    have zw_47 := b_48.size
    have B_49 := B_38.trans (b_48.mono B_38.size)
    have H_50 := (b_48.block _ (box_lt H_39)).trans H_39
    have H_51 := (b_48.block _ (box_lt H_40)).trans H_40
    have H_52 := (b_48.block _ (box_lt H_35)).trans H_35
    have o_53 := own_below o_41 b_48
    have m_54 := m_42.below b_48
    have m_55 := m_43.below b_48
    have m_56 := m_44.below b_48
    have m_57 := m_45.below b_48
    have m_58 := m_46.below b_48
    go_wp2_with (first
      | (refine wpList_load_box _ rfl (by rfl) (b := w_10.heap.size) (off := 0) (n := 22) rfl H_51 Try.underlying46 (by kernel_rfl) (Nat.le_of_ble_eq_true rfl) (drvC zDrv A1) rfl ?_
         skip)
      | (refine wpList_load_box _ rfl (by rfl) (b := w_25.heap.size) (off := 0) (n := 22) rfl H_52 Try.underlying46 (by kernel_rfl) (Nat.le_of_ble_eq_true rfl) (drvC zDrv A2) rfl ?_
         skip))
    refine (sameDriver_eq zDrv A1 A2 w_47 m_55 m_57 zDrvL).mono ?_
    rintro e w_59 ⟨rfl, b_60⟩
    have zw_59 := b_60.size
    have B_61 := B_49.trans (b_60.mono B_49.size)
    have H_62 := (b_60.block _ (box_lt H_50)).trans H_50
    have H_63 := (b_60.block _ (box_lt H_51)).trans H_51
    have H_64 := (b_60.block _ (box_lt H_52)).trans H_52
    have o_65 := own_below o_53 b_60
    have m_66 := m_54.below b_60
    have m_67 := m_55.below b_60
    have m_68 := m_56.below b_60
    have m_69 := m_57.below b_60
    have m_70 := m_58.below b_60
    go_wp2_with fail
    refine (sameInts_below a1 a2 ([] : List Int) ([] : List Int) c1 c2 w_59 m_68 m_70 (by first | omega | simp) (by first | omega | simp)).mono ?_
    rintro e w_71 ⟨rfl, b_72⟩
    have zw_71 := b_72.size
    have B_73 := B_61.trans (b_72.mono B_61.size)
    have H_74 := (b_72.block _ (box_lt H_62)).trans H_62
    have H_75 := (b_72.block _ (box_lt H_63)).trans H_63
    have H_76 := (b_72.block _ (box_lt H_64)).trans H_64
    have o_77 := own_below o_65 b_72
    have m_78 := m_66.below b_72
    have m_79 := m_67.below b_72
    have m_80 := m_68.below b_72
    have m_81 := m_69.below b_72
    have m_82 := m_70.below b_72
    go_wp2_with (first
      | (refine wpList_load_box _ rfl (by rfl) (b := w_10.heap.size) (off := 0) (n := 22) rfl H_75 Try.underlying46 (by kernel_rfl) (Nat.le_of_ble_eq_true rfl) (drvC zDrv A1) rfl ?_
         skip)
      | (refine wpList_load_box _ rfl (by rfl) (b := w_25.heap.size) (off := 0) (n := 22) rfl H_76 Try.underlying46 (by kernel_rfl) (Nat.le_of_ble_eq_true rfl) (drvC zDrv A2) rfl ?_
         skip))
    refine (sameDriver_eq zDrv A1 A2 w_71 m_79 m_81 zDrvL).mono ?_
    rintro e w_83 ⟨rfl, b_84⟩
    have zw_83 := b_84.size
    have B_85 := B_73.trans (b_84.mono B_73.size)
    have H_86 := (b_84.block _ (box_lt H_74)).trans H_74
    have H_87 := (b_84.block _ (box_lt H_75)).trans H_75
    have H_88 := (b_84.block _ (box_lt H_76)).trans H_76
    have o_89 := own_below o_77 b_84
    have m_90 := m_78.below b_84
    have m_91 := m_79.below b_84
    have m_92 := m_80.below b_84
    have m_93 := m_81.below b_84
    have m_94 := m_82.below b_84
    go_wp2
    go_ret
    exact ⟨rfl, B_85⟩
  · have hR := takeR_yes hB
    simp only [takeB, Bool.and_eq_true, inB, decide_eq_true_eq] at hB
    obtain ⟨hv, hm0, hm32⟩ := hB
    have HV := Lib.hid (drvB_take (takeN d m) hv)
    have HJn := Lib.hid (List.take_append_drop (takeN d m) d.i)
    have hn1 : (d.i.take (takeN d m)).length = min m.toNat d.i.length := by unfold takeN; rw [List.length_take]; omega
    have hn2 : (d.i.drop (takeN d m)).length = d.i.length - min m.toNat d.i.length := by unfold takeN; rw [List.length_drop]
    obtain ⟨d2, hd2⟩ : ∃ d2 : DrvD, d2 = { d with i := d.i.drop (takeN d m) } := ⟨_, rfl⟩
    rw [← hd2] at hR HV
    have HI2 := Lib.hid (show d2.i = d.i.drop (takeN d m) by rw [hd2])
    have HO2 := Lib.hid (show d2.o = d.o by rw [hd2])
    have hl2 : DrvL d2 := by rw [hd2]; exact ⟨hl.1, hl.2.1, by dsimp only; omega, hl.2.2.2⟩
    rw [← HI2.out] at HJn hn2
    obtain ⟨L1, hL1⟩ : ∃ L1 : List Int, L1 = d.i.take (takeN d m) := ⟨_, rfl⟩
    rw [← hL1] at hR HJn hn1
    clear hd2 hL1
    obtain ⟨M, rfl⟩ := Int.eq_ofNat_of_zero_le hm0
    rw [show ((M : Int)).toNat = M by simp] at hn1 hn2
    have hn2a := Nat.le_of_eq hn2
    have hn2b := Nat.le_of_eq hn2.symm
    clear hn2
    have hn1a := Nat.le_of_eq hn1
    clear hn1
    have hm0 : 0 ≤ (z1.length : Int) % ((M : Int) + 1) := Int.emod_nonneg _ (by omega)
    have hm1 : (z1.length : Int) % ((M : Int) + 1) < (M : Int) + 1 := Int.emod_lt_of_pos _ (by omega)
    obtain ⟨K, hM⟩ : ∃ K : Nat, (z1.length : Int) % ((M : Int) + 1) = (K : Int) := Int.eq_ofNat_of_zero_le hm0
    rw [hM] at hm1
    have hKM : K ≤ M := by omega
    have HM := Lib.hid hM
    clear hM hm0
    obtain ⟨d3, X3, Y3, hR1, hR2, hJ3, hl3, lX, lY⟩ := take_parts hR hKM hl
    have HJ3 := Lib.hid hJ3
    have HLX := Lib.hid (show X3.length + Y3.length = L1.length by rw [← hJ3, List.length_append])
    clear hJ3
    have HI := Lib.hid (fun v h => take_at hR (implDriverTake_any d A M v h hl hN))
    have HJ := Lib.hid (fun v h => take_at hR (specDriverTake_any d A M v h hl hN))
    go_wp2_with (first
      | (refine wpList_store_any _ rfl rfl (by rfl) (b := w_1.heap.size) (off := 0) (n := 22) rfl rfl (vs := drvC d A) rfl (heap_new_at w_1 (.cells (drvC zDrv zDrvA) 46) _ rfl) (by kernel_rfl) rfl rfl (Nat.le_of_ble_eq_true rfl) (drvC d A) rfl ?_
         intro w_4 H_5 g_6
         have b_7 : Below w_1.heap.size w_1 w_4 := below_only ((Below.refl _ _).alloc (Nat.le_refl _) _) g_6 (Nat.le_refl _)
         have zw_4 := b_7.size
         have B_8 := B_3.trans (b_7.mono B_3.size)
         have lH_5 := box_lt H_5
         have m_9 := hm.below b_7
         skip)
      | (refine wpList_load_box _ rfl (by rfl) (b := w_1.heap.size) (off := 0) (n := 22) rfl H_5 Try.underlying46 (by kernel_rfl) (Nat.le_of_ble_eq_true rfl) (drvC d A) rfl ?_
         skip))
    refine (HI.out w_4 m_9).mono ?_
    rintro e w_95 ⟨A1, a1, c1, rfl, O1, o1, S1, b_96⟩
    have zw_95 := b_96.size
    have B_97 := B_8.trans (b_96.mono B_8.size)
    have H_98 := (b_96.block _ (box_lt H_5)).trans H_5
    have m_99 := m_9.below b_96
    have n1 := O1.m
    have N1 := O1.n
    have i1 := own_cells o1
    have HC1 := Lib.hid (own_nilcap o1)
    go_wp2_with (first
      | (refine wpList_store_any _ rfl rfl (by rfl) (b := w_95.heap.size) (off := 0) (n := 22) rfl rfl (vs := drvC d2 A1) rfl (heap_new_at w_95 (.cells (drvC zDrv zDrvA) 46) _ rfl) (by kernel_rfl) rfl rfl (Nat.le_of_ble_eq_true rfl) (drvC d2 A1) rfl ?_
         intro w_100 H_101 g_102
         have b_103 : Below w_95.heap.size w_95 w_100 := below_only ((Below.refl _ _).alloc (Nat.le_refl _) _) g_102 (Nat.le_refl _)
         have zw_100 := b_103.size
         have B_104 := B_97.trans (b_103.mono B_97.size)
         have lH_101 := box_lt H_101
         have H_105 := (b_103.block _ (box_lt H_98)).trans H_98
         have o_106 := own_below o1 b_103
         have m_107 := m_99.below b_103
         have m_108 := n1.below b_103
         have m_109 := i1.below b_103
         skip)
      | (refine wpList_load_box _ rfl (by rfl) (b := w_1.heap.size) (off := 0) (n := 22) rfl H_105 Try.underlying46 (by kernel_rfl) (Nat.le_of_ble_eq_true rfl) (drvC d A) rfl ?_
         skip))
    refine (HJ.out w_100 m_107).mono ?_
    rintro e w_110 ⟨A2, a2, c2, rfl, O2, o2, S2, b_111⟩
    have zw_110 := b_111.size
    have B_112 := B_104.trans (b_111.mono B_104.size)
    have H_113 := (b_111.block _ (box_lt H_105)).trans H_105
    have H_114 := (b_111.block _ (box_lt H_101)).trans H_101
    have o_115 := own_below o_106 b_111
    have m_116 := m_107.below b_111
    have m_117 := m_108.below b_111
    have m_118 := m_109.below b_111
    have n2 := O2.m
    have i2 := own_cells o2
    clear O2 o2 S2
    have il1 := Lib.hid (own_in o1)
    go_wp2_with (first
      | (refine wpList_store_any _ rfl rfl (by rfl) (b := w_110.heap.size) (off := 0) (n := 22) rfl rfl (vs := drvC d2 A2) rfl (heap_new_at w_110 (.cells (drvC zDrv zDrvA) 46) _ rfl) (by kernel_rfl) rfl rfl (Nat.le_of_ble_eq_true rfl) (drvC d2 A2) rfl ?_
         intro w_119 H_120 g_121
         have b_122 : Below w_110.heap.size w_110 w_119 := below_only ((Below.refl _ _).alloc (Nat.le_refl _) _) g_121 (Nat.le_refl _)
         have zw_119 := b_122.size
         have B_123 := B_112.trans (b_122.mono B_112.size)
         have lH_120 := box_lt H_120
         have H_124 := (b_122.block _ (box_lt H_113)).trans H_113
         have H_125 := (b_122.block _ (box_lt H_114)).trans H_114
         have o_126 := own_below o_115 b_122
         have m_127 := m_116.below b_122
         have m_128 := m_117.below b_122
         have m_129 := m_118.below b_122
         have m_130 := n2.below b_122
         have m_131 := i2.below b_122
         skip))
    refine (sameInts_below a1 a2 L1 L1 c1 c2 w_119 m_129 m_131 (by first | omega | simp) (by first | omega | simp)).mono ?_
    rintro e w_132 ⟨rfl, b_133⟩
    have zw_132 := b_133.size
    have B_134 := B_123.trans (b_133.mono B_123.size)
    have H_135 := (b_133.block _ (box_lt H_124)).trans H_124
    have H_136 := (b_133.block _ (box_lt H_125)).trans H_125
    have H_137 := (b_133.block _ (box_lt H_120)).trans H_120
    have o_138 := own_below o_126 b_133
    have m_139 := m_127.below b_133
    have m_140 := m_128.below b_133
    have m_141 := m_129.below b_133
    have m_142 := m_130.below b_133
    have m_143 := m_131.below b_133
    go_wp2_with (first
      | (refine wpList_load_box _ rfl (by rfl) (b := w_95.heap.size) (off := 0) (n := 22) rfl H_136 Try.underlying46 (by kernel_rfl) (Nat.le_of_ble_eq_true rfl) (drvC d2 A1) rfl ?_
         skip)
      | (refine wpList_load_box _ rfl (by rfl) (b := w_110.heap.size) (off := 0) (n := 22) rfl H_137 Try.underlying46 (by kernel_rfl) (Nat.le_of_ble_eq_true rfl) (drvC d2 A2) rfl ?_
         skip))
    refine (sameDriver_eq d2 A1 A2 w_132 m_140 m_142 hl2).mono ?_
    rintro e w_144 ⟨rfl, b_145⟩
    have zw_144 := b_145.size
    have B_146 := B_134.trans (b_145.mono B_134.size)
    have H_147 := (b_145.block _ (box_lt H_135)).trans H_135
    have H_148 := (b_145.block _ (box_lt H_136)).trans H_136
    have H_149 := (b_145.block _ (box_lt H_137)).trans H_137
    have o_150 := own_below o_138 b_145
    have m_151 := m_139.below b_145
    have m_152 := m_140.below b_145
    have m_153 := m_141.below b_145
    have m_154 := m_142.below b_145
    have m_155 := m_143.below b_145
    have hM := HM.out
    have hwr1 : IntKind.i64.wrap ((M : Int) + 1) = (M : Int) + 1 := IntWalk.i64_in _ (by omega)
    have hMz : (((M : Int) + 1) == 0) = false := beq_eq_false_iff_ne.2 (by omega)
    have HI2 := Lib.hid (fun v h => take_at hR1 (implDriverTake_any d A (K : Int) v h hl hN))
    go_wp2_with (first
      | (refine wpList_load_box _ rfl (by rfl) (b := w_1.heap.size) (off := 0) (n := 22) rfl H_147 Try.underlying46 (by kernel_rfl) (Nat.le_of_ble_eq_true rfl) (drvC d A) rfl ?_
         skip))
    refine (HI2.out w_144 m_151).mono ?_
    rintro e w_156 ⟨A3, a3, c3, rfl, O3, o3, S3, b_157⟩
    have zw_156 := b_157.size
    have B_158 := B_146.trans (b_157.mono B_146.size)
    have H_159 := (b_157.block _ (box_lt H_147)).trans H_147
    have H_160 := (b_157.block _ (box_lt H_148)).trans H_148
    have H_161 := (b_157.block _ (box_lt H_149)).trans H_149
    have o_162 := own_below o_150 b_157
    have m_163 := m_151.below b_157
    have m_164 := m_152.below b_157
    have m_165 := m_153.below b_157
    have m_166 := m_154.below b_157
    have m_167 := m_155.below b_157
    clear hM hwr1 hMz
    have n3 := O3.m
    have N3 := O3.n
    have i3 := Lib.hid (own_in o3)
    have HC3 := Lib.hid (own_nilcap o3)
    clear O3 S3
    have hwr2 : IntKind.i64.wrap ((M : Int) - (K : Int)) = (M : Int) - (K : Int) := IntWalk.i64_in _ (by omega)
    have HI3 := Lib.hid (fun v h => take_at hR2 (implDriverTake_any d3 A3 ((M : Int) - (K : Int)) v h hl3 N3))
    go_wp2_with (first
      | (refine wpList_store_any _ rfl rfl (by rfl) (b := w_156.heap.size) (off := 0) (n := 22) rfl rfl (vs := drvC d3 A3) rfl (heap_new_at w_156 (.cells (drvC zDrv zDrvA) 46) _ rfl) (by kernel_rfl) rfl rfl (Nat.le_of_ble_eq_true rfl) (drvC d3 A3) rfl ?_
         intro w_168 H_169 g_170
         have b_171 : Below w_156.heap.size w_156 w_168 := below_only ((Below.refl _ _).alloc (Nat.le_refl _) _) g_170 (Nat.le_refl _)
         have zw_168 := b_171.size
         have B_172 := B_158.trans (b_171.mono B_158.size)
         have lH_169 := box_lt H_169
         have H_173 := (b_171.block _ (box_lt H_159)).trans H_159
         have H_174 := (b_171.block _ (box_lt H_160)).trans H_160
         have H_175 := (b_171.block _ (box_lt H_161)).trans H_161
         have o_176 := own_below o_162 b_171
         have o_177 := own_below o3 b_171
         have m_178 := m_163.below b_171
         have m_179 := m_164.below b_171
         have m_180 := m_165.below b_171
         have m_181 := m_166.below b_171
         have m_182 := m_167.below b_171
         have m_183 := n3.below b_171
         skip)
      | (refine wpList_load_box _ rfl (by rfl) (b := w_156.heap.size) (off := 0) (n := 22) rfl H_169 Try.underlying46 (by kernel_rfl) (Nat.le_of_ble_eq_true rfl) (drvC d3 A3) rfl ?_
         skip))
    refine (HI3.out w_168 m_183).mono ?_
    rintro e w_184 ⟨A4, a4, c4, rfl, O4, o4, S4, b_185⟩
    have zw_184 := b_185.size
    have B_186 := B_172.trans (b_185.mono B_172.size)
    have H_187 := (b_185.block _ (box_lt H_173)).trans H_173
    have H_188 := (b_185.block _ (box_lt H_174)).trans H_174
    have H_189 := (b_185.block _ (box_lt H_175)).trans H_175
    have H_190 := (b_185.block _ (box_lt H_169)).trans H_169
    have o_191 := own_below o_176 b_185
    have o_192 := own_below o_177 b_185
    have m_193 := m_178.below b_185
    have m_194 := m_179.below b_185
    have m_195 := m_180.below b_185
    have m_196 := m_181.below b_185
    have m_197 := m_182.below b_185
    have m_198 := m_183.below b_185
    clear hwr2
    have n4 := O4.m
    have HC4 := Lib.hid (own_nilcap o4)
    have i4 := own_cells o4
    clear O4 S4 o4
    go_wp2_with (first
      | (refine wpList_store_any _ rfl rfl (by rfl) (b := w_184.heap.size) (off := 0) (n := 22) rfl rfl (vs := drvC d2 A4) rfl (heap_new_at w_184 (.cells (drvC zDrv zDrvA) 46) _ rfl) (by kernel_rfl) rfl rfl (Nat.le_of_ble_eq_true rfl) (drvC d2 A4) rfl ?_
         intro w_199 H_200 g_201
         have b_202 : Below w_184.heap.size w_184 w_199 := below_only ((Below.refl _ _).alloc (Nat.le_refl _) _) g_201 (Nat.le_refl _)
         have zw_199 := b_202.size
         have B_203 := B_186.trans (b_202.mono B_186.size)
         have lH_200 := box_lt H_200
         have H_204 := (b_202.block _ (box_lt H_187)).trans H_187
         have H_205 := (b_202.block _ (box_lt H_188)).trans H_188
         have H_206 := (b_202.block _ (box_lt H_189)).trans H_189
         have H_207 := (b_202.block _ (box_lt H_190)).trans H_190
         have o_208 := own_below o_191 b_202
         have o_209 := own_below o_192 b_202
         have m_210 := m_193.below b_202
         have m_211 := m_194.below b_202
         have m_212 := m_195.below b_202
         have m_213 := m_196.below b_202
         have m_214 := m_197.below b_202
         have m_215 := m_198.below b_202
         have m_216 := n4.below b_202
         have m_217 := i4.below b_202
         skip)
      | (refine wpList_load_box _ rfl (by rfl) (b := w_184.heap.size) (off := 0) (n := 22) rfl H_200 Try.underlying46 (by kernel_rfl) (Nat.le_of_ble_eq_true rfl) (drvC d2 A4) rfl ?_
         skip)
      | (refine wpList_load_box _ rfl (by rfl) (b := w_95.heap.size) (off := 0) (n := 22) rfl H_205 Try.underlying46 (by kernel_rfl) (Nat.le_of_ble_eq_true rfl) (drvC d2 A1) rfl ?_
         skip))
    refine (sameDriver_eq d2 A4 A1 w_199 m_216 m_211 hl2).mono ?_
    rintro e w_218 ⟨rfl, b_219⟩
    have zw_218 := b_219.size
    have B_220 := B_203.trans (b_219.mono B_203.size)
    have H_221 := (b_219.block _ (box_lt H_204)).trans H_204
    have H_222 := (b_219.block _ (box_lt H_205)).trans H_205
    have H_223 := (b_219.block _ (box_lt H_206)).trans H_206
    have H_224 := (b_219.block _ (box_lt H_207)).trans H_207
    have H_225 := (b_219.block _ (box_lt H_200)).trans H_200
    have o_226 := own_below o_208 b_219
    have o_227 := own_below o_209 b_219
    have m_228 := m_210.below b_219
    have m_229 := m_211.below b_219
    have m_230 := m_212.below b_219
    have m_231 := m_213.below b_219
    have m_232 := m_214.below b_219
    have m_233 := m_215.below b_219
    have m_234 := m_216.below b_219
    have m_235 := m_217.below b_219
    go_wp2_with (first
      | (at_builtin
         refine wpList_append_row_g w_218 (by rfl) _ _ _ rfl w_144.heap.size 3 _ 1 8 Try.underlying27 int_info rfl (by decide) a3 (X3.length) c3 (X3.map (Value.int .i64)) (by rfl) o_227 a4 (Y3.length) c4 (Y3.map (Value.int .i64)) (by rfl) m_235 (by simp) (ints_one _) HC4.out (by simp only [maxLen]; omega) (by omega) (by omega) ?_
         intro a5 c5 w5 o5 hg
         rw [HLX.out, ← List.map_append, HJ3.out] at o5
         rw [HLX.out]
         have B5 := below_append (B := w.heap.size) B_220 (own_base o_227 (by omega)) hg B_220.size
         have ol5 := own_apart o_226 il1.out i3.out (by omega) hg
         skip))
    refine (sameInts_below a5 a1 L1 L1 c5 c1 w5 (own_cells o5) (own_cells ol5) (by omega) (by omega)).mono ?_
    rintro e w_236 ⟨rfl, b_237⟩
    have zw_236 := b_237.size
    have B_238 := B5.trans (b_237.mono B5.size)
    go_wp2
    go_ret
    exact ⟨rfl, B_238⟩

set_option linter.unusedVariables false in
set_option maxRecDepth 100000 in
theorem FnDriverTakeParts_lifted (os : Os) (started : os.Started) (H : Type) (enc : TypeId × Value → H) :
    ReturnsInHanded {} Try.checked os 6 .any (Rows.fnDriverTakePartsSpec.pre6 enc Try.prog Try.f6 Rows.fnDriverTakePartsRow.domain false) (Rows.fnDriverTakePartsSpec.post enc Try.prog Try.f6 false true false false) := by
  refine returnsInHanded_of_change (C := Try.checked) own_knob started (by kernel_rfl) Try.func6
    (ChangeSpec.witness6 (enc := enc) (C := Try.checked) false ⟨#[], #[.slice none 0 0, .slice none 0 0], []⟩ 8 (by kernel_rfl) (by kernel_rfl) (by kernel_rfl) (by kernel_rfl)) ?_
  intro W base args ds gs before hval0 hW hcnd _
  have hval : ∀ (j : Nat) t v, Try.f6.params[j]? = some t → args[j]? = some v → Value.okWide Try.prog W .any base t v := hval0
  have hW' := hW
  obtain ⟨p, q, hA0, hV, rfl, hfz, hnd⟩ := hW
  have hA : DataW.TrodAll enc Try.prog W 0 (fun _ => true) true Try.f6.params.toList args.toList ds p := hA0
  rw [Try.params6] at hA hval
  obtain ⟨v0, vs0, d0, ds0, p0, q0, hargs, rfl, rfl, h0, r0⟩ := trodAll_cons hA
  obtain ⟨v1, vs1, d1, ds1, p1, q1, rfl, rfl, rfl, h1, r1⟩ := trodAll_cons r0
  obtain ⟨rfl, rfl, rfl⟩ := trodAll_nil r1
  obtain rfl : args = #[v0, v1] := by cases args; simp_all
  obtain ⟨rfl, rfl⟩ := trodVars_none hV
  have k0 := h0
  have lt0 : ∀ x ∈ p0, x.block < W.heap.size := by obtain ⟨m, hm⟩ := k0; exact DataW.trod_lt m _ _ _ hm
  obtain ⟨a0, len0, cap0, rfl⟩ := okWide_slice Try.underlying59 (hval 0 59 v0 rfl rfl)
  obtain ⟨z0, rfl, lc0, lm0, rz0⟩ : ∃ z : List Int, len0 = z.length ∧ z.length ≤ cap0 ∧ cap0 ≤ maxLen ∧ Bytes W a0 z := by
    obtain ⟨fuel, hf⟩ := h0
    obtain ⟨ao, cap, z, e, h1, h2, h3⟩ := rd_bytes hf
    simp [Value.cells] at e
    obtain ⟨rfl, rfl, rfl⟩ := e
    exact ⟨z, rfl, h1, h2, h3⟩
  have lb0 : z0.length ≤ cap0 := lc0
  have k1 := h1
  have lt1 : ∀ x ∈ p1, x.block < W.heap.size := by obtain ⟨m, hm⟩ := k1; exact DataW.trod_lt m _ _ _ hm
  obtain ⟨a1, len1, cap1, rfl⟩ := okWide_slice Try.underlying59 (hval 1 59 v1 rfl rfl)
  obtain ⟨z1, rfl, lc1, lm1, rz1⟩ : ∃ z : List Int, len1 = z.length ∧ z.length ≤ cap1 ∧ cap1 ≤ maxLen ∧ Bytes W a1 z := by
    obtain ⟨fuel, hf⟩ := h1
    obtain ⟨ao, cap, z, e, h1, h2, h3⟩ := rd_bytes hf
    simp [Value.cells] at e
    obtain ⟨rfl, rfl, rfl⟩ := e
    exact ⟨z, rfl, h1, h2, h3⟩
  have lb1 : z1.length ≤ cap1 := lc1
  clear hA0 hval0
  refine (FnDriverTakeParts_walk a0 z0 cap0 a1 z1 cap1 W rz0 lc0 lm0 rz1 lc1 lm1).mono fun e W' ⟨he, bel⟩ => ?_
  subst he
  exact ⟨_, rfl, _, _, _, [], _, [], hW', trodAll_mk1 (shut_bool Try.underlying4 _), (trodAll_cons_mk (Below.trod laid_out (by kernel_rfl) (of_decide_eq_true (by kernel_rfl)) k0 bel lt0) (trodAll_cons_mk (Below.trod laid_out (by kernel_rfl) (of_decide_eq_true (by kernel_rfl)) k1 bel lt1) trodAll_mk0)), rfl, bel.frame _, fun h => by cases h⟩

theorem FnDriverTakeParts_holds : Rows.FnDriverTakePartsSaid :=
  OpenClaim.holds_of_wide 6 Try.f6 rfl rfl rfl rfl rfl rfl rfl ⟨rfl, rfl, rfl, rfl, rfl⟩ rfl rfl rfl rfl rfl (by kernel_rfl) Try.func6 (by kernel_rfl)
    (of_decide_eq_true (by kernel_rfl)) (by unfold Func.isWrapper; first | (rw [if_pos (by decide +kernel)]; kernel_rfl) | (rw [if_neg (by decide +kernel)]; exact ⟨rfl, rfl⟩))
    (fun os started H enc _ => FnDriverTakeParts_lifted os started H enc)
end Go.Proofs.Ytkmampichfbppaa
