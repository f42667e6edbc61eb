/- FnDriverTake: The oldest bytes are taken. No conditions beyond the statement's own. -/
import Derived.Test.YtkmampichfbppaaDrvLaw
import Derived.Test.YtkmampichfbppaaDrvDraw4
namespace Go.Proofs.Ytkmampichfbppaa
open Go.ChangeShapes Go.WideShapes Go.ChangeAt Go.RowKit

set_option maxHeartbeats 4000000 in
set_option maxRecDepth 100000 in
theorem FnDriverTake_walk (a0 : Option Addr) (z0 : List Int) (cap0 : Nat) (w : World) (rz0 : Bytes w a0 z0) (lc0 : z0.length ≤ cap0) (_lm0 : cap0 ≤ maxLen) :
    Calls Try.prog 5 #[.slice a0 z0.length cap0] w fun e w' => e = .returned (.bool true) ∧ Below w.heap.size w w' := by
  unfold maxLen at _lm0
  by_cases hn0 : (z0.length : Int) ≤ 1048576
  case neg =>
    have hn0' : (1048576 : Int) < (z0.length : Int) := by omega
    go_enter Try.func5, Try.ntmps5
    go_wp2
    go_ret
    exact ⟨rfl, Below.refl _ _⟩
  go_enter Try.func5, Try.ntmps5
  have B0 : Below w.heap.size w w := Below.refl _ _
  go_wp2_with fail
  refine (drawDriverTake_any a0 z0 cap0 w rz0 lc0 (by omega)).mono ?_
  rintro e w_1 ⟨d, A, m, rfl, lg, ly, li, lo, DO, b_2⟩
  have zw_1 := b_2.size
  have B_3 := B0.trans (b_2.mono B0.size)
  have hm := DO.m
  have hN := DO.n
  have hl : DrvL d := ⟨by omega, by omega, by omega, by omega⟩
  clear DO
  cases hB : takeB d m
  · have hR := takeR_no hB
    have HI := Lib.hid (fun v h => take_at hR (implDriverTake_any d A m v h hl hN))
    have HJ := Lib.hid (fun v h => take_at hR (specDriverTake_any d A m v h hl hN))
    go_wp2_with (first
      | (refine wpList_store_any _ rfl rfl (by rfl) (b := w_1.heap.size) (off := 0) (n := 22) rfl rfl (vs := drvC d A) rfl (heap_new_at w_1 (.cells (drvC zDrv zDrvA) 46) _ rfl) (by kernel_rfl) rfl rfl (Nat.le_of_ble_eq_true rfl) (drvC d A) rfl ?_
         intro w_4 H_5 g_6
         have b_7 : Below w_1.heap.size w_1 w_4 := below_only ((Below.refl _ _).alloc (Nat.le_refl _) _) g_6 (Nat.le_refl _)
         have zw_4 := b_7.size
         have B_8 := B_3.trans (b_7.mono B_3.size)
         have lH_5 := box_lt H_5
         have m_9 := hm.below b_7
         skip)
      | (refine wpList_load_box _ rfl (by rfl) (b := w_1.heap.size) (off := 0) (n := 22) rfl H_5 Try.underlying46 (by kernel_rfl) (Nat.le_of_ble_eq_true rfl) (drvC d A) rfl ?_
         skip))
    refine (HI.out w_4 m_9).mono ?_
    rintro e w_10 ⟨A1, a1, c1, rfl, O1, o1, S1, b_11⟩
    have zw_10 := b_11.size
    have B_12 := B_8.trans (b_11.mono B_8.size)
    have H_13 := (b_11.block _ (box_lt H_5)).trans H_5
    have m_14 := m_9.below b_11
    have n1 := O1.m
    have N1 := O1.n
    have i1 := own_cells o1
    have HC1 := Lib.hid (own_nilcap o1)
    go_wp2_with (first
      | (refine wpList_store_any _ rfl rfl (by rfl) (b := w_10.heap.size) (off := 0) (n := 22) rfl rfl (vs := drvC zDrv A1) rfl (heap_new_at w_10 (.cells (drvC zDrv zDrvA) 46) _ rfl) (by kernel_rfl) rfl rfl (Nat.le_of_ble_eq_true rfl) (drvC zDrv A1) rfl ?_
         intro w_15 H_16 g_17
         have b_18 : Below w_10.heap.size w_10 w_15 := below_only ((Below.refl _ _).alloc (Nat.le_refl _) _) g_17 (Nat.le_refl _)
         have zw_15 := b_18.size
         have B_19 := B_12.trans (b_18.mono B_12.size)
         have lH_16 := box_lt H_16
         have H_20 := (b_18.block _ (box_lt H_13)).trans H_13
         have o_21 := own_below o1 b_18
         have m_22 := m_14.below b_18
         have m_23 := n1.below b_18
         have m_24 := i1.below b_18
         skip)
      | (refine wpList_load_box _ rfl (by rfl) (b := w_1.heap.size) (off := 0) (n := 22) rfl H_20 Try.underlying46 (by kernel_rfl) (Nat.le_of_ble_eq_true rfl) (drvC d A) rfl ?_
         skip))
    refine (HJ.out w_15 m_22).mono ?_
    rintro e w_25 ⟨A2, a2, c2, rfl, O2, o2, S2, b_26⟩
    have zw_25 := b_26.size
    have B_27 := B_19.trans (b_26.mono B_19.size)
    have H_28 := (b_26.block _ (box_lt H_20)).trans H_20
    have H_29 := (b_26.block _ (box_lt H_16)).trans H_16
    have o_30 := own_below o_21 b_26
    have m_31 := m_22.below b_26
    have m_32 := m_23.below b_26
    have m_33 := m_24.below b_26
    have n2 := O2.m
    have i2 := own_cells o2
    clear O2 o2 S2
    go_wp2_with (first
      | (refine wpList_store_any _ rfl rfl (by rfl) (b := w_25.heap.size) (off := 0) (n := 22) rfl rfl (vs := drvC zDrv A2) rfl (heap_new_at w_25 (.cells (drvC zDrv zDrvA) 46) _ rfl) (by kernel_rfl) rfl rfl (Nat.le_of_ble_eq_true rfl) (drvC zDrv A2) rfl ?_
         intro w_34 H_35 g_36
         have b_37 : Below w_25.heap.size w_25 w_34 := below_only ((Below.refl _ _).alloc (Nat.le_refl _) _) g_36 (Nat.le_refl _)
         have zw_34 := b_37.size
         have B_38 := B_27.trans (b_37.mono B_27.size)
         have lH_35 := box_lt H_35
         have H_39 := (b_37.block _ (box_lt H_28)).trans H_28
         have H_40 := (b_37.block _ (box_lt H_29)).trans H_29
         have o_41 := own_below o_30 b_37
         have m_42 := m_31.below b_37
         have m_43 := m_32.below b_37
         have m_44 := m_33.below b_37
         have m_45 := n2.below b_37
         have m_46 := i2.below b_37
         skip))
    refine (sameInts_below a1 a2 ([] : List Int) ([] : List Int) c1 c2 w_34 m_44 m_46 (by first | omega | simp) (by first | omega | simp)).mono ?_
    rintro e w_47 ⟨rfl, b_48⟩
    have zw_47 := b_48.size
    have B_49 := B_38.trans (b_48.mono B_38.size)
    have H_50 := (b_48.block _ (box_lt H_39)).trans H_39
    have H_51 := (b_48.block _ (box_lt H_40)).trans H_40
    have H_52 := (b_48.block _ (box_lt H_35)).trans H_35
    have o_53 := own_below o_41 b_48
    have m_54 := m_42.below b_48
    have m_55 := m_43.below b_48
    have m_56 := m_44.below b_48
    have m_57 := m_45.below b_48
    have m_58 := m_46.below b_48
    go_wp2_with (first
      | (refine wpList_load_box _ rfl (by rfl) (b := w_10.heap.size) (off := 0) (n := 22) rfl H_51 Try.underlying46 (by kernel_rfl) (Nat.le_of_ble_eq_true rfl) (drvC zDrv A1) rfl ?_
         skip)
      | (refine wpList_load_box _ rfl (by rfl) (b := w_25.heap.size) (off := 0) (n := 22) rfl H_52 Try.underlying46 (by kernel_rfl) (Nat.le_of_ble_eq_true rfl) (drvC zDrv A2) rfl ?_
         skip))
    refine (sameDriver_eq zDrv A1 A2 w_47 m_55 m_57 zDrvL).mono ?_
    rintro e w_59 ⟨rfl, b_60⟩
    have zw_59 := b_60.size
    have B_61 := B_49.trans (b_60.mono B_49.size)
    have H_62 := (b_60.block _ (box_lt H_50)).trans H_50
    have H_63 := (b_60.block _ (box_lt H_51)).trans H_51
    have H_64 := (b_60.block _ (box_lt H_52)).trans H_52
    have o_65 := own_below o_53 b_60
    have m_66 := m_54.below b_60
    have m_67 := m_55.below b_60
    have m_68 := m_56.below b_60
    have m_69 := m_57.below b_60
    have m_70 := m_58.below b_60
    go_wp2_with fail
    refine (sameInts_below a1 a2 ([] : List Int) ([] : List Int) c1 c2 w_59 m_68 m_70 (by first | omega | simp) (by first | omega | simp)).mono ?_
    rintro e w_71 ⟨rfl, b_72⟩
    have zw_71 := b_72.size
    have B_73 := B_61.trans (b_72.mono B_61.size)
    have H_74 := (b_72.block _ (box_lt H_62)).trans H_62
    have H_75 := (b_72.block _ (box_lt H_63)).trans H_63
    have H_76 := (b_72.block _ (box_lt H_64)).trans H_64
    have o_77 := own_below o_65 b_72
    have m_78 := m_66.below b_72
    have m_79 := m_67.below b_72
    have m_80 := m_68.below b_72
    have m_81 := m_69.below b_72
    have m_82 := m_70.below b_72
    go_wp2_with (first
      | (refine wpList_load_box _ rfl (by rfl) (b := w_10.heap.size) (off := 0) (n := 22) rfl H_75 Try.underlying46 (by kernel_rfl) (Nat.le_of_ble_eq_true rfl) (drvC zDrv A1) rfl ?_
         skip)
      | (refine wpList_load_box _ rfl (by rfl) (b := w_25.heap.size) (off := 0) (n := 22) rfl H_76 Try.underlying46 (by kernel_rfl) (Nat.le_of_ble_eq_true rfl) (drvC zDrv A2) rfl ?_
         skip))
    refine (sameDriver_eq zDrv A1 A2 w_71 m_79 m_81 zDrvL).mono ?_
    rintro e w_83 ⟨rfl, b_84⟩
    have zw_83 := b_84.size
    have B_85 := B_73.trans (b_84.mono B_73.size)
    have H_86 := (b_84.block _ (box_lt H_74)).trans H_74
    have H_87 := (b_84.block _ (box_lt H_75)).trans H_75
    have H_88 := (b_84.block _ (box_lt H_76)).trans H_76
    have o_89 := own_below o_77 b_84
    have m_90 := m_78.below b_84
    have m_91 := m_79.below b_84
    have m_92 := m_80.below b_84
    have m_93 := m_81.below b_84
    have m_94 := m_82.below b_84
    go_wp2
    go_ret
    exact ⟨rfl, B_85⟩
  · have hR := takeR_yes hB
    simp only [takeB, Bool.and_eq_true, inB, decide_eq_true_eq] at hB
    obtain ⟨hv, hm0, hm32⟩ := hB
    have HV := Lib.hid (drvB_take (takeN d m) hv)
    have HJn := Lib.hid (List.take_append_drop (takeN d m) d.i)
    have hn1 : (d.i.take (takeN d m)).length = min m.toNat d.i.length := by unfold takeN; rw [List.length_take]; omega
    have hn2 : (d.i.drop (takeN d m)).length = d.i.length - min m.toNat d.i.length := by unfold takeN; rw [List.length_drop]
    obtain ⟨d2, hd2⟩ : ∃ d2 : DrvD, d2 = { d with i := d.i.drop (takeN d m) } := ⟨_, rfl⟩
    rw [← hd2] at hR HV
    have HI2 := Lib.hid (show d2.i = d.i.drop (takeN d m) by rw [hd2])
    have HO2 := Lib.hid (show d2.o = d.o by rw [hd2])
    have hl2 : DrvL d2 := by rw [hd2]; exact ⟨hl.1, hl.2.1, by dsimp only; omega, hl.2.2.2⟩
    rw [← HI2.out] at HJn hn2
    obtain ⟨L1, hL1⟩ : ∃ L1 : List Int, L1 = d.i.take (takeN d m) := ⟨_, rfl⟩
    rw [← hL1] at hR HJn hn1
    clear hd2 hL1
    obtain ⟨M, rfl⟩ := Int.eq_ofNat_of_zero_le hm0
    rw [show ((M : Int)).toNat = M by simp] at hn1 hn2
    have hn2a := Nat.le_of_eq hn2
    have hn2b := Nat.le_of_eq hn2.symm
    clear hn2
    by_cases hmn : d.i.length < M
    · have hmq : L1.length = d.i.length := by omega
      have HMQ := Lib.hid hmq
      clear hmq hn1
      have hn1 := Nat.le_of_eq HMQ.out
      have hn1' := Nat.le_of_eq HMQ.out.symm
      have HI := Lib.hid (fun v h => take_at hR (implDriverTake_any d A M v h hl hN))
      have HJ := Lib.hid (fun v h => take_at hR (specDriverTake_any d A M v h hl hN))
      go_wp2_with (first
        | (refine wpList_store_any _ rfl rfl (by rfl) (b := w_1.heap.size) (off := 0) (n := 22) rfl rfl (vs := drvC d A) rfl (heap_new_at w_1 (.cells (drvC zDrv zDrvA) 46) _ rfl) (by kernel_rfl) rfl rfl (Nat.le_of_ble_eq_true rfl) (drvC d A) rfl ?_
           intro w_4 H_5 g_6
           have b_7 : Below w_1.heap.size w_1 w_4 := below_only ((Below.refl _ _).alloc (Nat.le_refl _) _) g_6 (Nat.le_refl _)
           have zw_4 := b_7.size
           have B_8 := B_3.trans (b_7.mono B_3.size)
           have lH_5 := box_lt H_5
           have m_9 := hm.below b_7
           skip)
        | (refine wpList_load_box _ rfl (by rfl) (b := w_1.heap.size) (off := 0) (n := 22) rfl H_5 Try.underlying46 (by kernel_rfl) (Nat.le_of_ble_eq_true rfl) (drvC d A) rfl ?_
           skip))
      refine (HI.out w_4 m_9).mono ?_
      rintro e w_95 ⟨A1, a1, c1, rfl, O1, o1, S1, b_96⟩
      have zw_95 := b_96.size
      have B_97 := B_8.trans (b_96.mono B_8.size)
      have H_98 := (b_96.block _ (box_lt H_5)).trans H_5
      have m_99 := m_9.below b_96
      have n1 := O1.m
      have N1 := O1.n
      have i1 := own_cells o1
      have HC1 := Lib.hid (own_nilcap o1)
      go_wp2_with (first
        | (refine wpList_store_any _ rfl rfl (by rfl) (b := w_95.heap.size) (off := 0) (n := 22) rfl rfl (vs := drvC d2 A1) rfl (heap_new_at w_95 (.cells (drvC zDrv zDrvA) 46) _ rfl) (by kernel_rfl) rfl rfl (Nat.le_of_ble_eq_true rfl) (drvC d2 A1) rfl ?_
           intro w_100 H_101 g_102
           have b_103 : Below w_95.heap.size w_95 w_100 := below_only ((Below.refl _ _).alloc (Nat.le_refl _) _) g_102 (Nat.le_refl _)
           have zw_100 := b_103.size
           have B_104 := B_97.trans (b_103.mono B_97.size)
           have lH_101 := box_lt H_101
           have H_105 := (b_103.block _ (box_lt H_98)).trans H_98
           have o_106 := own_below o1 b_103
           have m_107 := m_99.below b_103
           have m_108 := n1.below b_103
           have m_109 := i1.below b_103
           skip)
        | (refine wpList_load_box _ rfl (by rfl) (b := w_1.heap.size) (off := 0) (n := 22) rfl H_105 Try.underlying46 (by kernel_rfl) (Nat.le_of_ble_eq_true rfl) (drvC d A) rfl ?_
           skip))
      refine (HJ.out w_100 m_107).mono ?_
      rintro e w_110 ⟨A2, a2, c2, rfl, O2, o2, S2, b_111⟩
      have zw_110 := b_111.size
      have B_112 := B_104.trans (b_111.mono B_104.size)
      have H_113 := (b_111.block _ (box_lt H_105)).trans H_105
      have H_114 := (b_111.block _ (box_lt H_101)).trans H_101
      have o_115 := own_below o_106 b_111
      have m_116 := m_107.below b_111
      have m_117 := m_108.below b_111
      have m_118 := m_109.below b_111
      have n2 := O2.m
      have i2 := own_cells o2
      clear O2 o2 S2
      go_wp2_with (first
        | (refine wpList_store_any _ rfl rfl (by rfl) (b := w_110.heap.size) (off := 0) (n := 22) rfl rfl (vs := drvC d2 A2) rfl (heap_new_at w_110 (.cells (drvC zDrv zDrvA) 46) _ rfl) (by kernel_rfl) rfl rfl (Nat.le_of_ble_eq_true rfl) (drvC d2 A2) rfl ?_
           intro w_119 H_120 g_121
           have b_122 : Below w_110.heap.size w_110 w_119 := below_only ((Below.refl _ _).alloc (Nat.le_refl _) _) g_121 (Nat.le_refl _)
           have zw_119 := b_122.size
           have B_123 := B_112.trans (b_122.mono B_112.size)
           have lH_120 := box_lt H_120
           have H_124 := (b_122.block _ (box_lt H_113)).trans H_113
           have H_125 := (b_122.block _ (box_lt H_114)).trans H_114
           have o_126 := own_below o_115 b_122
           have m_127 := m_116.below b_122
           have m_128 := m_117.below b_122
           have m_129 := m_118.below b_122
           have m_130 := n2.below b_122
           have m_131 := i2.below b_122
           skip))
      refine (sameInts_below a1 a2 L1 L1 c1 c2 w_119 m_129 m_131 (by first | omega | simp) (by first | omega | simp)).mono ?_
      rintro e w_132 ⟨rfl, b_133⟩
      have zw_132 := b_133.size
      have B_134 := B_123.trans (b_133.mono B_123.size)
      have H_135 := (b_133.block _ (box_lt H_124)).trans H_124
      have H_136 := (b_133.block _ (box_lt H_125)).trans H_125
      have H_137 := (b_133.block _ (box_lt H_120)).trans H_120
      have o_138 := own_below o_126 b_133
      have m_139 := m_127.below b_133
      have m_140 := m_128.below b_133
      have m_141 := m_129.below b_133
      have m_142 := m_130.below b_133
      have m_143 := m_131.below b_133
      go_wp2_with (first
        | (refine wpList_load_box _ rfl (by rfl) (b := w_95.heap.size) (off := 0) (n := 22) rfl H_136 Try.underlying46 (by kernel_rfl) (Nat.le_of_ble_eq_true rfl) (drvC d2 A1) rfl ?_
           skip)
        | (refine wpList_load_box _ rfl (by rfl) (b := w_110.heap.size) (off := 0) (n := 22) rfl H_137 Try.underlying46 (by kernel_rfl) (Nat.le_of_ble_eq_true rfl) (drvC d2 A2) rfl ?_
           skip))
      refine (sameDriver_eq d2 A1 A2 w_132 m_140 m_142 hl2).mono ?_
      rintro e w_144 ⟨rfl, b_145⟩
      have zw_144 := b_145.size
      have B_146 := B_134.trans (b_145.mono B_134.size)
      have H_147 := (b_145.block _ (box_lt H_135)).trans H_135
      have H_148 := (b_145.block _ (box_lt H_136)).trans H_136
      have H_149 := (b_145.block _ (box_lt H_137)).trans H_137
      have o_150 := own_below o_138 b_145
      have m_151 := m_139.below b_145
      have m_152 := m_140.below b_145
      have m_153 := m_141.below b_145
      have m_154 := m_142.below b_145
      have m_155 := m_143.below b_145
      have HLL := Lib.hid (show L1.length + d2.i.length = d.i.length by omega)
      go_wp2_with fail
      have HS_156 := Lib.hid (fun (v : World) (hv : Below w_144.heap.size w_144 v) => (⟨(hv.cell (p := ⟨w_95.heap.size, 18, none⟩) (box_lt H_148)).trans (box_cell H_148 18 rfl), hv⟩ : v.cell? ⟨w_95.heap.size, 18, none⟩ = some (.slice A1.ai d2.i.length A1.ci) ∧ Below w_144.heap.size w_144 v))
      have hBHS_156 := Nat.le_refl w_144.heap.size
      go_region_held3 (fun v => v.cell? ⟨w_95.heap.size, 18, none⟩ = some (.slice A1.ai d2.i.length A1.ci) ∧ Below w_144.heap.size w_144 v)
        ((refine HS_156.out _ ?_; go_split_ands; repeat (first | with_reducible assumption | with_reducible exact Below.refl _ _ | with_reducible refine Below.drew ?_ | with_reducible refine below_allocB ?_ hBHS_156 _)))
        (first
          | (refine step_append_row (by rfl) _ _ _ (by rfl) w_144.heap.size 3 _ 1 8 Try.underlying27 int_info rfl (by decide) (some ⟨_, 0, none⟩) 0 0 [] (by rfl) ?ho a1 (L1.length) c1 (L1.map (Value.int .i64)) (by rfl) ?hn (by simp) (ints_one _) HC1.out (by simp only [maxLen]; omega) (by omega) ?hb ?_
             case ho => first | exact own_made_at _ #[] _ _ 0 _ _ rfl (by first | exact Nat.le_refl _ | (simp; done) | (simp; omega)) (by simp) rfl | exact own_made_at _ #[] _ _ 0 _ _ (by simp) (by simp) (by simp) rfl
             case hn => (go_split_ands; exact Ints.below (m_153) (by with_reducible assumption))
             case hb => (go_split_ands; exact Below.size (by with_reducible assumption))
             intro aA_157 dA_158 wA_159 oA_160 hgA
             rw [Nat.zero_add, List.nil_append] at oA_160
             rw [Nat.zero_add]
             have bwA_159 : Below w_144.heap.size w_144 wA_159 := (by go_split_ands; exact below_growB (by with_reducible assumption) hgA hBHS_156 (fun k hk => by simp [Value.ownBlock] at hk; omega))
             skip)
          | (refine step_append_row (by rfl) _ _ _ (by rfl) w_144.heap.size 3 _ 1 8 Try.underlying27 int_info rfl (by decide) aA_157 (L1.length) dA_158 (L1.map (Value.int .i64)) (by rfl) ?ho A1.ai (d2.i.length) A1.ci (d2.i.map (Value.int .i64)) (by rfl) ?hn (by simp) (ints_one _) N1.2.2.1 (by simp only [maxLen]; omega) (by omega) ?hb ?_
             case ho => exact oA_160
             case hn => (go_split_ands; exact Ints.below ((m_152).2.1) (by with_reducible assumption))
             case hb => (go_split_ands; exact Below.size (by with_reducible assumption))
             intro aC_161 dC_162 wC_163 oC_164 hgC
             have bC_165 : Below w_144.heap.size w_144 wC_163 := (by go_split_ands; exact below_growB (by with_reducible assumption) hgC hBHS_156 (fun k hk => (oA_160.lt k hk).1))
             rw [HLL.out, ← List.map_append, HJn.out] at oC_164
             rw [HLL.out]
             clear hgA hgC bwA_159 oA_160
             skip))
      have zwC_163 := bC_165.size
      have B_166 := B_146.trans (bC_165.mono B_146.size)
      have H_167 := (bC_165.block _ (box_lt H_147)).trans H_147
      have H_168 := (bC_165.block _ (box_lt H_148)).trans H_148
      have H_169 := (bC_165.block _ (box_lt H_149)).trans H_149
      have o_170 := own_below o_150 bC_165
      have m_171 := m_151.below bC_165
      have m_172 := m_152.below bC_165
      have m_173 := m_153.below bC_165
      have m_174 := m_154.below bC_165
      have m_175 := m_155.below bC_165
      have c_176 := box_cell H_167 18 (v := .slice A.ai d.i.length A.ci) rfl
      have lc_176 := box_lt H_167
      go_wp2_with fail
      refine (sameInts_below aC_161 A.ai d.i d.i dC_162 A.ci wC_163 (own_cells oC_164) (m_171).2.1 (by omega) (by omega)).mono ?_
      rintro e w_177 ⟨rfl, b_178⟩
      have zw_177 := b_178.size
      have B_179 := B_166.trans (b_178.mono B_166.size)
      have H_180 := (b_178.block _ (box_lt H_167)).trans H_167
      have H_181 := (b_178.block _ (box_lt H_168)).trans H_168
      have H_182 := (b_178.block _ (box_lt H_169)).trans H_169
      have o_183 := own_below o_170 b_178
      have o_184 := own_below oC_164 b_178
      have m_185 := m_171.below b_178
      have m_186 := m_172.below b_178
      have m_187 := m_173.below b_178
      have m_188 := m_174.below b_178
      have m_189 := m_175.below b_178
      have c_190 := box_cell H_180 18 (v := .slice A.ai d.i.length A.ci) rfl
      have lc_190 := box_lt H_180
      have c_191 := box_cell H_180 19 (v := .slice A.ao d.o.length A.co) rfl
      have lc_191 := box_lt H_180
      have c_192 := box_cell H_181 19 (v := .slice A1.ao d2.o.length A1.co) rfl
      have lc_192 := box_lt H_181
      have HOd := Lib.hid (decide_eq_true HO2.out)
      have hmqI : (L1.length : Int) = (d.i.length : Int) := by rw [HMQ.out]
      have hlo2 := hl2.2.2.2
      go_wp2_with fail
      clear hmqI
      refine (sameInts_below A1.ao A.ao d2.o d.o A1.co A.co w_177 (m_186).2.2 (m_185).2.2 (by omega) (by omega)).mono ?_
      rintro e w_193 ⟨rfl, b_194⟩
      have zw_193 := b_194.size
      have B_195 := B_179.trans (b_194.mono B_179.size)
      have H_196 := (b_194.block _ (box_lt H_180)).trans H_180
      have H_197 := (b_194.block _ (box_lt H_181)).trans H_181
      have H_198 := (b_194.block _ (box_lt H_182)).trans H_182
      have o_199 := own_below o_183 b_194
      have o_200 := own_below o_184 b_194
      have m_201 := m_185.below b_194
      have m_202 := m_186.below b_194
      have m_203 := m_187.below b_194
      have m_204 := m_188.below b_194
      have m_205 := m_189.below b_194
      rw [HOd.out]
      go_wp2_with (first
        | (refine wpList_load_box _ rfl (by rfl) (b := w_95.heap.size) (off := 0) (n := 22) rfl H_197 Try.underlying46 (by kernel_rfl) (Nat.le_of_ble_eq_true rfl) (drvC d2 A1) rfl ?_
           skip))
      refine (implDriverValid_any d2 A1 w_193 m_202 hl2).mono ?_
      rintro e w_206 ⟨rfl, b_207⟩
      have zw_206 := b_207.size
      have B_208 := B_195.trans (b_207.mono B_195.size)
      have H_209 := (b_207.block _ (box_lt H_196)).trans H_196
      have H_210 := (b_207.block _ (box_lt H_197)).trans H_197
      have H_211 := (b_207.block _ (box_lt H_198)).trans H_198
      have o_212 := own_below o_199 b_207
      have o_213 := own_below o_200 b_207
      have m_214 := m_201.below b_207
      have m_215 := m_202.below b_207
      have m_216 := m_203.below b_207
      have m_217 := m_204.below b_207
      have m_218 := m_205.below b_207
      rw [HV.out]
      go_wp2
      go_ret
      exact ⟨rfl, B_208⟩
    · have hmn' : M ≤ d.i.length := by omega
      have hmq : L1.length = M := by omega
      have HMQ := Lib.hid hmq
      clear hmq hn1
      have hn1 := Nat.le_of_eq HMQ.out
      have hn1' := Nat.le_of_eq HMQ.out.symm
      have HI := Lib.hid (fun v h => take_at hR (implDriverTake_any d A M v h hl hN))
      have HJ := Lib.hid (fun v h => take_at hR (specDriverTake_any d A M v h hl hN))
      go_wp2_with (first
        | (refine wpList_store_any _ rfl rfl (by rfl) (b := w_1.heap.size) (off := 0) (n := 22) rfl rfl (vs := drvC d A) rfl (heap_new_at w_1 (.cells (drvC zDrv zDrvA) 46) _ rfl) (by kernel_rfl) rfl rfl (Nat.le_of_ble_eq_true rfl) (drvC d A) rfl ?_
           intro w_4 H_5 g_6
           have b_7 : Below w_1.heap.size w_1 w_4 := below_only ((Below.refl _ _).alloc (Nat.le_refl _) _) g_6 (Nat.le_refl _)
           have zw_4 := b_7.size
           have B_8 := B_3.trans (b_7.mono B_3.size)
           have lH_5 := box_lt H_5
           have m_9 := hm.below b_7
           skip)
        | (refine wpList_load_box _ rfl (by rfl) (b := w_1.heap.size) (off := 0) (n := 22) rfl H_5 Try.underlying46 (by kernel_rfl) (Nat.le_of_ble_eq_true rfl) (drvC d A) rfl ?_
           skip))
      refine (HI.out w_4 m_9).mono ?_
      rintro e w_219 ⟨A1, a1, c1, rfl, O1, o1, S1, b_220⟩
      have zw_219 := b_220.size
      have B_221 := B_8.trans (b_220.mono B_8.size)
      have H_222 := (b_220.block _ (box_lt H_5)).trans H_5
      have m_223 := m_9.below b_220
      have n1 := O1.m
      have N1 := O1.n
      have i1 := own_cells o1
      have HC1 := Lib.hid (own_nilcap o1)
      go_wp2_with (first
        | (refine wpList_store_any _ rfl rfl (by rfl) (b := w_219.heap.size) (off := 0) (n := 22) rfl rfl (vs := drvC d2 A1) rfl (heap_new_at w_219 (.cells (drvC zDrv zDrvA) 46) _ rfl) (by kernel_rfl) rfl rfl (Nat.le_of_ble_eq_true rfl) (drvC d2 A1) rfl ?_
           intro w_224 H_225 g_226
           have b_227 : Below w_219.heap.size w_219 w_224 := below_only ((Below.refl _ _).alloc (Nat.le_refl _) _) g_226 (Nat.le_refl _)
           have zw_224 := b_227.size
           have B_228 := B_221.trans (b_227.mono B_221.size)
           have lH_225 := box_lt H_225
           have H_229 := (b_227.block _ (box_lt H_222)).trans H_222
           have o_230 := own_below o1 b_227
           have m_231 := m_223.below b_227
           have m_232 := n1.below b_227
           have m_233 := i1.below b_227
           skip)
        | (refine wpList_load_box _ rfl (by rfl) (b := w_1.heap.size) (off := 0) (n := 22) rfl H_229 Try.underlying46 (by kernel_rfl) (Nat.le_of_ble_eq_true rfl) (drvC d A) rfl ?_
           skip))
      refine (HJ.out w_224 m_231).mono ?_
      rintro e w_234 ⟨A2, a2, c2, rfl, O2, o2, S2, b_235⟩
      have zw_234 := b_235.size
      have B_236 := B_228.trans (b_235.mono B_228.size)
      have H_237 := (b_235.block _ (box_lt H_229)).trans H_229
      have H_238 := (b_235.block _ (box_lt H_225)).trans H_225
      have o_239 := own_below o_230 b_235
      have m_240 := m_231.below b_235
      have m_241 := m_232.below b_235
      have m_242 := m_233.below b_235
      have n2 := O2.m
      have i2 := own_cells o2
      clear O2 o2 S2
      go_wp2_with (first
        | (refine wpList_store_any _ rfl rfl (by rfl) (b := w_234.heap.size) (off := 0) (n := 22) rfl rfl (vs := drvC d2 A2) rfl (heap_new_at w_234 (.cells (drvC zDrv zDrvA) 46) _ rfl) (by kernel_rfl) rfl rfl (Nat.le_of_ble_eq_true rfl) (drvC d2 A2) rfl ?_
           intro w_243 H_244 g_245
           have b_246 : Below w_234.heap.size w_234 w_243 := below_only ((Below.refl _ _).alloc (Nat.le_refl _) _) g_245 (Nat.le_refl _)
           have zw_243 := b_246.size
           have B_247 := B_236.trans (b_246.mono B_236.size)
           have lH_244 := box_lt H_244
           have H_248 := (b_246.block _ (box_lt H_237)).trans H_237
           have H_249 := (b_246.block _ (box_lt H_238)).trans H_238
           have o_250 := own_below o_239 b_246
           have m_251 := m_240.below b_246
           have m_252 := m_241.below b_246
           have m_253 := m_242.below b_246
           have m_254 := n2.below b_246
           have m_255 := i2.below b_246
           skip))
      refine (sameInts_below a1 a2 L1 L1 c1 c2 w_243 m_253 m_255 (by first | omega | simp) (by first | omega | simp)).mono ?_
      rintro e w_256 ⟨rfl, b_257⟩
      have zw_256 := b_257.size
      have B_258 := B_247.trans (b_257.mono B_247.size)
      have H_259 := (b_257.block _ (box_lt H_248)).trans H_248
      have H_260 := (b_257.block _ (box_lt H_249)).trans H_249
      have H_261 := (b_257.block _ (box_lt H_244)).trans H_244
      have o_262 := own_below o_250 b_257
      have m_263 := m_251.below b_257
      have m_264 := m_252.below b_257
      have m_265 := m_253.below b_257
      have m_266 := m_254.below b_257
      have m_267 := m_255.below b_257
      go_wp2_with (first
        | (refine wpList_load_box _ rfl (by rfl) (b := w_219.heap.size) (off := 0) (n := 22) rfl H_260 Try.underlying46 (by kernel_rfl) (Nat.le_of_ble_eq_true rfl) (drvC d2 A1) rfl ?_
           skip)
        | (refine wpList_load_box _ rfl (by rfl) (b := w_234.heap.size) (off := 0) (n := 22) rfl H_261 Try.underlying46 (by kernel_rfl) (Nat.le_of_ble_eq_true rfl) (drvC d2 A2) rfl ?_
           skip))
      refine (sameDriver_eq d2 A1 A2 w_256 m_264 m_266 hl2).mono ?_
      rintro e w_268 ⟨rfl, b_269⟩
      have zw_268 := b_269.size
      have B_270 := B_258.trans (b_269.mono B_258.size)
      have H_271 := (b_269.block _ (box_lt H_259)).trans H_259
      have H_272 := (b_269.block _ (box_lt H_260)).trans H_260
      have H_273 := (b_269.block _ (box_lt H_261)).trans H_261
      have o_274 := own_below o_262 b_269
      have m_275 := m_263.below b_269
      have m_276 := m_264.below b_269
      have m_277 := m_265.below b_269
      have m_278 := m_266.below b_269
      have m_279 := m_267.below b_269
      have HLL := Lib.hid (show L1.length + d2.i.length = d.i.length by omega)
      go_wp2_with fail
      have HS_280 := Lib.hid (fun (v : World) (hv : Below w_268.heap.size w_268 v) => (⟨(hv.cell (p := ⟨w_219.heap.size, 18, none⟩) (box_lt H_272)).trans (box_cell H_272 18 rfl), hv⟩ : v.cell? ⟨w_219.heap.size, 18, none⟩ = some (.slice A1.ai d2.i.length A1.ci) ∧ Below w_268.heap.size w_268 v))
      have hBHS_280 := Nat.le_refl w_268.heap.size
      go_region_held3 (fun v => v.cell? ⟨w_219.heap.size, 18, none⟩ = some (.slice A1.ai d2.i.length A1.ci) ∧ Below w_268.heap.size w_268 v)
        ((refine HS_280.out _ ?_; go_split_ands; repeat (first | with_reducible assumption | with_reducible exact Below.refl _ _ | with_reducible refine Below.drew ?_ | with_reducible refine below_allocB ?_ hBHS_280 _)))
        (first
          | (refine step_append_row (by rfl) _ _ _ (by rfl) w_268.heap.size 3 _ 1 8 Try.underlying27 int_info rfl (by decide) (some ⟨_, 0, none⟩) 0 0 [] (by rfl) ?ho a1 (L1.length) c1 (L1.map (Value.int .i64)) (by rfl) ?hn (by simp) (ints_one _) HC1.out (by simp only [maxLen]; omega) (by omega) ?hb ?_
             case ho => first | exact own_made_at _ #[] _ _ 0 _ _ rfl (by first | exact Nat.le_refl _ | (simp; done) | (simp; omega)) (by simp) rfl | exact own_made_at _ #[] _ _ 0 _ _ (by simp) (by simp) (by simp) rfl
             case hn => (go_split_ands; exact Ints.below (m_277) (by with_reducible assumption))
             case hb => (go_split_ands; exact Below.size (by with_reducible assumption))
             intro aA_281 dA_282 wA_283 oA_284 hgA
             rw [Nat.zero_add, List.nil_append] at oA_284
             rw [Nat.zero_add]
             have bwA_283 : Below w_268.heap.size w_268 wA_283 := (by go_split_ands; exact below_growB (by with_reducible assumption) hgA hBHS_280 (fun k hk => by simp [Value.ownBlock] at hk; omega))
             skip)
          | (refine step_append_row (by rfl) _ _ _ (by rfl) w_268.heap.size 3 _ 1 8 Try.underlying27 int_info rfl (by decide) aA_281 (L1.length) dA_282 (L1.map (Value.int .i64)) (by rfl) ?ho A1.ai (d2.i.length) A1.ci (d2.i.map (Value.int .i64)) (by rfl) ?hn (by simp) (ints_one _) N1.2.2.1 (by simp only [maxLen]; omega) (by omega) ?hb ?_
             case ho => exact oA_284
             case hn => (go_split_ands; exact Ints.below ((m_276).2.1) (by with_reducible assumption))
             case hb => (go_split_ands; exact Below.size (by with_reducible assumption))
             intro aC_285 dC_286 wC_287 oC_288 hgC
             have bC_289 : Below w_268.heap.size w_268 wC_287 := (by go_split_ands; exact below_growB (by with_reducible assumption) hgC hBHS_280 (fun k hk => (oA_284.lt k hk).1))
             rw [HLL.out, ← List.map_append, HJn.out] at oC_288
             rw [HLL.out]
             clear hgA hgC bwA_283 oA_284
             skip))
      have zwC_287 := bC_289.size
      have B_290 := B_270.trans (bC_289.mono B_270.size)
      have H_291 := (bC_289.block _ (box_lt H_271)).trans H_271
      have H_292 := (bC_289.block _ (box_lt H_272)).trans H_272
      have H_293 := (bC_289.block _ (box_lt H_273)).trans H_273
      have o_294 := own_below o_274 bC_289
      have m_295 := m_275.below bC_289
      have m_296 := m_276.below bC_289
      have m_297 := m_277.below bC_289
      have m_298 := m_278.below bC_289
      have m_299 := m_279.below bC_289
      have c_300 := box_cell H_291 18 (v := .slice A.ai d.i.length A.ci) rfl
      have lc_300 := box_lt H_291
      go_wp2_with fail
      refine (sameInts_below aC_285 A.ai d.i d.i dC_286 A.ci wC_287 (own_cells oC_288) (m_295).2.1 (by omega) (by omega)).mono ?_
      rintro e w_301 ⟨rfl, b_302⟩
      have zw_301 := b_302.size
      have B_303 := B_290.trans (b_302.mono B_290.size)
      have H_304 := (b_302.block _ (box_lt H_291)).trans H_291
      have H_305 := (b_302.block _ (box_lt H_292)).trans H_292
      have H_306 := (b_302.block _ (box_lt H_293)).trans H_293
      have o_307 := own_below o_294 b_302
      have o_308 := own_below oC_288 b_302
      have m_309 := m_295.below b_302
      have m_310 := m_296.below b_302
      have m_311 := m_297.below b_302
      have m_312 := m_298.below b_302
      have m_313 := m_299.below b_302
      have c_314 := box_cell H_304 18 (v := .slice A.ai d.i.length A.ci) rfl
      have lc_314 := box_lt H_304
      have c_315 := box_cell H_304 19 (v := .slice A.ao d.o.length A.co) rfl
      have lc_315 := box_lt H_304
      have c_316 := box_cell H_305 19 (v := .slice A1.ao d2.o.length A1.co) rfl
      have lc_316 := box_lt H_305
      have HOd := Lib.hid (decide_eq_true HO2.out)
      have hmqI : (L1.length : Int) = (M : Int) := by rw [HMQ.out]
      have hlo2 := hl2.2.2.2
      go_wp2_with fail
      clear hmqI
      refine (sameInts_below A1.ao A.ao d2.o d.o A1.co A.co w_301 (m_310).2.2 (m_309).2.2 (by omega) (by omega)).mono ?_
      rintro e w_317 ⟨rfl, b_318⟩
      have zw_317 := b_318.size
      have B_319 := B_303.trans (b_318.mono B_303.size)
      have H_320 := (b_318.block _ (box_lt H_304)).trans H_304
      have H_321 := (b_318.block _ (box_lt H_305)).trans H_305
      have H_322 := (b_318.block _ (box_lt H_306)).trans H_306
      have o_323 := own_below o_307 b_318
      have o_324 := own_below o_308 b_318
      have m_325 := m_309.below b_318
      have m_326 := m_310.below b_318
      have m_327 := m_311.below b_318
      have m_328 := m_312.below b_318
      have m_329 := m_313.below b_318
      rw [HOd.out]
      go_wp2_with (first
        | (refine wpList_load_box _ rfl (by rfl) (b := w_219.heap.size) (off := 0) (n := 22) rfl H_321 Try.underlying46 (by kernel_rfl) (Nat.le_of_ble_eq_true rfl) (drvC d2 A1) rfl ?_
           skip))
      refine (implDriverValid_any d2 A1 w_317 m_326 hl2).mono ?_
      rintro e w_330 ⟨rfl, b_331⟩
      have zw_330 := b_331.size
      have B_332 := B_319.trans (b_331.mono B_319.size)
      have H_333 := (b_331.block _ (box_lt H_320)).trans H_320
      have H_334 := (b_331.block _ (box_lt H_321)).trans H_321
      have H_335 := (b_331.block _ (box_lt H_322)).trans H_322
      have o_336 := own_below o_323 b_331
      have o_337 := own_below o_324 b_331
      have m_338 := m_325.below b_331
      have m_339 := m_326.below b_331
      have m_340 := m_327.below b_331
      have m_341 := m_328.below b_331
      have m_342 := m_329.below b_331
      rw [HV.out]
      go_wp2
      go_ret
      exact ⟨rfl, B_332⟩

set_option linter.unusedVariables false in
set_option maxRecDepth 100000 in
theorem FnDriverTake_lifted (os : Os) (started : os.Started) (H : Type) (enc : TypeId × Value → H) :
    ReturnsInHanded {} Try.checked os 5 .any (Rows.fnDriverTakeSpec.pre6 enc Try.prog Try.f5 Rows.fnDriverTakeRow.domain false) (Rows.fnDriverTakeSpec.post enc Try.prog Try.f5 false true false false) := by
  refine returnsInHanded_of_change (C := Try.checked) own_knob started (by kernel_rfl) Try.func5
    (ChangeSpec.witness6 (enc := enc) (C := Try.checked) false ⟨#[], #[.slice none 0 0], []⟩ 8 (by kernel_rfl) (by kernel_rfl) (by kernel_rfl) (by kernel_rfl)) ?_
  intro W base args ds gs before hval0 hW hcnd _
  have hval : ∀ (j : Nat) t v, Try.f5.params[j]? = some t → args[j]? = some v → Value.okWide Try.prog W .any base t v := hval0
  have hW' := hW
  obtain ⟨p, q, hA0, hV, rfl, hfz, hnd⟩ := hW
  have hA : DataW.TrodAll enc Try.prog W 0 (fun _ => true) true Try.f5.params.toList args.toList ds p := hA0
  rw [Try.params5] at hA hval
  obtain ⟨v0, vs0, d0, ds0, p0, q0, hargs, rfl, rfl, h0, r0⟩ := trodAll_cons hA
  obtain ⟨rfl, rfl, rfl⟩ := trodAll_nil r0
  obtain rfl : args = #[v0] := by cases args; simp_all
  obtain ⟨rfl, rfl⟩ := trodVars_none hV
  have k0 := h0
  have lt0 : ∀ x ∈ p0, x.block < W.heap.size := by obtain ⟨m, hm⟩ := k0; exact DataW.trod_lt m _ _ _ hm
  obtain ⟨a0, len0, cap0, rfl⟩ := okWide_slice Try.underlying59 (hval 0 59 v0 rfl rfl)
  obtain ⟨z0, rfl, lc0, lm0, rz0⟩ : ∃ z : List Int, len0 = z.length ∧ z.length ≤ cap0 ∧ cap0 ≤ maxLen ∧ Bytes W a0 z := by
    obtain ⟨fuel, hf⟩ := h0
    obtain ⟨ao, cap, z, e, h1, h2, h3⟩ := rd_bytes hf
    simp [Value.cells] at e
    obtain ⟨rfl, rfl, rfl⟩ := e
    exact ⟨z, rfl, h1, h2, h3⟩
  have lb0 : z0.length ≤ cap0 := lc0
  clear hA0 hval0
  refine (FnDriverTake_walk a0 z0 cap0 W rz0 lc0 lm0).mono fun e W' ⟨he, bel⟩ => ?_
  subst he
  exact ⟨_, rfl, _, _, _, [], _, [], hW', trodAll_mk1 (shut_bool Try.underlying4 _), (trodAll_cons_mk (Below.trod laid_out (by kernel_rfl) (of_decide_eq_true (by kernel_rfl)) k0 bel lt0) trodAll_mk0), rfl, bel.frame _, fun h => by cases h⟩

theorem FnDriverTake_holds : Rows.FnDriverTakeSaid :=
  OpenClaim.holds_of_wide 5 Try.f5 rfl rfl rfl rfl rfl rfl rfl ⟨rfl, rfl, rfl, rfl, rfl⟩ rfl rfl rfl rfl rfl (by kernel_rfl) Try.func5 (by kernel_rfl)
    (of_decide_eq_true (by kernel_rfl)) (by unfold Func.isWrapper; first | (rw [if_pos (by decide +kernel)]; kernel_rfl) | (rw [if_neg (by decide +kernel)]; exact ⟨rfl, rfl⟩))
    (fun os started H enc _ => FnDriverTake_lifted os started H enc)
end Go.Proofs.Ytkmampichfbppaa
