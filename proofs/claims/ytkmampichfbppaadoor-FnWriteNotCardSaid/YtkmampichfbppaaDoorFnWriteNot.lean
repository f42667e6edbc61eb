/- FnWriteNot: Some registers are only read. No conditions beyond the statement's own. -/
import Derived.Test.YtkmampichfbppaaDoorWriteLaw
import Derived.Test.YtkmampichfbppaaDoorCard
import Derived.Test.YtkmampichfbppaaDoorCards
import Derived.Test.YtkmampichfbppaaDoorTie
import Derived.SevenTiedAt
namespace Go.Proofs.YtkmampichfbppaaDoor
open Go Go.ChangeShapes Go.WideShapes Go.ChangeAt Go.RowKit

set_option maxHeartbeats 4000000 in
set_option maxRecDepth 100000 in
theorem FnWriteNot_walk (a0 : Option Addr) (z0 : List Int) (cap0 : Nat) (a : Addr) (w : World) (rz0 : Bytes w a0 z0) (lc0 : z0.length ≤ cap0) (_lm0 : cap0 ≤ maxLen) (hE : Sent w a) :
    Calls Tryd.prog 5 #[.slice a0 z0.length cap0] w fun e w' => e = .returned (.bool true) ∧ Below w.heap.size w w' := by
  unfold maxLen at _lm0
  by_cases hn0 : (z0.length : Int) ≤ 1048576
  case neg =>
    have hn0' : (1048576 : Int) < (z0.length : Int) := by omega
    go_enter Tryd.func5, Tryd.ntmps5
    go_wp2
    go_ret
    exact ⟨rfl, Below.refl _ _⟩
  go_enter Tryd.func5, Tryd.ntmps5
  have B0 : Below w.heap.size w w := Below.refl _ _
  go_wp2_with fail
  refine (drawPortWrite_any a0 z0 cap0 w rz0 lc0 (by omega)).mono ?_
  rintro e w_1 ⟨d, A, reg, v, rfl, lg, ly, Ox, Oy, b_2⟩
  have zw_1 := b_2.size
  have B_3 := B0.trans (b_2.mono B0.size)
  have hm : PortM _ d A := ⟨own_cells Ox, own_cells Oy⟩
  have hX := Lib.hid (own_nilcap Ox)
  have hY := Lib.hid (own_nilcap Oy)
  clear Ox Oy
  rcases write_cases d reg v with hR | ⟨d2, hR, hv2, hv, hw⟩
  · have HI := Lib.hid (fun x (e : Sent x a) h => write_at hR (implPortWrite_any d A _ v a x e h (by omega) (by omega) hX.out hY.out))
    have HJ := Lib.hid (fun x h => write_at hR (specPortWrite_any d A _ v x h (by omega) (by omega) hX.out hY.out))
    go_wp2_with (first
      | (go_skip; skip)
      | (refine wpList_store_any _ rfl rfl (by rfl) (b := w_1.heap.size) (off := 0) (n := 18) rfl rfl (vs := portC d A) rfl (heap_new_at w_1 (.cells (portC zPort zPortA) 34) _ rfl) (by kernel_rfl) rfl rfl (Nat.le_of_ble_eq_true rfl) (portC d A) rfl ?_
         intro w_4 H_5 g_6
         have b_7 : Below w_1.heap.size w_1 w_4 := below_only ((Below.refl _ _).alloc (Nat.le_refl _) _) g_6 (Nat.le_refl _)
         have zw_4 := b_7.size
         have B_8 := B_3.trans (b_7.mono B_3.size)
         have lH_5 := box_lt H_5
         have m_9 := hm.below b_7
         skip)
      | (refine wpList_load_box _ rfl (by rfl) (b := w_1.heap.size) (off := 0) (n := 18) rfl H_5 Tryd.underlying34 (by kernel_rfl) (Nat.le_of_ble_eq_true rfl) (portC d A) rfl ?_
         skip))
    refine (HI.out w_4 (hE.below B_8) m_9).mono ?_
    rintro e w_10 ⟨A1, rfl, Ox1, Oy1, b_11⟩
    have zw_10 := b_11.size
    have B_12 := B_8.trans (b_11.mono B_8.size)
    have H_13 := (b_11.block _ (box_lt H_5)).trans H_5
    have m_14 := m_9.below b_11
    have n1 : PortM _ zPort A1 := ⟨own_cells Ox1, own_cells Oy1⟩
    clear Ox1 Oy1
    go_wp2_with (first
      | (go_skip; skip)
      | (refine wpList_store_any _ rfl rfl (by rfl) (b := w_10.heap.size) (off := 0) (n := 18) rfl rfl (vs := portC zPort A1) rfl (heap_new_at w_10 (.cells (portC zPort zPortA) 34) _ rfl) (by kernel_rfl) rfl rfl (Nat.le_of_ble_eq_true rfl) (portC zPort A1) rfl ?_
         intro w_15 H_16 g_17
         have b_18 : Below w_10.heap.size w_10 w_15 := below_only ((Below.refl _ _).alloc (Nat.le_refl _) _) g_17 (Nat.le_refl _)
         have zw_15 := b_18.size
         have B_19 := B_12.trans (b_18.mono B_12.size)
         have lH_16 := box_lt H_16
         have H_20 := (b_18.block _ (box_lt H_13)).trans H_13
         have m_21 := m_14.below b_18
         have m_22 := n1.below b_18
         skip)
      | (refine wpList_load_box _ rfl (by rfl) (b := w_1.heap.size) (off := 0) (n := 18) rfl H_20 Tryd.underlying34 (by kernel_rfl) (Nat.le_of_ble_eq_true rfl) (portC d A) rfl ?_
         skip))
    refine (HJ.out w_15 m_21).mono ?_
    rintro e w_23 ⟨A2, rfl, Ox2, Oy2, b_24⟩
    have zw_23 := b_24.size
    have B_25 := B_19.trans (b_24.mono B_19.size)
    have H_26 := (b_24.block _ (box_lt H_20)).trans H_20
    have H_27 := (b_24.block _ (box_lt H_16)).trans H_16
    have m_28 := m_21.below b_24
    have m_29 := m_22.below b_24
    have n2 : PortM _ zPort A2 := ⟨own_cells Ox2, own_cells Oy2⟩
    clear Ox2 Oy2
    have lz1 : zPort.gs.length ≤ 1048576 := by decide
    have lz2 : zPort.ys.length ≤ 1048576 := by decide
    go_wp2_with (first
      | (go_skip; skip)
      | (refine wpList_store_any _ rfl rfl (by rfl) (b := w_23.heap.size) (off := 0) (n := 18) rfl rfl (vs := portC zPort A2) rfl (heap_new_at w_23 (.cells (portC zPort zPortA) 34) _ rfl) (by kernel_rfl) rfl rfl (Nat.le_of_ble_eq_true rfl) (portC zPort A2) rfl ?_
         intro w_30 H_31 g_32
         have b_33 : Below w_23.heap.size w_23 w_30 := below_only ((Below.refl _ _).alloc (Nat.le_refl _) _) g_32 (Nat.le_refl _)
         have zw_30 := b_33.size
         have B_34 := B_25.trans (b_33.mono B_25.size)
         have lH_31 := box_lt H_31
         have H_35 := (b_33.block _ (box_lt H_26)).trans H_26
         have H_36 := (b_33.block _ (box_lt H_27)).trans H_27
         have m_37 := m_28.below b_33
         have m_38 := m_29.below b_33
         have m_39 := n2.below b_33
         skip)
      | (refine wpList_load_box _ rfl (by rfl) (b := w_10.heap.size) (off := 0) (n := 18) rfl H_36 Tryd.underlying34 (by kernel_rfl) (Nat.le_of_ble_eq_true rfl) (portC zPort A1) rfl ?_
         skip)
      | (refine wpList_load_box _ rfl (by rfl) (b := w_23.heap.size) (off := 0) (n := 18) rfl H_31 Tryd.underlying34 (by kernel_rfl) (Nat.le_of_ble_eq_true rfl) (portC zPort A2) rfl ?_
         skip))
    refine (samePort_eq zPort A1 A2 w_30 m_38 m_39 lz1 lz2).mono ?_
    rintro e w_40 ⟨rfl, b_41⟩
    have zw_40 := b_41.size
    have B_42 := B_34.trans (b_41.mono B_34.size)
    have H_43 := (b_41.block _ (box_lt H_35)).trans H_35
    have H_44 := (b_41.block _ (box_lt H_36)).trans H_36
    have H_45 := (b_41.block _ (box_lt H_31)).trans H_31
    have m_46 := m_37.below b_41
    have m_47 := m_38.below b_41
    have m_48 := m_39.below b_41
    go_wp2_with (first
      | (go_skip; skip)
      | (refine wpList_load_box _ rfl (by rfl) (b := w_10.heap.size) (off := 0) (n := 18) rfl H_44 Tryd.underlying34 (by kernel_rfl) (Nat.le_of_ble_eq_true rfl) (portC zPort A1) rfl ?_
         skip)
      | (refine wpList_load_box _ rfl (by rfl) (b := w_23.heap.size) (off := 0) (n := 18) rfl H_45 Tryd.underlying34 (by kernel_rfl) (Nat.le_of_ble_eq_true rfl) (portC zPort A2) rfl ?_
         skip))
    refine (samePort_eq zPort A1 A2 w_40 m_47 m_48 lz1 lz2).mono ?_
    rintro e w_49 ⟨rfl, b_50⟩
    have zw_49 := b_50.size
    have B_51 := B_42.trans (b_50.mono B_42.size)
    have H_52 := (b_50.block _ (box_lt H_43)).trans H_43
    have H_53 := (b_50.block _ (box_lt H_44)).trans H_44
    have H_54 := (b_50.block _ (box_lt H_45)).trans H_45
    have m_55 := m_46.below b_50
    have m_56 := m_47.below b_50
    have m_57 := m_48.below b_50
    go_wp2
    go_ret
    exact ⟨rfl, B_51⟩
  · rcases wrote_cases hw with ⟨rfl, hs, rfl⟩ | ⟨rfl, rfl⟩ | ⟨rfl, rfl⟩ | ⟨rfl, rfl⟩
    · clear hw
      obtain ⟨YS, hYS⟩ : ∃ YS, YS = d.ys ++ [v] := ⟨_, rfl⟩
      have hYL : YS.length = d.ys.length + 1 := by rw [hYS]; simp
      have hYa := Nat.le_of_eq hYL
      clear hYL
      have hSR := sputR_yes hs
      rw [← hYS] at hR hv2 hSR
      clear hYS
      have HV2 := Lib.hid hv2
      clear hv2
      have HI := Lib.hid (fun x (e : Sent x a) h => write_at hR (implPortWrite_any d A _ v a x e h (by omega) (by omega) hX.out hY.out))
      have HJ := Lib.hid (fun x h => write_at hR (specPortWrite_any d A _ v x h (by omega) (by omega) hX.out hY.out))
      clear hR
      go_wp2_with (first
        | (go_skip; skip)
        | (refine wpList_store_any _ rfl rfl (by rfl) (b := w_1.heap.size) (off := 0) (n := 18) rfl rfl (vs := portC d A) rfl (heap_new_at w_1 (.cells (portC zPort zPortA) 34) _ rfl) (by kernel_rfl) rfl rfl (Nat.le_of_ble_eq_true rfl) (portC d A) rfl ?_
           intro w_4 H_5 g_6
           have b_7 : Below w_1.heap.size w_1 w_4 := below_only ((Below.refl _ _).alloc (Nat.le_refl _) _) g_6 (Nat.le_refl _)
           have zw_4 := b_7.size
           have B_8 := B_3.trans (b_7.mono B_3.size)
           have lH_5 := box_lt H_5
           have m_9 := hm.below b_7
           skip)
        | (refine wpList_load_box _ rfl (by rfl) (b := w_1.heap.size) (off := 0) (n := 18) rfl H_5 Tryd.underlying34 (by kernel_rfl) (Nat.le_of_ble_eq_true rfl) (portC d A) rfl ?_
           skip))
      refine (HI.out w_4 (hE.below B_8) m_9).mono ?_
      rintro e w_58 ⟨A1, rfl, Ox1, Oy1, b_59⟩
      have zw_58 := b_59.size
      have B_60 := B_8.trans (b_59.mono B_8.size)
      have H_61 := (b_59.block _ (box_lt H_5)).trans H_5
      have m_62 := m_9.below b_59
      have n1 : PortM _ { d with ys := YS } A1 := ⟨own_cells Ox1, own_cells Oy1⟩
      clear Ox1 Oy1
      go_wp2_with (first
        | (go_skip; skip)
        | (refine wpList_store_any _ rfl rfl (by rfl) (b := w_58.heap.size) (off := 0) (n := 18) rfl rfl (vs := portC { d with ys := YS } A1) rfl (heap_new_at w_58 (.cells (portC zPort zPortA) 34) _ rfl) (by kernel_rfl) rfl rfl (Nat.le_of_ble_eq_true rfl) (portC { d with ys := YS } A1) rfl ?_
           intro w_63 H_64 g_65
           have b_66 : Below w_58.heap.size w_58 w_63 := below_only ((Below.refl _ _).alloc (Nat.le_refl _) _) g_65 (Nat.le_refl _)
           have zw_63 := b_66.size
           have B_67 := B_60.trans (b_66.mono B_60.size)
           have lH_64 := box_lt H_64
           have H_68 := (b_66.block _ (box_lt H_61)).trans H_61
           have m_69 := m_62.below b_66
           have m_70 := n1.below b_66
           skip)
        | (refine wpList_load_box _ rfl (by rfl) (b := w_1.heap.size) (off := 0) (n := 18) rfl H_68 Tryd.underlying34 (by kernel_rfl) (Nat.le_of_ble_eq_true rfl) (portC d A) rfl ?_
           skip))
      refine (HJ.out w_63 m_69).mono ?_
      rintro e w_71 ⟨A2, rfl, Ox2, Oy2, b_72⟩
      have zw_71 := b_72.size
      have B_73 := B_67.trans (b_72.mono B_67.size)
      have H_74 := (b_72.block _ (box_lt H_68)).trans H_68
      have H_75 := (b_72.block _ (box_lt H_64)).trans H_64
      have m_76 := m_69.below b_72
      have m_77 := m_70.below b_72
      have n2 : PortM _ { d with ys := YS } A2 := ⟨own_cells Ox2, own_cells Oy2⟩
      clear Ox2 Oy2
      go_wp2_with (first
        | (go_skip; skip)
        | (refine wpList_store_any _ rfl rfl (by rfl) (b := w_71.heap.size) (off := 0) (n := 18) rfl rfl (vs := portC { d with ys := YS } A2) rfl (heap_new_at w_71 (.cells (portC zPort zPortA) 34) _ rfl) (by kernel_rfl) rfl rfl (Nat.le_of_ble_eq_true rfl) (portC { d with ys := YS } A2) rfl ?_
           intro w_78 H_79 g_80
           have b_81 : Below w_71.heap.size w_71 w_78 := below_only ((Below.refl _ _).alloc (Nat.le_refl _) _) g_80 (Nat.le_refl _)
           have zw_78 := b_81.size
           have B_82 := B_73.trans (b_81.mono B_73.size)
           have lH_79 := box_lt H_79
           have H_83 := (b_81.block _ (box_lt H_74)).trans H_74
           have H_84 := (b_81.block _ (box_lt H_75)).trans H_75
           have m_85 := m_76.below b_81
           have m_86 := m_77.below b_81
           have m_87 := n2.below b_81
           skip)
        | (refine wpList_load_box _ rfl (by rfl) (b := w_58.heap.size) (off := 0) (n := 18) rfl H_84 Tryd.underlying34 (by kernel_rfl) (Nat.le_of_ble_eq_true rfl) (portC { d with ys := YS } A1) rfl ?_
           skip)
        | (refine wpList_load_box _ rfl (by rfl) (b := w_71.heap.size) (off := 0) (n := 18) rfl H_79 Tryd.underlying34 (by kernel_rfl) (Nat.le_of_ble_eq_true rfl) (portC { d with ys := YS } A2) rfl ?_
           skip))
      refine (samePort_eq { d with ys := YS } A1 A2 w_78 m_86 m_87 (by dsimp only; omega) (by dsimp only; omega)).mono ?_
      rintro e w_88 ⟨rfl, b_89⟩
      have zw_88 := b_89.size
      have B_90 := B_82.trans (b_89.mono B_82.size)
      have H_91 := (b_89.block _ (box_lt H_83)).trans H_83
      have H_92 := (b_89.block _ (box_lt H_84)).trans H_84
      have H_93 := (b_89.block _ (box_lt H_79)).trans H_79
      have m_94 := m_85.below b_89
      have m_95 := m_86.below b_89
      have m_96 := m_87.below b_89
      have hro := write_ro d v
      have HN0 := Lib.hid (fun x (e : Sent x a) h => write_at hro.1 (implPortWrite_any d A 2 v a x e h (by omega) (by omega) hX.out hY.out))
      go_wp2_with (first
        | (go_skip; skip)
        | (refine wpList_load_box _ rfl (by rfl) (b := w_1.heap.size) (off := 0) (n := 18) rfl H_91 Tryd.underlying34 (by kernel_rfl) (Nat.le_of_ble_eq_true rfl) (portC d A) rfl ?_
           skip))
      refine (HN0.out w_88 (hE.below B_90) m_94).mono ?_
      rintro e w_97 ⟨B0, rfl, _, _, b_98⟩
      have zw_97 := b_98.size
      have B_99 := B_90.trans (b_98.mono B_90.size)
      have H_100 := (b_98.block _ (box_lt H_91)).trans H_91
      have H_101 := (b_98.block _ (box_lt H_92)).trans H_92
      have H_102 := (b_98.block _ (box_lt H_93)).trans H_93
      have m_103 := m_94.below b_98
      have m_104 := m_95.below b_98
      have m_105 := m_96.below b_98
      have HN1 := Lib.hid (fun x (e : Sent x a) h => write_at hro.2.1 (implPortWrite_any d A 5 v a x e h (by omega) (by omega) hX.out hY.out))
      go_wp2_with (first
        | (go_skip; skip)
        | (refine wpList_store_any _ rfl rfl (by rfl) (b := w_97.heap.size) (off := 0) (n := 18) rfl rfl (vs := portC zPort B0) rfl (heap_new_at w_97 (.cells (portC zPort zPortA) 34) _ rfl) (by kernel_rfl) rfl rfl (Nat.le_of_ble_eq_true rfl) (portC zPort B0) rfl ?_
           intro w_106 H_107 g_108
           have b_109 : Below w_97.heap.size w_97 w_106 := below_only ((Below.refl _ _).alloc (Nat.le_refl _) _) g_108 (Nat.le_refl _)
           have zw_106 := b_109.size
           have B_110 := B_99.trans (b_109.mono B_99.size)
           have lH_107 := box_lt H_107
           have H_111 := (b_109.block _ (box_lt H_100)).trans H_100
           have H_112 := (b_109.block _ (box_lt H_101)).trans H_101
           have H_113 := (b_109.block _ (box_lt H_102)).trans H_102
           have m_114 := m_103.below b_109
           have m_115 := m_104.below b_109
           have m_116 := m_105.below b_109
           skip)
        | (refine wpList_load_box _ rfl (by rfl) (b := w_1.heap.size) (off := 0) (n := 18) rfl H_111 Tryd.underlying34 (by kernel_rfl) (Nat.le_of_ble_eq_true rfl) (portC d A) rfl ?_
           skip))
      refine (HN1.out w_106 (hE.below B_110) m_114).mono ?_
      rintro e w_117 ⟨B1, rfl, _, _, b_118⟩
      have zw_117 := b_118.size
      have B_119 := B_110.trans (b_118.mono B_110.size)
      have H_120 := (b_118.block _ (box_lt H_111)).trans H_111
      have H_121 := (b_118.block _ (box_lt H_112)).trans H_112
      have H_122 := (b_118.block _ (box_lt H_113)).trans H_113
      have H_123 := (b_118.block _ (box_lt H_107)).trans H_107
      have m_124 := m_114.below b_118
      have m_125 := m_115.below b_118
      have m_126 := m_116.below b_118
      have HN2 := Lib.hid (fun x (e : Sent x a) h => write_at hro.2.2 (implPortWrite_any d A 6 v a x e h (by omega) (by omega) hX.out hY.out))
      go_wp2_with (first
        | (go_skip; skip)
        | (refine wpList_store_any _ rfl rfl (by rfl) (b := w_117.heap.size) (off := 0) (n := 18) rfl rfl (vs := portC zPort B1) rfl (heap_new_at w_117 (.cells (portC zPort zPortA) 34) _ rfl) (by kernel_rfl) rfl rfl (Nat.le_of_ble_eq_true rfl) (portC zPort B1) rfl ?_
           intro w_127 H_128 g_129
           have b_130 : Below w_117.heap.size w_117 w_127 := below_only ((Below.refl _ _).alloc (Nat.le_refl _) _) g_129 (Nat.le_refl _)
           have zw_127 := b_130.size
           have B_131 := B_119.trans (b_130.mono B_119.size)
           have lH_128 := box_lt H_128
           have H_132 := (b_130.block _ (box_lt H_120)).trans H_120
           have H_133 := (b_130.block _ (box_lt H_121)).trans H_121
           have H_134 := (b_130.block _ (box_lt H_122)).trans H_122
           have H_135 := (b_130.block _ (box_lt H_123)).trans H_123
           have m_136 := m_124.below b_130
           have m_137 := m_125.below b_130
           have m_138 := m_126.below b_130
           skip)
        | (refine wpList_load_box _ rfl (by rfl) (b := w_1.heap.size) (off := 0) (n := 18) rfl H_132 Tryd.underlying34 (by kernel_rfl) (Nat.le_of_ble_eq_true rfl) (portC d A) rfl ?_
           skip))
      refine (HN2.out w_127 (hE.below B_131) m_136).mono ?_
      rintro e w_139 ⟨B2, rfl, _, _, b_140⟩
      have zw_139 := b_140.size
      have B_141 := B_131.trans (b_140.mono B_131.size)
      have H_142 := (b_140.block _ (box_lt H_132)).trans H_132
      have H_143 := (b_140.block _ (box_lt H_133)).trans H_133
      have H_144 := (b_140.block _ (box_lt H_134)).trans H_134
      have H_145 := (b_140.block _ (box_lt H_135)).trans H_135
      have H_146 := (b_140.block _ (box_lt H_128)).trans H_128
      have m_147 := m_136.below b_140
      have m_148 := m_137.below b_140
      have m_149 := m_138.below b_140
      go_wp2_with (first
        | (go_skip; skip)
        | (refine wpList_store_any _ rfl rfl (by rfl) (b := w_139.heap.size) (off := 0) (n := 18) rfl rfl (vs := portC zPort B2) rfl (heap_new_at w_139 (.cells (portC zPort zPortA) 34) _ rfl) (by kernel_rfl) rfl rfl (Nat.le_of_ble_eq_true rfl) (portC zPort B2) rfl ?_
           intro w_150 H_151 g_152
           have b_153 : Below w_139.heap.size w_139 w_150 := below_only ((Below.refl _ _).alloc (Nat.le_refl _) _) g_152 (Nat.le_refl _)
           have zw_150 := b_153.size
           have B_154 := B_141.trans (b_153.mono B_141.size)
           have lH_151 := box_lt H_151
           have H_155 := (b_153.block _ (box_lt H_142)).trans H_142
           have H_156 := (b_153.block _ (box_lt H_143)).trans H_143
           have H_157 := (b_153.block _ (box_lt H_144)).trans H_144
           have H_158 := (b_153.block _ (box_lt H_145)).trans H_145
           have H_159 := (b_153.block _ (box_lt H_146)).trans H_146
           have m_160 := m_147.below b_153
           have m_161 := m_148.below b_153
           have m_162 := m_149.below b_153
           skip))
      go_ret
      exact ⟨rfl, B_154⟩
    · clear hw
      have HV2 := Lib.hid hv2
      clear hv2
      have HI := Lib.hid (fun x (e : Sent x a) h => write_at hR (implPortWrite_any d A _ v a x e h (by omega) (by omega) hX.out hY.out))
      have HJ := Lib.hid (fun x h => write_at hR (specPortWrite_any d A _ v x h (by omega) (by omega) hX.out hY.out))
      clear hR
      go_wp2_with (first
        | (go_skip; skip)
        | (refine wpList_store_any _ rfl rfl (by rfl) (b := w_1.heap.size) (off := 0) (n := 18) rfl rfl (vs := portC d A) rfl (heap_new_at w_1 (.cells (portC zPort zPortA) 34) _ rfl) (by kernel_rfl) rfl rfl (Nat.le_of_ble_eq_true rfl) (portC d A) rfl ?_
           intro w_4 H_5 g_6
           have b_7 : Below w_1.heap.size w_1 w_4 := below_only ((Below.refl _ _).alloc (Nat.le_refl _) _) g_6 (Nat.le_refl _)
           have zw_4 := b_7.size
           have B_8 := B_3.trans (b_7.mono B_3.size)
           have lH_5 := box_lt H_5
           have m_9 := hm.below b_7
           skip)
        | (refine wpList_load_box _ rfl (by rfl) (b := w_1.heap.size) (off := 0) (n := 18) rfl H_5 Tryd.underlying34 (by kernel_rfl) (Nat.le_of_ble_eq_true rfl) (portC d A) rfl ?_
           skip))
      refine (HI.out w_4 (hE.below B_8) m_9).mono ?_
      rintro e w_163 ⟨A1, rfl, Ox1, Oy1, b_164⟩
      have zw_163 := b_164.size
      have B_165 := B_8.trans (b_164.mono B_8.size)
      have H_166 := (b_164.block _ (box_lt H_5)).trans H_5
      have m_167 := m_9.below b_164
      have n1 : PortM _ { d with en := v } A1 := ⟨own_cells Ox1, own_cells Oy1⟩
      clear Ox1 Oy1
      go_wp2_with (first
        | (go_skip; skip)
        | (refine wpList_store_any _ rfl rfl (by rfl) (b := w_163.heap.size) (off := 0) (n := 18) rfl rfl (vs := portC { d with en := v } A1) rfl (heap_new_at w_163 (.cells (portC zPort zPortA) 34) _ rfl) (by kernel_rfl) rfl rfl (Nat.le_of_ble_eq_true rfl) (portC { d with en := v } A1) rfl ?_
           intro w_168 H_169 g_170
           have b_171 : Below w_163.heap.size w_163 w_168 := below_only ((Below.refl _ _).alloc (Nat.le_refl _) _) g_170 (Nat.le_refl _)
           have zw_168 := b_171.size
           have B_172 := B_165.trans (b_171.mono B_165.size)
           have lH_169 := box_lt H_169
           have H_173 := (b_171.block _ (box_lt H_166)).trans H_166
           have m_174 := m_167.below b_171
           have m_175 := n1.below b_171
           skip)
        | (refine wpList_load_box _ rfl (by rfl) (b := w_1.heap.size) (off := 0) (n := 18) rfl H_173 Tryd.underlying34 (by kernel_rfl) (Nat.le_of_ble_eq_true rfl) (portC d A) rfl ?_
           skip))
      refine (HJ.out w_168 m_174).mono ?_
      rintro e w_176 ⟨A2, rfl, Ox2, Oy2, b_177⟩
      have zw_176 := b_177.size
      have B_178 := B_172.trans (b_177.mono B_172.size)
      have H_179 := (b_177.block _ (box_lt H_173)).trans H_173
      have H_180 := (b_177.block _ (box_lt H_169)).trans H_169
      have m_181 := m_174.below b_177
      have m_182 := m_175.below b_177
      have n2 : PortM _ { d with en := v } A2 := ⟨own_cells Ox2, own_cells Oy2⟩
      clear Ox2 Oy2
      go_wp2_with (first
        | (go_skip; skip)
        | (refine wpList_store_any _ rfl rfl (by rfl) (b := w_176.heap.size) (off := 0) (n := 18) rfl rfl (vs := portC { d with en := v } A2) rfl (heap_new_at w_176 (.cells (portC zPort zPortA) 34) _ rfl) (by kernel_rfl) rfl rfl (Nat.le_of_ble_eq_true rfl) (portC { d with en := v } A2) rfl ?_
           intro w_183 H_184 g_185
           have b_186 : Below w_176.heap.size w_176 w_183 := below_only ((Below.refl _ _).alloc (Nat.le_refl _) _) g_185 (Nat.le_refl _)
           have zw_183 := b_186.size
           have B_187 := B_178.trans (b_186.mono B_178.size)
           have lH_184 := box_lt H_184
           have H_188 := (b_186.block _ (box_lt H_179)).trans H_179
           have H_189 := (b_186.block _ (box_lt H_180)).trans H_180
           have m_190 := m_181.below b_186
           have m_191 := m_182.below b_186
           have m_192 := n2.below b_186
           skip)
        | (refine wpList_load_box _ rfl (by rfl) (b := w_163.heap.size) (off := 0) (n := 18) rfl H_189 Tryd.underlying34 (by kernel_rfl) (Nat.le_of_ble_eq_true rfl) (portC { d with en := v } A1) rfl ?_
           skip)
        | (refine wpList_load_box _ rfl (by rfl) (b := w_176.heap.size) (off := 0) (n := 18) rfl H_184 Tryd.underlying34 (by kernel_rfl) (Nat.le_of_ble_eq_true rfl) (portC { d with en := v } A2) rfl ?_
           skip))
      refine (samePort_eq { d with en := v } A1 A2 w_183 m_191 m_192 (by dsimp only; omega) (by dsimp only; omega)).mono ?_
      rintro e w_193 ⟨rfl, b_194⟩
      have zw_193 := b_194.size
      have B_195 := B_187.trans (b_194.mono B_187.size)
      have H_196 := (b_194.block _ (box_lt H_188)).trans H_188
      have H_197 := (b_194.block _ (box_lt H_189)).trans H_189
      have H_198 := (b_194.block _ (box_lt H_184)).trans H_184
      have m_199 := m_190.below b_194
      have m_200 := m_191.below b_194
      have m_201 := m_192.below b_194
      have hro := write_ro d v
      have HN0 := Lib.hid (fun x (e : Sent x a) h => write_at hro.1 (implPortWrite_any d A 2 v a x e h (by omega) (by omega) hX.out hY.out))
      go_wp2_with (first
        | (go_skip; skip)
        | (refine wpList_load_box _ rfl (by rfl) (b := w_1.heap.size) (off := 0) (n := 18) rfl H_196 Tryd.underlying34 (by kernel_rfl) (Nat.le_of_ble_eq_true rfl) (portC d A) rfl ?_
           skip))
      refine (HN0.out w_193 (hE.below B_195) m_199).mono ?_
      rintro e w_202 ⟨B0, rfl, _, _, b_203⟩
      have zw_202 := b_203.size
      have B_204 := B_195.trans (b_203.mono B_195.size)
      have H_205 := (b_203.block _ (box_lt H_196)).trans H_196
      have H_206 := (b_203.block _ (box_lt H_197)).trans H_197
      have H_207 := (b_203.block _ (box_lt H_198)).trans H_198
      have m_208 := m_199.below b_203
      have m_209 := m_200.below b_203
      have m_210 := m_201.below b_203
      have HN1 := Lib.hid (fun x (e : Sent x a) h => write_at hro.2.1 (implPortWrite_any d A 5 v a x e h (by omega) (by omega) hX.out hY.out))
      go_wp2_with (first
        | (go_skip; skip)
        | (refine wpList_store_any _ rfl rfl (by rfl) (b := w_202.heap.size) (off := 0) (n := 18) rfl rfl (vs := portC zPort B0) rfl (heap_new_at w_202 (.cells (portC zPort zPortA) 34) _ rfl) (by kernel_rfl) rfl rfl (Nat.le_of_ble_eq_true rfl) (portC zPort B0) rfl ?_
           intro w_211 H_212 g_213
           have b_214 : Below w_202.heap.size w_202 w_211 := below_only ((Below.refl _ _).alloc (Nat.le_refl _) _) g_213 (Nat.le_refl _)
           have zw_211 := b_214.size
           have B_215 := B_204.trans (b_214.mono B_204.size)
           have lH_212 := box_lt H_212
           have H_216 := (b_214.block _ (box_lt H_205)).trans H_205
           have H_217 := (b_214.block _ (box_lt H_206)).trans H_206
           have H_218 := (b_214.block _ (box_lt H_207)).trans H_207
           have m_219 := m_208.below b_214
           have m_220 := m_209.below b_214
           have m_221 := m_210.below b_214
           skip)
        | (refine wpList_load_box _ rfl (by rfl) (b := w_1.heap.size) (off := 0) (n := 18) rfl H_216 Tryd.underlying34 (by kernel_rfl) (Nat.le_of_ble_eq_true rfl) (portC d A) rfl ?_
           skip))
      refine (HN1.out w_211 (hE.below B_215) m_219).mono ?_
      rintro e w_222 ⟨B1, rfl, _, _, b_223⟩
      have zw_222 := b_223.size
      have B_224 := B_215.trans (b_223.mono B_215.size)
      have H_225 := (b_223.block _ (box_lt H_216)).trans H_216
      have H_226 := (b_223.block _ (box_lt H_217)).trans H_217
      have H_227 := (b_223.block _ (box_lt H_218)).trans H_218
      have H_228 := (b_223.block _ (box_lt H_212)).trans H_212
      have m_229 := m_219.below b_223
      have m_230 := m_220.below b_223
      have m_231 := m_221.below b_223
      have HN2 := Lib.hid (fun x (e : Sent x a) h => write_at hro.2.2 (implPortWrite_any d A 6 v a x e h (by omega) (by omega) hX.out hY.out))
      go_wp2_with (first
        | (go_skip; skip)
        | (refine wpList_store_any _ rfl rfl (by rfl) (b := w_222.heap.size) (off := 0) (n := 18) rfl rfl (vs := portC zPort B1) rfl (heap_new_at w_222 (.cells (portC zPort zPortA) 34) _ rfl) (by kernel_rfl) rfl rfl (Nat.le_of_ble_eq_true rfl) (portC zPort B1) rfl ?_
           intro w_232 H_233 g_234
           have b_235 : Below w_222.heap.size w_222 w_232 := below_only ((Below.refl _ _).alloc (Nat.le_refl _) _) g_234 (Nat.le_refl _)
           have zw_232 := b_235.size
           have B_236 := B_224.trans (b_235.mono B_224.size)
           have lH_233 := box_lt H_233
           have H_237 := (b_235.block _ (box_lt H_225)).trans H_225
           have H_238 := (b_235.block _ (box_lt H_226)).trans H_226
           have H_239 := (b_235.block _ (box_lt H_227)).trans H_227
           have H_240 := (b_235.block _ (box_lt H_228)).trans H_228
           have m_241 := m_229.below b_235
           have m_242 := m_230.below b_235
           have m_243 := m_231.below b_235
           skip)
        | (refine wpList_load_box _ rfl (by rfl) (b := w_1.heap.size) (off := 0) (n := 18) rfl H_237 Tryd.underlying34 (by kernel_rfl) (Nat.le_of_ble_eq_true rfl) (portC d A) rfl ?_
           skip))
      refine (HN2.out w_232 (hE.below B_236) m_241).mono ?_
      rintro e w_244 ⟨B2, rfl, _, _, b_245⟩
      have zw_244 := b_245.size
      have B_246 := B_236.trans (b_245.mono B_236.size)
      have H_247 := (b_245.block _ (box_lt H_237)).trans H_237
      have H_248 := (b_245.block _ (box_lt H_238)).trans H_238
      have H_249 := (b_245.block _ (box_lt H_239)).trans H_239
      have H_250 := (b_245.block _ (box_lt H_240)).trans H_240
      have H_251 := (b_245.block _ (box_lt H_233)).trans H_233
      have m_252 := m_241.below b_245
      have m_253 := m_242.below b_245
      have m_254 := m_243.below b_245
      go_wp2_with (first
        | (go_skip; skip)
        | (refine wpList_store_any _ rfl rfl (by rfl) (b := w_244.heap.size) (off := 0) (n := 18) rfl rfl (vs := portC zPort B2) rfl (heap_new_at w_244 (.cells (portC zPort zPortA) 34) _ rfl) (by kernel_rfl) rfl rfl (Nat.le_of_ble_eq_true rfl) (portC zPort B2) rfl ?_
           intro w_255 H_256 g_257
           have b_258 : Below w_244.heap.size w_244 w_255 := below_only ((Below.refl _ _).alloc (Nat.le_refl _) _) g_257 (Nat.le_refl _)
           have zw_255 := b_258.size
           have B_259 := B_246.trans (b_258.mono B_246.size)
           have lH_256 := box_lt H_256
           have H_260 := (b_258.block _ (box_lt H_247)).trans H_247
           have H_261 := (b_258.block _ (box_lt H_248)).trans H_248
           have H_262 := (b_258.block _ (box_lt H_249)).trans H_249
           have H_263 := (b_258.block _ (box_lt H_250)).trans H_250
           have H_264 := (b_258.block _ (box_lt H_251)).trans H_251
           have m_265 := m_252.below b_258
           have m_266 := m_253.below b_258
           have m_267 := m_254.below b_258
           skip))
      go_ret
      exact ⟨rfl, B_259⟩
    · clear hw
      have HV2 := Lib.hid hv2
      clear hv2
      have HI := Lib.hid (fun x (e : Sent x a) h => write_at hR (implPortWrite_any d A _ v a x e h (by omega) (by omega) hX.out hY.out))
      have HJ := Lib.hid (fun x h => write_at hR (specPortWrite_any d A _ v x h (by omega) (by omega) hX.out hY.out))
      clear hR
      go_wp2_with (first
        | (go_skip; skip)
        | (refine wpList_store_any _ rfl rfl (by rfl) (b := w_1.heap.size) (off := 0) (n := 18) rfl rfl (vs := portC d A) rfl (heap_new_at w_1 (.cells (portC zPort zPortA) 34) _ rfl) (by kernel_rfl) rfl rfl (Nat.le_of_ble_eq_true rfl) (portC d A) rfl ?_
           intro w_4 H_5 g_6
           have b_7 : Below w_1.heap.size w_1 w_4 := below_only ((Below.refl _ _).alloc (Nat.le_refl _) _) g_6 (Nat.le_refl _)
           have zw_4 := b_7.size
           have B_8 := B_3.trans (b_7.mono B_3.size)
           have lH_5 := box_lt H_5
           have m_9 := hm.below b_7
           skip)
        | (refine wpList_load_box _ rfl (by rfl) (b := w_1.heap.size) (off := 0) (n := 18) rfl H_5 Tryd.underlying34 (by kernel_rfl) (Nat.le_of_ble_eq_true rfl) (portC d A) rfl ?_
           skip))
      refine (HI.out w_4 (hE.below B_8) m_9).mono ?_
      rintro e w_268 ⟨A1, rfl, Ox1, Oy1, b_269⟩
      have zw_268 := b_269.size
      have B_270 := B_8.trans (b_269.mono B_8.size)
      have H_271 := (b_269.block _ (box_lt H_5)).trans H_5
      have m_272 := m_9.below b_269
      have n1 : PortM _ { d with b := 5 + v % 4, p := fmtP v, s := 1 + v / 4 % 2 } A1 := ⟨own_cells Ox1, own_cells Oy1⟩
      clear Ox1 Oy1
      go_wp2_with (first
        | (go_skip; skip)
        | (refine wpList_store_any _ rfl rfl (by rfl) (b := w_268.heap.size) (off := 0) (n := 18) rfl rfl (vs := portC { d with b := 5 + v % 4, p := fmtP v, s := 1 + v / 4 % 2 } A1) rfl (heap_new_at w_268 (.cells (portC zPort zPortA) 34) _ rfl) (by kernel_rfl) rfl rfl (Nat.le_of_ble_eq_true rfl) (portC { d with b := 5 + v % 4, p := fmtP v, s := 1 + v / 4 % 2 } A1) rfl ?_
           intro w_273 H_274 g_275
           have b_276 : Below w_268.heap.size w_268 w_273 := below_only ((Below.refl _ _).alloc (Nat.le_refl _) _) g_275 (Nat.le_refl _)
           have zw_273 := b_276.size
           have B_277 := B_270.trans (b_276.mono B_270.size)
           have lH_274 := box_lt H_274
           have H_278 := (b_276.block _ (box_lt H_271)).trans H_271
           have m_279 := m_272.below b_276
           have m_280 := n1.below b_276
           skip)
        | (refine wpList_load_box _ rfl (by rfl) (b := w_1.heap.size) (off := 0) (n := 18) rfl H_278 Tryd.underlying34 (by kernel_rfl) (Nat.le_of_ble_eq_true rfl) (portC d A) rfl ?_
           skip))
      refine (HJ.out w_273 m_279).mono ?_
      rintro e w_281 ⟨A2, rfl, Ox2, Oy2, b_282⟩
      have zw_281 := b_282.size
      have B_283 := B_277.trans (b_282.mono B_277.size)
      have H_284 := (b_282.block _ (box_lt H_278)).trans H_278
      have H_285 := (b_282.block _ (box_lt H_274)).trans H_274
      have m_286 := m_279.below b_282
      have m_287 := m_280.below b_282
      have n2 : PortM _ { d with b := 5 + v % 4, p := fmtP v, s := 1 + v / 4 % 2 } A2 := ⟨own_cells Ox2, own_cells Oy2⟩
      clear Ox2 Oy2
      go_wp2_with (first
        | (go_skip; skip)
        | (refine wpList_store_any _ rfl rfl (by rfl) (b := w_281.heap.size) (off := 0) (n := 18) rfl rfl (vs := portC { d with b := 5 + v % 4, p := fmtP v, s := 1 + v / 4 % 2 } A2) rfl (heap_new_at w_281 (.cells (portC zPort zPortA) 34) _ rfl) (by kernel_rfl) rfl rfl (Nat.le_of_ble_eq_true rfl) (portC { d with b := 5 + v % 4, p := fmtP v, s := 1 + v / 4 % 2 } A2) rfl ?_
           intro w_288 H_289 g_290
           have b_291 : Below w_281.heap.size w_281 w_288 := below_only ((Below.refl _ _).alloc (Nat.le_refl _) _) g_290 (Nat.le_refl _)
           have zw_288 := b_291.size
           have B_292 := B_283.trans (b_291.mono B_283.size)
           have lH_289 := box_lt H_289
           have H_293 := (b_291.block _ (box_lt H_284)).trans H_284
           have H_294 := (b_291.block _ (box_lt H_285)).trans H_285
           have m_295 := m_286.below b_291
           have m_296 := m_287.below b_291
           have m_297 := n2.below b_291
           skip)
        | (refine wpList_load_box _ rfl (by rfl) (b := w_268.heap.size) (off := 0) (n := 18) rfl H_294 Tryd.underlying34 (by kernel_rfl) (Nat.le_of_ble_eq_true rfl) (portC { d with b := 5 + v % 4, p := fmtP v, s := 1 + v / 4 % 2 } A1) rfl ?_
           skip)
        | (refine wpList_load_box _ rfl (by rfl) (b := w_281.heap.size) (off := 0) (n := 18) rfl H_289 Tryd.underlying34 (by kernel_rfl) (Nat.le_of_ble_eq_true rfl) (portC { d with b := 5 + v % 4, p := fmtP v, s := 1 + v / 4 % 2 } A2) rfl ?_
           skip))
      refine (samePort_eq { d with b := 5 + v % 4, p := fmtP v, s := 1 + v / 4 % 2 } A1 A2 w_288 m_296 m_297 (by dsimp only; omega) (by dsimp only; omega)).mono ?_
      rintro e w_298 ⟨rfl, b_299⟩
      have zw_298 := b_299.size
      have B_300 := B_292.trans (b_299.mono B_292.size)
      have H_301 := (b_299.block _ (box_lt H_293)).trans H_293
      have H_302 := (b_299.block _ (box_lt H_294)).trans H_294
      have H_303 := (b_299.block _ (box_lt H_289)).trans H_289
      have m_304 := m_295.below b_299
      have m_305 := m_296.below b_299
      have m_306 := m_297.below b_299
      have hro := write_ro d v
      have HN0 := Lib.hid (fun x (e : Sent x a) h => write_at hro.1 (implPortWrite_any d A 2 v a x e h (by omega) (by omega) hX.out hY.out))
      go_wp2_with (first
        | (go_skip; skip)
        | (refine wpList_load_box _ rfl (by rfl) (b := w_1.heap.size) (off := 0) (n := 18) rfl H_301 Tryd.underlying34 (by kernel_rfl) (Nat.le_of_ble_eq_true rfl) (portC d A) rfl ?_
           skip))
      refine (HN0.out w_298 (hE.below B_300) m_304).mono ?_
      rintro e w_307 ⟨B0, rfl, _, _, b_308⟩
      have zw_307 := b_308.size
      have B_309 := B_300.trans (b_308.mono B_300.size)
      have H_310 := (b_308.block _ (box_lt H_301)).trans H_301
      have H_311 := (b_308.block _ (box_lt H_302)).trans H_302
      have H_312 := (b_308.block _ (box_lt H_303)).trans H_303
      have m_313 := m_304.below b_308
      have m_314 := m_305.below b_308
      have m_315 := m_306.below b_308
      have HN1 := Lib.hid (fun x (e : Sent x a) h => write_at hro.2.1 (implPortWrite_any d A 5 v a x e h (by omega) (by omega) hX.out hY.out))
      go_wp2_with (first
        | (go_skip; skip)
        | (refine wpList_store_any _ rfl rfl (by rfl) (b := w_307.heap.size) (off := 0) (n := 18) rfl rfl (vs := portC zPort B0) rfl (heap_new_at w_307 (.cells (portC zPort zPortA) 34) _ rfl) (by kernel_rfl) rfl rfl (Nat.le_of_ble_eq_true rfl) (portC zPort B0) rfl ?_
           intro w_316 H_317 g_318
           have b_319 : Below w_307.heap.size w_307 w_316 := below_only ((Below.refl _ _).alloc (Nat.le_refl _) _) g_318 (Nat.le_refl _)
           have zw_316 := b_319.size
           have B_320 := B_309.trans (b_319.mono B_309.size)
           have lH_317 := box_lt H_317
           have H_321 := (b_319.block _ (box_lt H_310)).trans H_310
           have H_322 := (b_319.block _ (box_lt H_311)).trans H_311
           have H_323 := (b_319.block _ (box_lt H_312)).trans H_312
           have m_324 := m_313.below b_319
           have m_325 := m_314.below b_319
           have m_326 := m_315.below b_319
           skip)
        | (refine wpList_load_box _ rfl (by rfl) (b := w_1.heap.size) (off := 0) (n := 18) rfl H_321 Tryd.underlying34 (by kernel_rfl) (Nat.le_of_ble_eq_true rfl) (portC d A) rfl ?_
           skip))
      refine (HN1.out w_316 (hE.below B_320) m_324).mono ?_
      rintro e w_327 ⟨B1, rfl, _, _, b_328⟩
      have zw_327 := b_328.size
      have B_329 := B_320.trans (b_328.mono B_320.size)
      have H_330 := (b_328.block _ (box_lt H_321)).trans H_321
      have H_331 := (b_328.block _ (box_lt H_322)).trans H_322
      have H_332 := (b_328.block _ (box_lt H_323)).trans H_323
      have H_333 := (b_328.block _ (box_lt H_317)).trans H_317
      have m_334 := m_324.below b_328
      have m_335 := m_325.below b_328
      have m_336 := m_326.below b_328
      have HN2 := Lib.hid (fun x (e : Sent x a) h => write_at hro.2.2 (implPortWrite_any d A 6 v a x e h (by omega) (by omega) hX.out hY.out))
      go_wp2_with (first
        | (go_skip; skip)
        | (refine wpList_store_any _ rfl rfl (by rfl) (b := w_327.heap.size) (off := 0) (n := 18) rfl rfl (vs := portC zPort B1) rfl (heap_new_at w_327 (.cells (portC zPort zPortA) 34) _ rfl) (by kernel_rfl) rfl rfl (Nat.le_of_ble_eq_true rfl) (portC zPort B1) rfl ?_
           intro w_337 H_338 g_339
           have b_340 : Below w_327.heap.size w_327 w_337 := below_only ((Below.refl _ _).alloc (Nat.le_refl _) _) g_339 (Nat.le_refl _)
           have zw_337 := b_340.size
           have B_341 := B_329.trans (b_340.mono B_329.size)
           have lH_338 := box_lt H_338
           have H_342 := (b_340.block _ (box_lt H_330)).trans H_330
           have H_343 := (b_340.block _ (box_lt H_331)).trans H_331
           have H_344 := (b_340.block _ (box_lt H_332)).trans H_332
           have H_345 := (b_340.block _ (box_lt H_333)).trans H_333
           have m_346 := m_334.below b_340
           have m_347 := m_335.below b_340
           have m_348 := m_336.below b_340
           skip)
        | (refine wpList_load_box _ rfl (by rfl) (b := w_1.heap.size) (off := 0) (n := 18) rfl H_342 Tryd.underlying34 (by kernel_rfl) (Nat.le_of_ble_eq_true rfl) (portC d A) rfl ?_
           skip))
      refine (HN2.out w_337 (hE.below B_341) m_346).mono ?_
      rintro e w_349 ⟨B2, rfl, _, _, b_350⟩
      have zw_349 := b_350.size
      have B_351 := B_341.trans (b_350.mono B_341.size)
      have H_352 := (b_350.block _ (box_lt H_342)).trans H_342
      have H_353 := (b_350.block _ (box_lt H_343)).trans H_343
      have H_354 := (b_350.block _ (box_lt H_344)).trans H_344
      have H_355 := (b_350.block _ (box_lt H_345)).trans H_345
      have H_356 := (b_350.block _ (box_lt H_338)).trans H_338
      have m_357 := m_346.below b_350
      have m_358 := m_347.below b_350
      have m_359 := m_348.below b_350
      go_wp2_with (first
        | (go_skip; skip)
        | (refine wpList_store_any _ rfl rfl (by rfl) (b := w_349.heap.size) (off := 0) (n := 18) rfl rfl (vs := portC zPort B2) rfl (heap_new_at w_349 (.cells (portC zPort zPortA) 34) _ rfl) (by kernel_rfl) rfl rfl (Nat.le_of_ble_eq_true rfl) (portC zPort B2) rfl ?_
           intro w_360 H_361 g_362
           have b_363 : Below w_349.heap.size w_349 w_360 := below_only ((Below.refl _ _).alloc (Nat.le_refl _) _) g_362 (Nat.le_refl _)
           have zw_360 := b_363.size
           have B_364 := B_351.trans (b_363.mono B_351.size)
           have lH_361 := box_lt H_361
           have H_365 := (b_363.block _ (box_lt H_352)).trans H_352
           have H_366 := (b_363.block _ (box_lt H_353)).trans H_353
           have H_367 := (b_363.block _ (box_lt H_354)).trans H_354
           have H_368 := (b_363.block _ (box_lt H_355)).trans H_355
           have H_369 := (b_363.block _ (box_lt H_356)).trans H_356
           have m_370 := m_357.below b_363
           have m_371 := m_358.below b_363
           have m_372 := m_359.below b_363
           skip))
      go_ret
      exact ⟨rfl, B_364⟩
    · clear hw
      have HV2 := Lib.hid hv2
      clear hv2
      have HI := Lib.hid (fun x (e : Sent x a) h => write_at hR (implPortWrite_any d A _ v a x e h (by omega) (by omega) hX.out hY.out))
      have HJ := Lib.hid (fun x h => write_at hR (specPortWrite_any d A _ v x h (by omega) (by omega) hX.out hY.out))
      clear hR
      go_wp2_with (first
        | (go_skip; skip)
        | (refine wpList_store_any _ rfl rfl (by rfl) (b := w_1.heap.size) (off := 0) (n := 18) rfl rfl (vs := portC d A) rfl (heap_new_at w_1 (.cells (portC zPort zPortA) 34) _ rfl) (by kernel_rfl) rfl rfl (Nat.le_of_ble_eq_true rfl) (portC d A) rfl ?_
           intro w_4 H_5 g_6
           have b_7 : Below w_1.heap.size w_1 w_4 := below_only ((Below.refl _ _).alloc (Nat.le_refl _) _) g_6 (Nat.le_refl _)
           have zw_4 := b_7.size
           have B_8 := B_3.trans (b_7.mono B_3.size)
           have lH_5 := box_lt H_5
           have m_9 := hm.below b_7
           skip)
        | (refine wpList_load_box _ rfl (by rfl) (b := w_1.heap.size) (off := 0) (n := 18) rfl H_5 Tryd.underlying34 (by kernel_rfl) (Nat.le_of_ble_eq_true rfl) (portC d A) rfl ?_
           skip))
      refine (HI.out w_4 (hE.below B_8) m_9).mono ?_
      rintro e w_373 ⟨A1, rfl, Ox1, Oy1, b_374⟩
      have zw_373 := b_374.size
      have B_375 := B_8.trans (b_374.mono B_8.size)
      have H_376 := (b_374.block _ (box_lt H_5)).trans H_5
      have m_377 := m_9.below b_374
      have n1 : PortM _ { d with co := v } A1 := ⟨own_cells Ox1, own_cells Oy1⟩
      clear Ox1 Oy1
      go_wp2_with (first
        | (go_skip; skip)
        | (refine wpList_store_any _ rfl rfl (by rfl) (b := w_373.heap.size) (off := 0) (n := 18) rfl rfl (vs := portC { d with co := v } A1) rfl (heap_new_at w_373 (.cells (portC zPort zPortA) 34) _ rfl) (by kernel_rfl) rfl rfl (Nat.le_of_ble_eq_true rfl) (portC { d with co := v } A1) rfl ?_
           intro w_378 H_379 g_380
           have b_381 : Below w_373.heap.size w_373 w_378 := below_only ((Below.refl _ _).alloc (Nat.le_refl _) _) g_380 (Nat.le_refl _)
           have zw_378 := b_381.size
           have B_382 := B_375.trans (b_381.mono B_375.size)
           have lH_379 := box_lt H_379
           have H_383 := (b_381.block _ (box_lt H_376)).trans H_376
           have m_384 := m_377.below b_381
           have m_385 := n1.below b_381
           skip)
        | (refine wpList_load_box _ rfl (by rfl) (b := w_1.heap.size) (off := 0) (n := 18) rfl H_383 Tryd.underlying34 (by kernel_rfl) (Nat.le_of_ble_eq_true rfl) (portC d A) rfl ?_
           skip))
      refine (HJ.out w_378 m_384).mono ?_
      rintro e w_386 ⟨A2, rfl, Ox2, Oy2, b_387⟩
      have zw_386 := b_387.size
      have B_388 := B_382.trans (b_387.mono B_382.size)
      have H_389 := (b_387.block _ (box_lt H_383)).trans H_383
      have H_390 := (b_387.block _ (box_lt H_379)).trans H_379
      have m_391 := m_384.below b_387
      have m_392 := m_385.below b_387
      have n2 : PortM _ { d with co := v } A2 := ⟨own_cells Ox2, own_cells Oy2⟩
      clear Ox2 Oy2
      go_wp2_with (first
        | (go_skip; skip)
        | (refine wpList_store_any _ rfl rfl (by rfl) (b := w_386.heap.size) (off := 0) (n := 18) rfl rfl (vs := portC { d with co := v } A2) rfl (heap_new_at w_386 (.cells (portC zPort zPortA) 34) _ rfl) (by kernel_rfl) rfl rfl (Nat.le_of_ble_eq_true rfl) (portC { d with co := v } A2) rfl ?_
           intro w_393 H_394 g_395
           have b_396 : Below w_386.heap.size w_386 w_393 := below_only ((Below.refl _ _).alloc (Nat.le_refl _) _) g_395 (Nat.le_refl _)
           have zw_393 := b_396.size
           have B_397 := B_388.trans (b_396.mono B_388.size)
           have lH_394 := box_lt H_394
           have H_398 := (b_396.block _ (box_lt H_389)).trans H_389
           have H_399 := (b_396.block _ (box_lt H_390)).trans H_390
           have m_400 := m_391.below b_396
           have m_401 := m_392.below b_396
           have m_402 := n2.below b_396
           skip)
        | (refine wpList_load_box _ rfl (by rfl) (b := w_373.heap.size) (off := 0) (n := 18) rfl H_399 Tryd.underlying34 (by kernel_rfl) (Nat.le_of_ble_eq_true rfl) (portC { d with co := v } A1) rfl ?_
           skip)
        | (refine wpList_load_box _ rfl (by rfl) (b := w_386.heap.size) (off := 0) (n := 18) rfl H_394 Tryd.underlying34 (by kernel_rfl) (Nat.le_of_ble_eq_true rfl) (portC { d with co := v } A2) rfl ?_
           skip))
      refine (samePort_eq { d with co := v } A1 A2 w_393 m_401 m_402 (by dsimp only; omega) (by dsimp only; omega)).mono ?_
      rintro e w_403 ⟨rfl, b_404⟩
      have zw_403 := b_404.size
      have B_405 := B_397.trans (b_404.mono B_397.size)
      have H_406 := (b_404.block _ (box_lt H_398)).trans H_398
      have H_407 := (b_404.block _ (box_lt H_399)).trans H_399
      have H_408 := (b_404.block _ (box_lt H_394)).trans H_394
      have m_409 := m_400.below b_404
      have m_410 := m_401.below b_404
      have m_411 := m_402.below b_404
      have hro := write_ro d v
      have HN0 := Lib.hid (fun x (e : Sent x a) h => write_at hro.1 (implPortWrite_any d A 2 v a x e h (by omega) (by omega) hX.out hY.out))
      go_wp2_with (first
        | (go_skip; skip)
        | (refine wpList_load_box _ rfl (by rfl) (b := w_1.heap.size) (off := 0) (n := 18) rfl H_406 Tryd.underlying34 (by kernel_rfl) (Nat.le_of_ble_eq_true rfl) (portC d A) rfl ?_
           skip))
      refine (HN0.out w_403 (hE.below B_405) m_409).mono ?_
      rintro e w_412 ⟨B0, rfl, _, _, b_413⟩
      have zw_412 := b_413.size
      have B_414 := B_405.trans (b_413.mono B_405.size)
      have H_415 := (b_413.block _ (box_lt H_406)).trans H_406
      have H_416 := (b_413.block _ (box_lt H_407)).trans H_407
      have H_417 := (b_413.block _ (box_lt H_408)).trans H_408
      have m_418 := m_409.below b_413
      have m_419 := m_410.below b_413
      have m_420 := m_411.below b_413
      have HN1 := Lib.hid (fun x (e : Sent x a) h => write_at hro.2.1 (implPortWrite_any d A 5 v a x e h (by omega) (by omega) hX.out hY.out))
      go_wp2_with (first
        | (go_skip; skip)
        | (refine wpList_store_any _ rfl rfl (by rfl) (b := w_412.heap.size) (off := 0) (n := 18) rfl rfl (vs := portC zPort B0) rfl (heap_new_at w_412 (.cells (portC zPort zPortA) 34) _ rfl) (by kernel_rfl) rfl rfl (Nat.le_of_ble_eq_true rfl) (portC zPort B0) rfl ?_
           intro w_421 H_422 g_423
           have b_424 : Below w_412.heap.size w_412 w_421 := below_only ((Below.refl _ _).alloc (Nat.le_refl _) _) g_423 (Nat.le_refl _)
           have zw_421 := b_424.size
           have B_425 := B_414.trans (b_424.mono B_414.size)
           have lH_422 := box_lt H_422
           have H_426 := (b_424.block _ (box_lt H_415)).trans H_415
           have H_427 := (b_424.block _ (box_lt H_416)).trans H_416
           have H_428 := (b_424.block _ (box_lt H_417)).trans H_417
           have m_429 := m_418.below b_424
           have m_430 := m_419.below b_424
           have m_431 := m_420.below b_424
           skip)
        | (refine wpList_load_box _ rfl (by rfl) (b := w_1.heap.size) (off := 0) (n := 18) rfl H_426 Tryd.underlying34 (by kernel_rfl) (Nat.le_of_ble_eq_true rfl) (portC d A) rfl ?_
           skip))
      refine (HN1.out w_421 (hE.below B_425) m_429).mono ?_
      rintro e w_432 ⟨B1, rfl, _, _, b_433⟩
      have zw_432 := b_433.size
      have B_434 := B_425.trans (b_433.mono B_425.size)
      have H_435 := (b_433.block _ (box_lt H_426)).trans H_426
      have H_436 := (b_433.block _ (box_lt H_427)).trans H_427
      have H_437 := (b_433.block _ (box_lt H_428)).trans H_428
      have H_438 := (b_433.block _ (box_lt H_422)).trans H_422
      have m_439 := m_429.below b_433
      have m_440 := m_430.below b_433
      have m_441 := m_431.below b_433
      have HN2 := Lib.hid (fun x (e : Sent x a) h => write_at hro.2.2 (implPortWrite_any d A 6 v a x e h (by omega) (by omega) hX.out hY.out))
      go_wp2_with (first
        | (go_skip; skip)
        | (refine wpList_store_any _ rfl rfl (by rfl) (b := w_432.heap.size) (off := 0) (n := 18) rfl rfl (vs := portC zPort B1) rfl (heap_new_at w_432 (.cells (portC zPort zPortA) 34) _ rfl) (by kernel_rfl) rfl rfl (Nat.le_of_ble_eq_true rfl) (portC zPort B1) rfl ?_
           intro w_442 H_443 g_444
           have b_445 : Below w_432.heap.size w_432 w_442 := below_only ((Below.refl _ _).alloc (Nat.le_refl _) _) g_444 (Nat.le_refl _)
           have zw_442 := b_445.size
           have B_446 := B_434.trans (b_445.mono B_434.size)
           have lH_443 := box_lt H_443
           have H_447 := (b_445.block _ (box_lt H_435)).trans H_435
           have H_448 := (b_445.block _ (box_lt H_436)).trans H_436
           have H_449 := (b_445.block _ (box_lt H_437)).trans H_437
           have H_450 := (b_445.block _ (box_lt H_438)).trans H_438
           have m_451 := m_439.below b_445
           have m_452 := m_440.below b_445
           have m_453 := m_441.below b_445
           skip)
        | (refine wpList_load_box _ rfl (by rfl) (b := w_1.heap.size) (off := 0) (n := 18) rfl H_447 Tryd.underlying34 (by kernel_rfl) (Nat.le_of_ble_eq_true rfl) (portC d A) rfl ?_
           skip))
      refine (HN2.out w_442 (hE.below B_446) m_451).mono ?_
      rintro e w_454 ⟨B2, rfl, _, _, b_455⟩
      have zw_454 := b_455.size
      have B_456 := B_446.trans (b_455.mono B_446.size)
      have H_457 := (b_455.block _ (box_lt H_447)).trans H_447
      have H_458 := (b_455.block _ (box_lt H_448)).trans H_448
      have H_459 := (b_455.block _ (box_lt H_449)).trans H_449
      have H_460 := (b_455.block _ (box_lt H_450)).trans H_450
      have H_461 := (b_455.block _ (box_lt H_443)).trans H_443
      have m_462 := m_451.below b_455
      have m_463 := m_452.below b_455
      have m_464 := m_453.below b_455
      go_wp2_with (first
        | (go_skip; skip)
        | (refine wpList_store_any _ rfl rfl (by rfl) (b := w_454.heap.size) (off := 0) (n := 18) rfl rfl (vs := portC zPort B2) rfl (heap_new_at w_454 (.cells (portC zPort zPortA) 34) _ rfl) (by kernel_rfl) rfl rfl (Nat.le_of_ble_eq_true rfl) (portC zPort B2) rfl ?_
           intro w_465 H_466 g_467
           have b_468 : Below w_454.heap.size w_454 w_465 := below_only ((Below.refl _ _).alloc (Nat.le_refl _) _) g_467 (Nat.le_refl _)
           have zw_465 := b_468.size
           have B_469 := B_456.trans (b_468.mono B_456.size)
           have lH_466 := box_lt H_466
           have H_470 := (b_468.block _ (box_lt H_457)).trans H_457
           have H_471 := (b_468.block _ (box_lt H_458)).trans H_458
           have H_472 := (b_468.block _ (box_lt H_459)).trans H_459
           have H_473 := (b_468.block _ (box_lt H_460)).trans H_460
           have H_474 := (b_468.block _ (box_lt H_461)).trans H_461
           have m_475 := m_462.below b_468
           have m_476 := m_463.below b_468
           have m_477 := m_464.below b_468
           skip))
      go_ret
      exact ⟨rfl, B_469⟩

set_option linter.unusedVariables false in
set_option maxRecDepth 100000 in
theorem FnWriteNot_lifted (os : Os) (started : os.Started) (H : Type) (enc : TypeId × Value → H) :
    ReturnsInHanded {} Tryd.checked os 5 .any (fun w args => (Rows.fnWriteNotSpec.pre enc Tryd.prog Tryd.f5 [] false w args ∧ laidMetH Tryd.prog laid1 w) ∧ sizedMet enc Tryd.prog Tryd.f5 (OpenSpec.ofChange Rows.fnWriteNotSpec) false w args)
      (Rows.fnWriteNotSpec.post enc Tryd.prog Tryd.f5 false true false false) := by
  refine returnsInHanded_of_change_and (C := Tryd.checked) (X := fun w _ => laidMetH Tryd.prog laid1 w) (fun _ _ _ hh h => h.of_heap hh) own_knob started (by kernel_rfl) Tryd.func5
    (ChangeSpec.witness_shaped (enc := enc) (C := Tryd.checked) (os := os) (X := fun w _ => laidMetH Tryd.prog laid1 w) false (World.doorLaid Tryd.prog 400 os) #[.slice none 0 0] 8 rfl (World.shaped_of_RefB (by kernel_rfl) (by kernel_rfl)) (by kernel_rfl) (by kernel_rfl) (by kernel_rfl) (door_met os _)) ?_
  intro W base args ds gs before hval0 hW _ _ hL _
  have hval : ∀ (j : Nat) t v, Tryd.f5.params[j]? = some t → args[j]? = some v → Value.okWide Tryd.prog W .any base t v := hval0
  have hW' := hW
  obtain ⟨p, q, hA0, hV0, rfl, hfz, hnd⟩ := hW
  have hA : DataW.TrodAll enc Tryd.prog W 0 (fun _ => true) true Tryd.f5.params.toList args.toList ds p := hA0
  have hV : DataW.TrodVars enc Tryd.prog W (fun _ => true) ["loop.example/serialpair/impl.errNoFormat"] gs q := hV0
  rw [Tryd.params5] at hA hval
  obtain ⟨v0, vs0, d0, ds0, p0, q0, hargs, rfl, rfl, h0, r0⟩ := trodAll_cons hA
  obtain ⟨rfl, rfl, rfl⟩ := trodAll_nil r0
  obtain rfl : args = #[v0] := by cases args; simp_all
  obtain ⟨a, hv, hE⟩ := sent_of_laid hL
  obtain ⟨rfl, rfl⟩ := hV.unique (vars_read1 enc gE gEType Tryd.underlying75 hv trivial _)
  have k0 := h0
  have lt0 : ∀ x ∈ p0, x.block < W.heap.size := by obtain ⟨m, hm⟩ := k0; exact DataW.trod_lt m _ _ _ hm
  obtain ⟨a0, len0, cap0, rfl⟩ := okWide_slice Tryd.underlying22 (hval 0 22 v0 rfl rfl)
  obtain ⟨z0, rfl, lc0, lm0, rz0⟩ : ∃ z : List Int, len0 = z.length ∧ z.length ≤ cap0 ∧ cap0 ≤ maxLen ∧ Bytes W a0 z := by
    obtain ⟨fuel, hf⟩ := h0
    obtain ⟨ao, cap, z, e, h1, h2, h3⟩ := rd_bytes hf
    simp [Value.cells] at e
    obtain ⟨rfl, rfl, rfl⟩ := e
    exact ⟨z, rfl, h1, h2, h3⟩
  clear hA0 hV0 hval0
  refine (FnWriteNot_walk a0 z0 cap0 a W rz0 lc0 lm0 hE).mono fun e W' ⟨he, bel⟩ => ?_
  subst he
  exact ⟨_, rfl, _, _, _, [], _, [.cell 0 0], hW', trodAll_mk1 (shut_bool Tryd.underlying4 _), (trodAll_cons_mk (Below.trod laid_out (by kernel_rfl) (of_decide_eq_true (by kernel_rfl)) k0 bel lt0) trodAll_mk0), vars_read1 enc gE gEType Tryd.underlying75 (var_below hv bel) trivial _, bel.frame _, fun h => by cases h⟩

theorem FnWriteNot_row : Rows.FnWriteNotSaid :=
  OpenClaim.holds_of_wide 5 Tryd.f5 rfl rfl rfl rfl rfl rfl rfl ⟨rfl, rfl, rfl, rfl, rfl⟩ rfl rfl rfl rfl rfl (by kernel_rfl) Tryd.func5 (by kernel_rfl)
    (of_decide_eq_true (by kernel_rfl)) (by unfold Func.isWrapper; first | (rw [if_pos (by decide +kernel)]; kernel_rfl) | (rw [if_neg (by decide +kernel)]; exact ⟨rfl, rfl⟩))
    (fun os started H enc _ => FnWriteNot_lifted os started H enc)

theorem FnWriteNot_holds : Rows.FnWriteNotCardSaid :=
  Claim7.holds_tied_plain_at .later [] [.sentinel] true (true, "a99c1b190165a49e5aca63c206a6e0f9d9069e97f3e02075d63f11c59f704da7") true
    FnWriteNot_row (fun _ h => by cases h) (by kernel_rfl) (fun _ h => by cases h) fnWriteNot_row_tie rfl ⟨rfl, rfl⟩ (by kernel_rfl) rfl
    (fun f fn hf hfn => by
      obtain rfl : f = 5 := Option.some.inj ((show Tryd.prog.funcNamed "loop.example/serialpair/laws.FnWriteNot" = some 5 by kernel_rfl).symm.trans hf) |>.symm
      obtain rfl : fn = Tryd.f5 := (Option.some.inj (Tryd.func5.symm.trans hfn)).symm
      exact ⟨by kernel_rfl, fun j t ht => by
        rw [Tryd.params5] at ht
        have h3 : t = 22 := by
          rcases j with _ | j
          · simpa using ht.symm
          · simp at ht
        subst h3
        exact (show Tryd.prog.wantsStandIn 22 = false by kernel_rfl)⟩)
    (by kernel_rfl)
end Go.Proofs.YtkmampichfbppaaDoor
