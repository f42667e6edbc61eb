/- FnWriteData: A byte that was written is sent. No conditions beyond the statement's own. -/
import Derived.Test.YtkmampichfbppaaDoorWriteLaw
import Derived.Test.YtkmampichfbppaaDoorCard
import Derived.Test.YtkmampichfbppaaDoorCards
import Derived.Test.YtkmampichfbppaaDoorTie
import Derived.SevenTiedAt
namespace Go.Proofs.YtkmampichfbppaaDoor
open Go Go.ChangeShapes Go.WideShapes Go.ChangeAt Go.RowKit

set_option maxHeartbeats 4000000 in
set_option maxRecDepth 100000 in
theorem FnWriteData_walk (a0 : Option Addr) (z0 : List Int) (cap0 : Nat) (a : Addr) (w : World) (rz0 : Bytes w a0 z0) (lc0 : z0.length ≤ cap0) (_lm0 : cap0 ≤ maxLen) (hE : Sent w a) :
    Calls Tryd.prog 4 #[.slice a0 z0.length cap0] w fun e w' => e = .returned (.bool true) ∧ Below w.heap.size w w' := by
  unfold maxLen at _lm0
  by_cases hn0 : (z0.length : Int) ≤ 1048576
  case neg =>
    have hn0' : (1048576 : Int) < (z0.length : Int) := by omega
    go_enter Tryd.func4, Tryd.ntmps4
    go_wp2
    go_ret
    exact ⟨rfl, Below.refl _ _⟩
  go_enter Tryd.func4, Tryd.ntmps4
  have B0 : Below w.heap.size w w := Below.refl _ _
  go_wp2_with fail
  refine (drawPortWrite_any a0 z0 cap0 w rz0 lc0 (by omega)).mono ?_
  rintro e w_1 ⟨d, A, reg, v, rfl, lg, ly, Ox, Oy, b_2⟩
  have zw_1 := b_2.size
  have B_3 := B0.trans (b_2.mono B0.size)
  have hm : PortM _ d A := ⟨own_cells Ox, own_cells Oy⟩
  have hX := Lib.hid (own_nilcap Ox)
  have hY := Lib.hid (own_nilcap Oy)
  clear Ox Oy
  rcases write_cases d reg v with hR | ⟨d2, hR, hv2, hv, hw⟩
  · have HI := Lib.hid (fun x (e : Sent x a) h => write_at hR (implPortWrite_any d A _ v a x e h (by omega) (by omega) hX.out hY.out))
    have HJ := Lib.hid (fun x h => write_at hR (specPortWrite_any d A _ v x h (by omega) (by omega) hX.out hY.out))
    go_wp2_with (first
      | (go_skip; skip)
      | (refine wpList_store_any _ rfl rfl (by rfl) (b := w_1.heap.size) (off := 0) (n := 18) rfl rfl (vs := portC d A) rfl (heap_new_at w_1 (.cells (portC zPort zPortA) 34) _ rfl) (by kernel_rfl) rfl rfl (Nat.le_of_ble_eq_true rfl) (portC d A) rfl ?_
         intro w_4 H_5 g_6
         have b_7 : Below w_1.heap.size w_1 w_4 := below_only ((Below.refl _ _).alloc (Nat.le_refl _) _) g_6 (Nat.le_refl _)
         have zw_4 := b_7.size
         have B_8 := B_3.trans (b_7.mono B_3.size)
         have lH_5 := box_lt H_5
         have m_9 := hm.below b_7
         skip)
      | (refine wpList_load_box _ rfl (by rfl) (b := w_1.heap.size) (off := 0) (n := 18) rfl H_5 Tryd.underlying34 (by kernel_rfl) (Nat.le_of_ble_eq_true rfl) (portC d A) rfl ?_
         skip))
    refine (HI.out w_4 (hE.below B_8) m_9).mono ?_
    rintro e w_10 ⟨A1, rfl, Ox1, Oy1, b_11⟩
    have zw_10 := b_11.size
    have B_12 := B_8.trans (b_11.mono B_8.size)
    have H_13 := (b_11.block _ (box_lt H_5)).trans H_5
    have m_14 := m_9.below b_11
    have n1 : PortM _ zPort A1 := ⟨own_cells Ox1, own_cells Oy1⟩
    clear Ox1 Oy1
    go_wp2_with (first
      | (go_skip; skip)
      | (refine wpList_store_any _ rfl rfl (by rfl) (b := w_10.heap.size) (off := 0) (n := 18) rfl rfl (vs := portC zPort A1) rfl (heap_new_at w_10 (.cells (portC zPort zPortA) 34) _ rfl) (by kernel_rfl) rfl rfl (Nat.le_of_ble_eq_true rfl) (portC zPort A1) rfl ?_
         intro w_15 H_16 g_17
         have b_18 : Below w_10.heap.size w_10 w_15 := below_only ((Below.refl _ _).alloc (Nat.le_refl _) _) g_17 (Nat.le_refl _)
         have zw_15 := b_18.size
         have B_19 := B_12.trans (b_18.mono B_12.size)
         have lH_16 := box_lt H_16
         have H_20 := (b_18.block _ (box_lt H_13)).trans H_13
         have m_21 := m_14.below b_18
         have m_22 := n1.below b_18
         skip)
      | (refine wpList_load_box _ rfl (by rfl) (b := w_1.heap.size) (off := 0) (n := 18) rfl H_20 Tryd.underlying34 (by kernel_rfl) (Nat.le_of_ble_eq_true rfl) (portC d A) rfl ?_
         skip))
    refine (HJ.out w_15 m_21).mono ?_
    rintro e w_23 ⟨A2, rfl, Ox2, Oy2, b_24⟩
    have zw_23 := b_24.size
    have B_25 := B_19.trans (b_24.mono B_19.size)
    have H_26 := (b_24.block _ (box_lt H_20)).trans H_20
    have H_27 := (b_24.block _ (box_lt H_16)).trans H_16
    have m_28 := m_21.below b_24
    have m_29 := m_22.below b_24
    have n2 : PortM _ zPort A2 := ⟨own_cells Ox2, own_cells Oy2⟩
    clear Ox2 Oy2
    have lz1 : zPort.gs.length ≤ 1048576 := by decide
    have lz2 : zPort.ys.length ≤ 1048576 := by decide
    go_wp2_with (first
      | (go_skip; skip)
      | (refine wpList_store_any _ rfl rfl (by rfl) (b := w_23.heap.size) (off := 0) (n := 18) rfl rfl (vs := portC zPort A2) rfl (heap_new_at w_23 (.cells (portC zPort zPortA) 34) _ rfl) (by kernel_rfl) rfl rfl (Nat.le_of_ble_eq_true rfl) (portC zPort A2) rfl ?_
         intro w_30 H_31 g_32
         have b_33 : Below w_23.heap.size w_23 w_30 := below_only ((Below.refl _ _).alloc (Nat.le_refl _) _) g_32 (Nat.le_refl _)
         have zw_30 := b_33.size
         have B_34 := B_25.trans (b_33.mono B_25.size)
         have lH_31 := box_lt H_31
         have H_35 := (b_33.block _ (box_lt H_26)).trans H_26
         have H_36 := (b_33.block _ (box_lt H_27)).trans H_27
         have m_37 := m_28.below b_33
         have m_38 := m_29.below b_33
         have m_39 := n2.below b_33
         skip)
      | (refine wpList_load_box _ rfl (by rfl) (b := w_10.heap.size) (off := 0) (n := 18) rfl H_36 Tryd.underlying34 (by kernel_rfl) (Nat.le_of_ble_eq_true rfl) (portC zPort A1) rfl ?_
         skip)
      | (refine wpList_load_box _ rfl (by rfl) (b := w_23.heap.size) (off := 0) (n := 18) rfl H_31 Tryd.underlying34 (by kernel_rfl) (Nat.le_of_ble_eq_true rfl) (portC zPort A2) rfl ?_
         skip))
    refine (samePort_eq zPort A1 A2 w_30 m_38 m_39 lz1 lz2).mono ?_
    rintro e w_40 ⟨rfl, b_41⟩
    have zw_40 := b_41.size
    have B_42 := B_34.trans (b_41.mono B_34.size)
    have H_43 := (b_41.block _ (box_lt H_35)).trans H_35
    have H_44 := (b_41.block _ (box_lt H_36)).trans H_36
    have H_45 := (b_41.block _ (box_lt H_31)).trans H_31
    have m_46 := m_37.below b_41
    have m_47 := m_38.below b_41
    have m_48 := m_39.below b_41
    go_wp2_with (first
      | (go_skip; skip)
      | (refine wpList_load_box _ rfl (by rfl) (b := w_10.heap.size) (off := 0) (n := 18) rfl H_44 Tryd.underlying34 (by kernel_rfl) (Nat.le_of_ble_eq_true rfl) (portC zPort A1) rfl ?_
         skip)
      | (refine wpList_load_box _ rfl (by rfl) (b := w_23.heap.size) (off := 0) (n := 18) rfl H_45 Tryd.underlying34 (by kernel_rfl) (Nat.le_of_ble_eq_true rfl) (portC zPort A2) rfl ?_
         skip))
    refine (samePort_eq zPort A1 A2 w_40 m_47 m_48 lz1 lz2).mono ?_
    rintro e w_49 ⟨rfl, b_50⟩
    have zw_49 := b_50.size
    have B_51 := B_42.trans (b_50.mono B_42.size)
    have H_52 := (b_50.block _ (box_lt H_43)).trans H_43
    have H_53 := (b_50.block _ (box_lt H_44)).trans H_44
    have H_54 := (b_50.block _ (box_lt H_45)).trans H_45
    have m_55 := m_46.below b_50
    have m_56 := m_47.below b_50
    have m_57 := m_48.below b_50
    go_wp2
    go_ret
    exact ⟨rfl, B_51⟩
  · rcases wrote_cases hw with ⟨rfl, hs, rfl⟩ | ⟨rfl, rfl⟩ | ⟨rfl, rfl⟩ | ⟨rfl, rfl⟩
    · clear hw
      obtain ⟨YS, hYS⟩ : ∃ YS, YS = d.ys ++ [v] := ⟨_, rfl⟩
      have hYL : YS.length = d.ys.length + 1 := by rw [hYS]; simp
      have hYa := Nat.le_of_eq hYL
      clear hYL
      have hSR := sputR_yes hs
      rw [← hYS] at hR hv2 hSR
      clear hYS
      have HV2 := Lib.hid hv2
      clear hv2
      have HI := Lib.hid (fun x (e : Sent x a) h => write_at hR (implPortWrite_any d A _ v a x e h (by omega) (by omega) hX.out hY.out))
      have HJ := Lib.hid (fun x h => write_at hR (specPortWrite_any d A _ v x h (by omega) (by omega) hX.out hY.out))
      clear hR
      go_wp2_with (first
        | (go_skip; skip)
        | (refine wpList_store_any _ rfl rfl (by rfl) (b := w_1.heap.size) (off := 0) (n := 18) rfl rfl (vs := portC d A) rfl (heap_new_at w_1 (.cells (portC zPort zPortA) 34) _ rfl) (by kernel_rfl) rfl rfl (Nat.le_of_ble_eq_true rfl) (portC d A) rfl ?_
           intro w_4 H_5 g_6
           have b_7 : Below w_1.heap.size w_1 w_4 := below_only ((Below.refl _ _).alloc (Nat.le_refl _) _) g_6 (Nat.le_refl _)
           have zw_4 := b_7.size
           have B_8 := B_3.trans (b_7.mono B_3.size)
           have lH_5 := box_lt H_5
           have m_9 := hm.below b_7
           skip)
        | (refine wpList_load_box _ rfl (by rfl) (b := w_1.heap.size) (off := 0) (n := 18) rfl H_5 Tryd.underlying34 (by kernel_rfl) (Nat.le_of_ble_eq_true rfl) (portC d A) rfl ?_
           skip))
      refine (HI.out w_4 (hE.below B_8) m_9).mono ?_
      rintro e w_58 ⟨A1, rfl, Ox1, Oy1, b_59⟩
      have zw_58 := b_59.size
      have B_60 := B_8.trans (b_59.mono B_8.size)
      have H_61 := (b_59.block _ (box_lt H_5)).trans H_5
      have m_62 := m_9.below b_59
      have n1 : PortM _ { d with ys := YS } A1 := ⟨own_cells Ox1, own_cells Oy1⟩
      clear Ox1 Oy1
      go_wp2_with (first
        | (go_skip; skip)
        | (refine wpList_store_any _ rfl rfl (by rfl) (b := w_58.heap.size) (off := 0) (n := 18) rfl rfl (vs := portC { d with ys := YS } A1) rfl (heap_new_at w_58 (.cells (portC zPort zPortA) 34) _ rfl) (by kernel_rfl) rfl rfl (Nat.le_of_ble_eq_true rfl) (portC { d with ys := YS } A1) rfl ?_
           intro w_63 H_64 g_65
           have b_66 : Below w_58.heap.size w_58 w_63 := below_only ((Below.refl _ _).alloc (Nat.le_refl _) _) g_65 (Nat.le_refl _)
           have zw_63 := b_66.size
           have B_67 := B_60.trans (b_66.mono B_60.size)
           have lH_64 := box_lt H_64
           have H_68 := (b_66.block _ (box_lt H_61)).trans H_61
           have m_69 := m_62.below b_66
           have m_70 := n1.below b_66
           skip)
        | (refine wpList_load_box _ rfl (by rfl) (b := w_1.heap.size) (off := 0) (n := 18) rfl H_68 Tryd.underlying34 (by kernel_rfl) (Nat.le_of_ble_eq_true rfl) (portC d A) rfl ?_
           skip))
      refine (HJ.out w_63 m_69).mono ?_
      rintro e w_71 ⟨A2, rfl, Ox2, Oy2, b_72⟩
      have zw_71 := b_72.size
      have B_73 := B_67.trans (b_72.mono B_67.size)
      have H_74 := (b_72.block _ (box_lt H_68)).trans H_68
      have H_75 := (b_72.block _ (box_lt H_64)).trans H_64
      have m_76 := m_69.below b_72
      have m_77 := m_70.below b_72
      have n2 : PortM _ { d with ys := YS } A2 := ⟨own_cells Ox2, own_cells Oy2⟩
      clear Ox2 Oy2
      go_wp2_with (first
        | (go_skip; skip)
        | (refine wpList_store_any _ rfl rfl (by rfl) (b := w_71.heap.size) (off := 0) (n := 18) rfl rfl (vs := portC { d with ys := YS } A2) rfl (heap_new_at w_71 (.cells (portC zPort zPortA) 34) _ rfl) (by kernel_rfl) rfl rfl (Nat.le_of_ble_eq_true rfl) (portC { d with ys := YS } A2) rfl ?_
           intro w_78 H_79 g_80
           have b_81 : Below w_71.heap.size w_71 w_78 := below_only ((Below.refl _ _).alloc (Nat.le_refl _) _) g_80 (Nat.le_refl _)
           have zw_78 := b_81.size
           have B_82 := B_73.trans (b_81.mono B_73.size)
           have lH_79 := box_lt H_79
           have H_83 := (b_81.block _ (box_lt H_74)).trans H_74
           have H_84 := (b_81.block _ (box_lt H_75)).trans H_75
           have m_85 := m_76.below b_81
           have m_86 := m_77.below b_81
           have m_87 := n2.below b_81
           skip)
        | (refine wpList_load_box _ rfl (by rfl) (b := w_58.heap.size) (off := 0) (n := 18) rfl H_84 Tryd.underlying34 (by kernel_rfl) (Nat.le_of_ble_eq_true rfl) (portC { d with ys := YS } A1) rfl ?_
           skip)
        | (refine wpList_load_box _ rfl (by rfl) (b := w_71.heap.size) (off := 0) (n := 18) rfl H_79 Tryd.underlying34 (by kernel_rfl) (Nat.le_of_ble_eq_true rfl) (portC { d with ys := YS } A2) rfl ?_
           skip))
      refine (samePort_eq { d with ys := YS } A1 A2 w_78 m_86 m_87 (by dsimp only; omega) (by dsimp only; omega)).mono ?_
      rintro e w_88 ⟨rfl, b_89⟩
      have zw_88 := b_89.size
      have B_90 := B_82.trans (b_89.mono B_82.size)
      have H_91 := (b_89.block _ (box_lt H_83)).trans H_83
      have H_92 := (b_89.block _ (box_lt H_84)).trans H_84
      have H_93 := (b_89.block _ (box_lt H_79)).trans H_79
      have m_94 := m_85.below b_89
      have m_95 := m_86.below b_89
      have m_96 := m_87.below b_89
      go_wp2_with (first
        | (go_skip; skip)
        | (refine wpList_load_box _ rfl (by rfl) (b := w_1.heap.size) (off := 10) (n := 4) rfl H_91 Tryd.underlying30 (by kernel_rfl) (Nat.le_of_ble_eq_true rfl) (#[.int .i64 d.sr, .slice A.ay d.ys.length A.cy, .int .i64 d.sh, .int .i64 d.sl]) rfl ?_
           skip))
      refine (sput_at hSR (implSendPut_any d.sr A.ay d.ys A.cy d.sh d.sl v w_88 (m_94).2 (by omega))).mono ?_
      rintro e w_97 ⟨a3, c3, rfl, o3, b_98⟩
      have zw_97 := b_98.size
      have B_99 := B_90.trans (b_98.mono B_90.size)
      have H_100 := (b_98.block _ (box_lt H_91)).trans H_91
      have H_101 := (b_98.block _ (box_lt H_92)).trans H_92
      have H_102 := (b_98.block _ (box_lt H_93)).trans H_93
      have m_103 := m_94.below b_98
      have m_104 := m_95.below b_98
      have m_105 := m_96.below b_98
      have i3 := own_cells o3
      clear o3
      go_wp2_with (first
        | (go_skip; skip)
        | (refine wpList_store_any _ rfl rfl (by rfl) (b := w_97.heap.size) (off := 0) (n := 4) rfl rfl (vs := #[.int .i64 d.sr, .slice a3 YS.length c3, .int .i64 d.sh, .int .i64 d.sl]) rfl (heap_new_at w_97 (.cells #[.int .i64 0, .slice none 0 0, .int .i64 0, .int .i64 0] 30) _ rfl) (by kernel_rfl) rfl rfl (Nat.le_of_ble_eq_true rfl) (#[.int .i64 d.sr, .slice a3 YS.length c3, .int .i64 d.sh, .int .i64 d.sl]) rfl ?_
           intro w_106 H_107 g_108
           have b_109 : Below w_97.heap.size w_97 w_106 := below_only ((Below.refl _ _).alloc (Nat.le_refl _) _) g_108 (Nat.le_refl _)
           have zw_106 := b_109.size
           have B_110 := B_99.trans (b_109.mono B_99.size)
           have lH_107 := box_lt H_107
           have H_111 := (b_109.block _ (box_lt H_100)).trans H_100
           have H_112 := (b_109.block _ (box_lt H_101)).trans H_101
           have H_113 := (b_109.block _ (box_lt H_102)).trans H_102
           have m_114 := m_103.below b_109
           have m_115 := m_104.below b_109
           have m_116 := m_105.below b_109
           have m_117 := i3.below b_109
           skip)
        | (refine wpList_load_box _ rfl (by rfl) (b := w_1.heap.size) (off := 0) (n := 18) rfl H_111 Tryd.underlying34 (by kernel_rfl) (Nat.le_of_ble_eq_true rfl) (portC d A) rfl ?_
           skip)
        | (refine wpList_store_any _ rfl rfl (by rfl) (b := w_106.heap.size) (off := 0) (n := 18) rfl rfl (vs := portC d A) rfl (heap_new_at w_106 (.cells (portC zPort zPortA) 34) _ rfl) (by kernel_rfl) rfl rfl (Nat.le_of_ble_eq_true rfl) (portC d A) rfl ?_
           intro w_118 H_119 g_120
           have b_121 : Below w_106.heap.size w_106 w_118 := below_only ((Below.refl _ _).alloc (Nat.le_refl _) _) g_120 (Nat.le_refl _)
           have zw_118 := b_121.size
           have B_122 := B_110.trans (b_121.mono B_110.size)
           have lH_119 := box_lt H_119
           have H_123 := (b_121.block _ (box_lt H_111)).trans H_111
           have H_124 := (b_121.block _ (box_lt H_112)).trans H_112
           have H_125 := (b_121.block _ (box_lt H_113)).trans H_113
           have H_126 := (b_121.block _ (box_lt H_107)).trans H_107
           have m_127 := m_114.below b_121
           have m_128 := m_115.below b_121
           have m_129 := m_116.below b_121
           have m_130 := m_117.below b_121
           skip)
        | (refine wpList_load_box _ rfl (by rfl) (b := w_97.heap.size) (off := 0) (n := 4) rfl H_126 Tryd.underlying30 (by kernel_rfl) (Nat.le_of_ble_eq_true rfl) (#[.int .i64 d.sr, .slice a3 YS.length c3, .int .i64 d.sh, .int .i64 d.sl]) rfl ?_
           skip)
        | (refine wpList_store_any _ rfl rfl (by rfl) (b := w_106.heap.size) (off := 10) (n := 4) rfl rfl (vs := #[.int .i64 d.sr, .slice a3 YS.length c3, .int .i64 d.sh, .int .i64 d.sl]) rfl H_119 (by kernel_rfl) rfl rfl (Nat.le_of_ble_eq_true rfl) (portC { d with ys := YS } ⟨A.ax, A.cx, a3, c3⟩) rfl ?_
           intro w_131 H_132 g_133
           have zw_131 := g_133.size
           have B_134 := below_only B_122 g_133 (by omega)
           have H_135 := box_only' H_123 g_133 (by omega)
           have H_136 := box_only' H_124 g_133 (by omega)
           have H_137 := box_only' H_125 g_133 (by omega)
           have H_138 := box_only' H_126 g_133 (by omega)
           have b_139 : Below w_106.heap.size w_106 w_131 := below_only b_121 g_133 (Nat.le_refl _)
           have m_140 := m_114.below b_139
           have m_141 := m_115.below b_139
           have m_142 := m_116.below b_139
           have m_143 := m_117.below b_139
           skip)
        | (refine wpList_load_box _ rfl (by rfl) (b := w_58.heap.size) (off := 0) (n := 18) rfl H_136 Tryd.underlying34 (by kernel_rfl) (Nat.le_of_ble_eq_true rfl) (portC { d with ys := YS } A1) rfl ?_
           skip)
        | (refine wpList_load_box _ rfl (by rfl) (b := w_106.heap.size) (off := 0) (n := 18) rfl H_132 Tryd.underlying34 (by kernel_rfl) (Nat.le_of_ble_eq_true rfl) (portC { d with ys := YS } ⟨A.ax, A.cx, a3, c3⟩) rfl ?_
           skip))
      refine (samePort_eq { d with ys := YS } A1 ⟨A.ax, A.cx, a3, c3⟩ w_131 m_141 ⟨(m_140).1, m_143⟩ (by dsimp only; omega) (by dsimp only; omega)).mono ?_
      rintro e w_144 ⟨rfl, b_145⟩
      have zw_144 := b_145.size
      have B_146 := B_134.trans (b_145.mono B_134.size)
      have H_147 := (b_145.block _ (box_lt H_135)).trans H_135
      have H_148 := (b_145.block _ (box_lt H_136)).trans H_136
      have H_149 := (b_145.block _ (box_lt H_137)).trans H_137
      have H_150 := (b_145.block _ (box_lt H_138)).trans H_138
      have H_151 := (b_145.block _ (box_lt H_132)).trans H_132
      have m_152 := m_140.below b_145
      have m_153 := m_141.below b_145
      have m_154 := m_142.below b_145
      have m_155 := m_143.below b_145
      go_wp2
      go_ret
      exact ⟨rfl, B_146⟩
    · clear hw
      have HV2 := Lib.hid hv2
      clear hv2
      have HI := Lib.hid (fun x (e : Sent x a) h => write_at hR (implPortWrite_any d A _ v a x e h (by omega) (by omega) hX.out hY.out))
      have HJ := Lib.hid (fun x h => write_at hR (specPortWrite_any d A _ v x h (by omega) (by omega) hX.out hY.out))
      clear hR
      go_wp2_with (first
        | (go_skip; skip)
        | (refine wpList_store_any _ rfl rfl (by rfl) (b := w_1.heap.size) (off := 0) (n := 18) rfl rfl (vs := portC d A) rfl (heap_new_at w_1 (.cells (portC zPort zPortA) 34) _ rfl) (by kernel_rfl) rfl rfl (Nat.le_of_ble_eq_true rfl) (portC d A) rfl ?_
           intro w_4 H_5 g_6
           have b_7 : Below w_1.heap.size w_1 w_4 := below_only ((Below.refl _ _).alloc (Nat.le_refl _) _) g_6 (Nat.le_refl _)
           have zw_4 := b_7.size
           have B_8 := B_3.trans (b_7.mono B_3.size)
           have lH_5 := box_lt H_5
           have m_9 := hm.below b_7
           skip)
        | (refine wpList_load_box _ rfl (by rfl) (b := w_1.heap.size) (off := 0) (n := 18) rfl H_5 Tryd.underlying34 (by kernel_rfl) (Nat.le_of_ble_eq_true rfl) (portC d A) rfl ?_
           skip))
      refine (HI.out w_4 (hE.below B_8) m_9).mono ?_
      rintro e w_156 ⟨A1, rfl, Ox1, Oy1, b_157⟩
      have zw_156 := b_157.size
      have B_158 := B_8.trans (b_157.mono B_8.size)
      have H_159 := (b_157.block _ (box_lt H_5)).trans H_5
      have m_160 := m_9.below b_157
      have n1 : PortM _ { d with en := v } A1 := ⟨own_cells Ox1, own_cells Oy1⟩
      clear Ox1 Oy1
      go_wp2_with (first
        | (go_skip; skip)
        | (refine wpList_store_any _ rfl rfl (by rfl) (b := w_156.heap.size) (off := 0) (n := 18) rfl rfl (vs := portC { d with en := v } A1) rfl (heap_new_at w_156 (.cells (portC zPort zPortA) 34) _ rfl) (by kernel_rfl) rfl rfl (Nat.le_of_ble_eq_true rfl) (portC { d with en := v } A1) rfl ?_
           intro w_161 H_162 g_163
           have b_164 : Below w_156.heap.size w_156 w_161 := below_only ((Below.refl _ _).alloc (Nat.le_refl _) _) g_163 (Nat.le_refl _)
           have zw_161 := b_164.size
           have B_165 := B_158.trans (b_164.mono B_158.size)
           have lH_162 := box_lt H_162
           have H_166 := (b_164.block _ (box_lt H_159)).trans H_159
           have m_167 := m_160.below b_164
           have m_168 := n1.below b_164
           skip)
        | (refine wpList_load_box _ rfl (by rfl) (b := w_1.heap.size) (off := 0) (n := 18) rfl H_166 Tryd.underlying34 (by kernel_rfl) (Nat.le_of_ble_eq_true rfl) (portC d A) rfl ?_
           skip))
      refine (HJ.out w_161 m_167).mono ?_
      rintro e w_169 ⟨A2, rfl, Ox2, Oy2, b_170⟩
      have zw_169 := b_170.size
      have B_171 := B_165.trans (b_170.mono B_165.size)
      have H_172 := (b_170.block _ (box_lt H_166)).trans H_166
      have H_173 := (b_170.block _ (box_lt H_162)).trans H_162
      have m_174 := m_167.below b_170
      have m_175 := m_168.below b_170
      have n2 : PortM _ { d with en := v } A2 := ⟨own_cells Ox2, own_cells Oy2⟩
      clear Ox2 Oy2
      go_wp2_with (first
        | (go_skip; skip)
        | (refine wpList_store_any _ rfl rfl (by rfl) (b := w_169.heap.size) (off := 0) (n := 18) rfl rfl (vs := portC { d with en := v } A2) rfl (heap_new_at w_169 (.cells (portC zPort zPortA) 34) _ rfl) (by kernel_rfl) rfl rfl (Nat.le_of_ble_eq_true rfl) (portC { d with en := v } A2) rfl ?_
           intro w_176 H_177 g_178
           have b_179 : Below w_169.heap.size w_169 w_176 := below_only ((Below.refl _ _).alloc (Nat.le_refl _) _) g_178 (Nat.le_refl _)
           have zw_176 := b_179.size
           have B_180 := B_171.trans (b_179.mono B_171.size)
           have lH_177 := box_lt H_177
           have H_181 := (b_179.block _ (box_lt H_172)).trans H_172
           have H_182 := (b_179.block _ (box_lt H_173)).trans H_173
           have m_183 := m_174.below b_179
           have m_184 := m_175.below b_179
           have m_185 := n2.below b_179
           skip)
        | (refine wpList_load_box _ rfl (by rfl) (b := w_156.heap.size) (off := 0) (n := 18) rfl H_182 Tryd.underlying34 (by kernel_rfl) (Nat.le_of_ble_eq_true rfl) (portC { d with en := v } A1) rfl ?_
           skip)
        | (refine wpList_load_box _ rfl (by rfl) (b := w_169.heap.size) (off := 0) (n := 18) rfl H_177 Tryd.underlying34 (by kernel_rfl) (Nat.le_of_ble_eq_true rfl) (portC { d with en := v } A2) rfl ?_
           skip))
      refine (samePort_eq { d with en := v } A1 A2 w_176 m_184 m_185 (by dsimp only; omega) (by dsimp only; omega)).mono ?_
      rintro e w_186 ⟨rfl, b_187⟩
      have zw_186 := b_187.size
      have B_188 := B_180.trans (b_187.mono B_180.size)
      have H_189 := (b_187.block _ (box_lt H_181)).trans H_181
      have H_190 := (b_187.block _ (box_lt H_182)).trans H_182
      have H_191 := (b_187.block _ (box_lt H_177)).trans H_177
      have m_192 := m_183.below b_187
      have m_193 := m_184.below b_187
      have m_194 := m_185.below b_187
      go_wp2_with (first
        | (go_skip; skip)
        | (refine wpList_load_box _ rfl (by rfl) (b := w_156.heap.size) (off := 10) (n := 4) rfl H_190 Tryd.underlying30 (by kernel_rfl) (Nat.le_of_ble_eq_true rfl) (#[.int .i64 d.sr, .slice A1.ay d.ys.length A1.cy, .int .i64 d.sh, .int .i64 d.sl]) rfl ?_
           skip)
        | (refine wpList_load_box _ rfl (by rfl) (b := w_1.heap.size) (off := 10) (n := 4) rfl H_189 Tryd.underlying30 (by kernel_rfl) (Nat.le_of_ble_eq_true rfl) (#[.int .i64 d.sr, .slice A.ay d.ys.length A.cy, .int .i64 d.sh, .int .i64 d.sl]) rfl ?_
           skip))
      refine (sameSend_any d.sr d.sh d.sl d.sr d.sh d.sl A1.ay A.ay d.ys d.ys A1.cy A.cy w_186 (m_193).2 (m_192).2 (by omega) (by omega)).mono ?_
      rintro e w_195 ⟨rfl, b_196⟩
      have zw_195 := b_196.size
      have B_197 := B_188.trans (b_196.mono B_188.size)
      have H_198 := (b_196.block _ (box_lt H_189)).trans H_189
      have H_199 := (b_196.block _ (box_lt H_190)).trans H_190
      have H_200 := (b_196.block _ (box_lt H_191)).trans H_191
      have m_201 := m_192.below b_196
      have m_202 := m_193.below b_196
      have m_203 := m_194.below b_196
      go_wp2
      go_ret
      exact ⟨rfl, B_197⟩
    · clear hw
      have HV2 := Lib.hid hv2
      clear hv2
      have HI := Lib.hid (fun x (e : Sent x a) h => write_at hR (implPortWrite_any d A _ v a x e h (by omega) (by omega) hX.out hY.out))
      have HJ := Lib.hid (fun x h => write_at hR (specPortWrite_any d A _ v x h (by omega) (by omega) hX.out hY.out))
      clear hR
      go_wp2_with (first
        | (go_skip; skip)
        | (refine wpList_store_any _ rfl rfl (by rfl) (b := w_1.heap.size) (off := 0) (n := 18) rfl rfl (vs := portC d A) rfl (heap_new_at w_1 (.cells (portC zPort zPortA) 34) _ rfl) (by kernel_rfl) rfl rfl (Nat.le_of_ble_eq_true rfl) (portC d A) rfl ?_
           intro w_4 H_5 g_6
           have b_7 : Below w_1.heap.size w_1 w_4 := below_only ((Below.refl _ _).alloc (Nat.le_refl _) _) g_6 (Nat.le_refl _)
           have zw_4 := b_7.size
           have B_8 := B_3.trans (b_7.mono B_3.size)
           have lH_5 := box_lt H_5
           have m_9 := hm.below b_7
           skip)
        | (refine wpList_load_box _ rfl (by rfl) (b := w_1.heap.size) (off := 0) (n := 18) rfl H_5 Tryd.underlying34 (by kernel_rfl) (Nat.le_of_ble_eq_true rfl) (portC d A) rfl ?_
           skip))
      refine (HI.out w_4 (hE.below B_8) m_9).mono ?_
      rintro e w_204 ⟨A1, rfl, Ox1, Oy1, b_205⟩
      have zw_204 := b_205.size
      have B_206 := B_8.trans (b_205.mono B_8.size)
      have H_207 := (b_205.block _ (box_lt H_5)).trans H_5
      have m_208 := m_9.below b_205
      have n1 : PortM _ { d with b := 5 + v % 4, p := fmtP v, s := 1 + v / 4 % 2 } A1 := ⟨own_cells Ox1, own_cells Oy1⟩
      clear Ox1 Oy1
      go_wp2_with (first
        | (go_skip; skip)
        | (refine wpList_store_any _ rfl rfl (by rfl) (b := w_204.heap.size) (off := 0) (n := 18) rfl rfl (vs := portC { d with b := 5 + v % 4, p := fmtP v, s := 1 + v / 4 % 2 } A1) rfl (heap_new_at w_204 (.cells (portC zPort zPortA) 34) _ rfl) (by kernel_rfl) rfl rfl (Nat.le_of_ble_eq_true rfl) (portC { d with b := 5 + v % 4, p := fmtP v, s := 1 + v / 4 % 2 } A1) rfl ?_
           intro w_209 H_210 g_211
           have b_212 : Below w_204.heap.size w_204 w_209 := below_only ((Below.refl _ _).alloc (Nat.le_refl _) _) g_211 (Nat.le_refl _)
           have zw_209 := b_212.size
           have B_213 := B_206.trans (b_212.mono B_206.size)
           have lH_210 := box_lt H_210
           have H_214 := (b_212.block _ (box_lt H_207)).trans H_207
           have m_215 := m_208.below b_212
           have m_216 := n1.below b_212
           skip)
        | (refine wpList_load_box _ rfl (by rfl) (b := w_1.heap.size) (off := 0) (n := 18) rfl H_214 Tryd.underlying34 (by kernel_rfl) (Nat.le_of_ble_eq_true rfl) (portC d A) rfl ?_
           skip))
      refine (HJ.out w_209 m_215).mono ?_
      rintro e w_217 ⟨A2, rfl, Ox2, Oy2, b_218⟩
      have zw_217 := b_218.size
      have B_219 := B_213.trans (b_218.mono B_213.size)
      have H_220 := (b_218.block _ (box_lt H_214)).trans H_214
      have H_221 := (b_218.block _ (box_lt H_210)).trans H_210
      have m_222 := m_215.below b_218
      have m_223 := m_216.below b_218
      have n2 : PortM _ { d with b := 5 + v % 4, p := fmtP v, s := 1 + v / 4 % 2 } A2 := ⟨own_cells Ox2, own_cells Oy2⟩
      clear Ox2 Oy2
      go_wp2_with (first
        | (go_skip; skip)
        | (refine wpList_store_any _ rfl rfl (by rfl) (b := w_217.heap.size) (off := 0) (n := 18) rfl rfl (vs := portC { d with b := 5 + v % 4, p := fmtP v, s := 1 + v / 4 % 2 } A2) rfl (heap_new_at w_217 (.cells (portC zPort zPortA) 34) _ rfl) (by kernel_rfl) rfl rfl (Nat.le_of_ble_eq_true rfl) (portC { d with b := 5 + v % 4, p := fmtP v, s := 1 + v / 4 % 2 } A2) rfl ?_
           intro w_224 H_225 g_226
           have b_227 : Below w_217.heap.size w_217 w_224 := below_only ((Below.refl _ _).alloc (Nat.le_refl _) _) g_226 (Nat.le_refl _)
           have zw_224 := b_227.size
           have B_228 := B_219.trans (b_227.mono B_219.size)
           have lH_225 := box_lt H_225
           have H_229 := (b_227.block _ (box_lt H_220)).trans H_220
           have H_230 := (b_227.block _ (box_lt H_221)).trans H_221
           have m_231 := m_222.below b_227
           have m_232 := m_223.below b_227
           have m_233 := n2.below b_227
           skip)
        | (refine wpList_load_box _ rfl (by rfl) (b := w_204.heap.size) (off := 0) (n := 18) rfl H_230 Tryd.underlying34 (by kernel_rfl) (Nat.le_of_ble_eq_true rfl) (portC { d with b := 5 + v % 4, p := fmtP v, s := 1 + v / 4 % 2 } A1) rfl ?_
           skip)
        | (refine wpList_load_box _ rfl (by rfl) (b := w_217.heap.size) (off := 0) (n := 18) rfl H_225 Tryd.underlying34 (by kernel_rfl) (Nat.le_of_ble_eq_true rfl) (portC { d with b := 5 + v % 4, p := fmtP v, s := 1 + v / 4 % 2 } A2) rfl ?_
           skip))
      refine (samePort_eq { d with b := 5 + v % 4, p := fmtP v, s := 1 + v / 4 % 2 } A1 A2 w_224 m_232 m_233 (by dsimp only; omega) (by dsimp only; omega)).mono ?_
      rintro e w_234 ⟨rfl, b_235⟩
      have zw_234 := b_235.size
      have B_236 := B_228.trans (b_235.mono B_228.size)
      have H_237 := (b_235.block _ (box_lt H_229)).trans H_229
      have H_238 := (b_235.block _ (box_lt H_230)).trans H_230
      have H_239 := (b_235.block _ (box_lt H_225)).trans H_225
      have m_240 := m_231.below b_235
      have m_241 := m_232.below b_235
      have m_242 := m_233.below b_235
      go_wp2_with (first
        | (go_skip; skip)
        | (refine wpList_load_box _ rfl (by rfl) (b := w_204.heap.size) (off := 10) (n := 4) rfl H_238 Tryd.underlying30 (by kernel_rfl) (Nat.le_of_ble_eq_true rfl) (#[.int .i64 d.sr, .slice A1.ay d.ys.length A1.cy, .int .i64 d.sh, .int .i64 d.sl]) rfl ?_
           skip)
        | (refine wpList_load_box _ rfl (by rfl) (b := w_1.heap.size) (off := 10) (n := 4) rfl H_237 Tryd.underlying30 (by kernel_rfl) (Nat.le_of_ble_eq_true rfl) (#[.int .i64 d.sr, .slice A.ay d.ys.length A.cy, .int .i64 d.sh, .int .i64 d.sl]) rfl ?_
           skip))
      refine (sameSend_any d.sr d.sh d.sl d.sr d.sh d.sl A1.ay A.ay d.ys d.ys A1.cy A.cy w_234 (m_241).2 (m_240).2 (by omega) (by omega)).mono ?_
      rintro e w_243 ⟨rfl, b_244⟩
      have zw_243 := b_244.size
      have B_245 := B_236.trans (b_244.mono B_236.size)
      have H_246 := (b_244.block _ (box_lt H_237)).trans H_237
      have H_247 := (b_244.block _ (box_lt H_238)).trans H_238
      have H_248 := (b_244.block _ (box_lt H_239)).trans H_239
      have m_249 := m_240.below b_244
      have m_250 := m_241.below b_244
      have m_251 := m_242.below b_244
      go_wp2
      go_ret
      exact ⟨rfl, B_245⟩
    · clear hw
      have HV2 := Lib.hid hv2
      clear hv2
      have HI := Lib.hid (fun x (e : Sent x a) h => write_at hR (implPortWrite_any d A _ v a x e h (by omega) (by omega) hX.out hY.out))
      have HJ := Lib.hid (fun x h => write_at hR (specPortWrite_any d A _ v x h (by omega) (by omega) hX.out hY.out))
      clear hR
      go_wp2_with (first
        | (go_skip; skip)
        | (refine wpList_store_any _ rfl rfl (by rfl) (b := w_1.heap.size) (off := 0) (n := 18) rfl rfl (vs := portC d A) rfl (heap_new_at w_1 (.cells (portC zPort zPortA) 34) _ rfl) (by kernel_rfl) rfl rfl (Nat.le_of_ble_eq_true rfl) (portC d A) rfl ?_
           intro w_4 H_5 g_6
           have b_7 : Below w_1.heap.size w_1 w_4 := below_only ((Below.refl _ _).alloc (Nat.le_refl _) _) g_6 (Nat.le_refl _)
           have zw_4 := b_7.size
           have B_8 := B_3.trans (b_7.mono B_3.size)
           have lH_5 := box_lt H_5
           have m_9 := hm.below b_7
           skip)
        | (refine wpList_load_box _ rfl (by rfl) (b := w_1.heap.size) (off := 0) (n := 18) rfl H_5 Tryd.underlying34 (by kernel_rfl) (Nat.le_of_ble_eq_true rfl) (portC d A) rfl ?_
           skip))
      refine (HI.out w_4 (hE.below B_8) m_9).mono ?_
      rintro e w_252 ⟨A1, rfl, Ox1, Oy1, b_253⟩
      have zw_252 := b_253.size
      have B_254 := B_8.trans (b_253.mono B_8.size)
      have H_255 := (b_253.block _ (box_lt H_5)).trans H_5
      have m_256 := m_9.below b_253
      have n1 : PortM _ { d with co := v } A1 := ⟨own_cells Ox1, own_cells Oy1⟩
      clear Ox1 Oy1
      go_wp2_with (first
        | (go_skip; skip)
        | (refine wpList_store_any _ rfl rfl (by rfl) (b := w_252.heap.size) (off := 0) (n := 18) rfl rfl (vs := portC { d with co := v } A1) rfl (heap_new_at w_252 (.cells (portC zPort zPortA) 34) _ rfl) (by kernel_rfl) rfl rfl (Nat.le_of_ble_eq_true rfl) (portC { d with co := v } A1) rfl ?_
           intro w_257 H_258 g_259
           have b_260 : Below w_252.heap.size w_252 w_257 := below_only ((Below.refl _ _).alloc (Nat.le_refl _) _) g_259 (Nat.le_refl _)
           have zw_257 := b_260.size
           have B_261 := B_254.trans (b_260.mono B_254.size)
           have lH_258 := box_lt H_258
           have H_262 := (b_260.block _ (box_lt H_255)).trans H_255
           have m_263 := m_256.below b_260
           have m_264 := n1.below b_260
           skip)
        | (refine wpList_load_box _ rfl (by rfl) (b := w_1.heap.size) (off := 0) (n := 18) rfl H_262 Tryd.underlying34 (by kernel_rfl) (Nat.le_of_ble_eq_true rfl) (portC d A) rfl ?_
           skip))
      refine (HJ.out w_257 m_263).mono ?_
      rintro e w_265 ⟨A2, rfl, Ox2, Oy2, b_266⟩
      have zw_265 := b_266.size
      have B_267 := B_261.trans (b_266.mono B_261.size)
      have H_268 := (b_266.block _ (box_lt H_262)).trans H_262
      have H_269 := (b_266.block _ (box_lt H_258)).trans H_258
      have m_270 := m_263.below b_266
      have m_271 := m_264.below b_266
      have n2 : PortM _ { d with co := v } A2 := ⟨own_cells Ox2, own_cells Oy2⟩
      clear Ox2 Oy2
      go_wp2_with (first
        | (go_skip; skip)
        | (refine wpList_store_any _ rfl rfl (by rfl) (b := w_265.heap.size) (off := 0) (n := 18) rfl rfl (vs := portC { d with co := v } A2) rfl (heap_new_at w_265 (.cells (portC zPort zPortA) 34) _ rfl) (by kernel_rfl) rfl rfl (Nat.le_of_ble_eq_true rfl) (portC { d with co := v } A2) rfl ?_
           intro w_272 H_273 g_274
           have b_275 : Below w_265.heap.size w_265 w_272 := below_only ((Below.refl _ _).alloc (Nat.le_refl _) _) g_274 (Nat.le_refl _)
           have zw_272 := b_275.size
           have B_276 := B_267.trans (b_275.mono B_267.size)
           have lH_273 := box_lt H_273
           have H_277 := (b_275.block _ (box_lt H_268)).trans H_268
           have H_278 := (b_275.block _ (box_lt H_269)).trans H_269
           have m_279 := m_270.below b_275
           have m_280 := m_271.below b_275
           have m_281 := n2.below b_275
           skip)
        | (refine wpList_load_box _ rfl (by rfl) (b := w_252.heap.size) (off := 0) (n := 18) rfl H_278 Tryd.underlying34 (by kernel_rfl) (Nat.le_of_ble_eq_true rfl) (portC { d with co := v } A1) rfl ?_
           skip)
        | (refine wpList_load_box _ rfl (by rfl) (b := w_265.heap.size) (off := 0) (n := 18) rfl H_273 Tryd.underlying34 (by kernel_rfl) (Nat.le_of_ble_eq_true rfl) (portC { d with co := v } A2) rfl ?_
           skip))
      refine (samePort_eq { d with co := v } A1 A2 w_272 m_280 m_281 (by dsimp only; omega) (by dsimp only; omega)).mono ?_
      rintro e w_282 ⟨rfl, b_283⟩
      have zw_282 := b_283.size
      have B_284 := B_276.trans (b_283.mono B_276.size)
      have H_285 := (b_283.block _ (box_lt H_277)).trans H_277
      have H_286 := (b_283.block _ (box_lt H_278)).trans H_278
      have H_287 := (b_283.block _ (box_lt H_273)).trans H_273
      have m_288 := m_279.below b_283
      have m_289 := m_280.below b_283
      have m_290 := m_281.below b_283
      go_wp2_with (first
        | (go_skip; skip)
        | (refine wpList_load_box _ rfl (by rfl) (b := w_252.heap.size) (off := 10) (n := 4) rfl H_286 Tryd.underlying30 (by kernel_rfl) (Nat.le_of_ble_eq_true rfl) (#[.int .i64 d.sr, .slice A1.ay d.ys.length A1.cy, .int .i64 d.sh, .int .i64 d.sl]) rfl ?_
           skip)
        | (refine wpList_load_box _ rfl (by rfl) (b := w_1.heap.size) (off := 10) (n := 4) rfl H_285 Tryd.underlying30 (by kernel_rfl) (Nat.le_of_ble_eq_true rfl) (#[.int .i64 d.sr, .slice A.ay d.ys.length A.cy, .int .i64 d.sh, .int .i64 d.sl]) rfl ?_
           skip))
      refine (sameSend_any d.sr d.sh d.sl d.sr d.sh d.sl A1.ay A.ay d.ys d.ys A1.cy A.cy w_282 (m_289).2 (m_288).2 (by omega) (by omega)).mono ?_
      rintro e w_291 ⟨rfl, b_292⟩
      have zw_291 := b_292.size
      have B_293 := B_284.trans (b_292.mono B_284.size)
      have H_294 := (b_292.block _ (box_lt H_285)).trans H_285
      have H_295 := (b_292.block _ (box_lt H_286)).trans H_286
      have H_296 := (b_292.block _ (box_lt H_287)).trans H_287
      have m_297 := m_288.below b_292
      have m_298 := m_289.below b_292
      have m_299 := m_290.below b_292
      go_wp2
      go_ret
      exact ⟨rfl, B_293⟩

set_option linter.unusedVariables false in
set_option maxRecDepth 100000 in
theorem FnWriteData_lifted (os : Os) (started : os.Started) (H : Type) (enc : TypeId × Value → H) :
    ReturnsInHanded {} Tryd.checked os 4 .any (fun w args => (Rows.fnWriteDataSpec.pre enc Tryd.prog Tryd.f4 [] false w args ∧ laidMetH Tryd.prog laid1 w) ∧ sizedMet enc Tryd.prog Tryd.f4 (OpenSpec.ofChange Rows.fnWriteDataSpec) false w args)
      (Rows.fnWriteDataSpec.post enc Tryd.prog Tryd.f4 false true false false) := by
  refine returnsInHanded_of_change_and (C := Tryd.checked) (X := fun w _ => laidMetH Tryd.prog laid1 w) (fun _ _ _ hh h => h.of_heap hh) own_knob started (by kernel_rfl) Tryd.func4
    (ChangeSpec.witness_shaped (enc := enc) (C := Tryd.checked) (os := os) (X := fun w _ => laidMetH Tryd.prog laid1 w) false (World.doorLaid Tryd.prog 400 os) #[.slice none 0 0] 8 rfl (World.shaped_of_RefB (by kernel_rfl) (by kernel_rfl)) (by kernel_rfl) (by kernel_rfl) (by kernel_rfl) (door_met os _)) ?_
  intro W base args ds gs before hval0 hW _ _ hL _
  have hval : ∀ (j : Nat) t v, Tryd.f4.params[j]? = some t → args[j]? = some v → Value.okWide Tryd.prog W .any base t v := hval0
  have hW' := hW
  obtain ⟨p, q, hA0, hV0, rfl, hfz, hnd⟩ := hW
  have hA : DataW.TrodAll enc Tryd.prog W 0 (fun _ => true) true Tryd.f4.params.toList args.toList ds p := hA0
  have hV : DataW.TrodVars enc Tryd.prog W (fun _ => true) ["loop.example/serialpair/impl.errNoFormat"] gs q := hV0
  rw [Tryd.params4] at hA hval
  obtain ⟨v0, vs0, d0, ds0, p0, q0, hargs, rfl, rfl, h0, r0⟩ := trodAll_cons hA
  obtain ⟨rfl, rfl, rfl⟩ := trodAll_nil r0
  obtain rfl : args = #[v0] := by cases args; simp_all
  obtain ⟨a, hv, hE⟩ := sent_of_laid hL
  obtain ⟨rfl, rfl⟩ := hV.unique (vars_read1 enc gE gEType Tryd.underlying75 hv trivial _)
  have k0 := h0
  have lt0 : ∀ x ∈ p0, x.block < W.heap.size := by obtain ⟨m, hm⟩ := k0; exact DataW.trod_lt m _ _ _ hm
  obtain ⟨a0, len0, cap0, rfl⟩ := okWide_slice Tryd.underlying22 (hval 0 22 v0 rfl rfl)
  obtain ⟨z0, rfl, lc0, lm0, rz0⟩ : ∃ z : List Int, len0 = z.length ∧ z.length ≤ cap0 ∧ cap0 ≤ maxLen ∧ Bytes W a0 z := by
    obtain ⟨fuel, hf⟩ := h0
    obtain ⟨ao, cap, z, e, h1, h2, h3⟩ := rd_bytes hf
    simp [Value.cells] at e
    obtain ⟨rfl, rfl, rfl⟩ := e
    exact ⟨z, rfl, h1, h2, h3⟩
  clear hA0 hV0 hval0
  refine (FnWriteData_walk a0 z0 cap0 a W rz0 lc0 lm0 hE).mono fun e W' ⟨he, bel⟩ => ?_
  subst he
  exact ⟨_, rfl, _, _, _, [], _, [.cell 0 0], hW', trodAll_mk1 (shut_bool Tryd.underlying4 _), (trodAll_cons_mk (Below.trod laid_out (by kernel_rfl) (of_decide_eq_true (by kernel_rfl)) k0 bel lt0) trodAll_mk0), vars_read1 enc gE gEType Tryd.underlying75 (var_below hv bel) trivial _, bel.frame _, fun h => by cases h⟩

theorem FnWriteData_row : Rows.FnWriteDataSaid :=
  OpenClaim.holds_of_wide 4 Tryd.f4 rfl rfl rfl rfl rfl rfl rfl ⟨rfl, rfl, rfl, rfl, rfl⟩ rfl rfl rfl rfl rfl (by kernel_rfl) Tryd.func4 (by kernel_rfl)
    (of_decide_eq_true (by kernel_rfl)) (by unfold Func.isWrapper; first | (rw [if_pos (by decide +kernel)]; kernel_rfl) | (rw [if_neg (by decide +kernel)]; exact ⟨rfl, rfl⟩))
    (fun os started H enc _ => FnWriteData_lifted os started H enc)

theorem FnWriteData_holds : Rows.FnWriteDataCardSaid :=
  Claim7.holds_tied_plain_at .later [] [.sentinel] true (true, "a99c1b190165a49e5aca63c206a6e0f9d9069e97f3e02075d63f11c59f704da7") true
    FnWriteData_row (fun _ h => by cases h) (by kernel_rfl) (fun _ h => by cases h) fnWriteData_row_tie rfl ⟨rfl, rfl⟩ (by kernel_rfl) rfl
    (fun f fn hf hfn => by
      obtain rfl : f = 4 := Option.some.inj ((show Tryd.prog.funcNamed "loop.example/serialpair/laws.FnWriteData" = some 4 by kernel_rfl).symm.trans hf) |>.symm
      obtain rfl : fn = Tryd.f4 := (Option.some.inj (Tryd.func4.symm.trans hfn)).symm
      exact ⟨by kernel_rfl, fun j t ht => by
        rw [Tryd.params4] at ht
        have h3 : t = 22 := by
          rcases j with _ | j
          · simpa using ht.symm
          · simp at ht
        subst h3
        exact (show Tryd.prog.wantsStandIn 22 = false by kernel_rfl)⟩)
    (by kernel_rfl)
end Go.Proofs.YtkmampichfbppaaDoor
