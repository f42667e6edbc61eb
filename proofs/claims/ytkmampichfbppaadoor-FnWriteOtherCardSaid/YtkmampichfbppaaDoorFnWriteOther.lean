/- FnWriteOther: Only one register is written. No conditions beyond the statement's own. -/
import Derived.Test.YtkmampichfbppaaDoorWriteLaw
import Derived.Test.YtkmampichfbppaaDoorCard
import Derived.Test.YtkmampichfbppaaDoorCards
import Derived.Test.YtkmampichfbppaaDoorTie
import Derived.SevenTiedAt
namespace Go.Proofs.YtkmampichfbppaaDoor
open Go Go.ChangeShapes Go.WideShapes Go.ChangeAt Go.RowKit

set_option maxHeartbeats 8000000 in
set_option maxRecDepth 100000 in
theorem FnWriteOther_walk (a0 : Option Addr) (z0 : List Int) (cap0 : Nat) (a : Addr) (w : World) (rz0 : Bytes w a0 z0) (lc0 : z0.length ≤ cap0) (_lm0 : cap0 ≤ maxLen) (hE : Sent w a) :
    Calls Tryd.prog 3 #[.slice a0 z0.length cap0] w fun e w' => e = .returned (.bool true) ∧ Below w.heap.size w w' := by
  unfold maxLen at _lm0
  by_cases hn0 : (z0.length : Int) ≤ 1048576
  case neg =>
    have hn0' : (1048576 : Int) < (z0.length : Int) := by omega
    go_enter Tryd.func3, Tryd.ntmps3
    go_wp2
    go_ret
    exact ⟨rfl, Below.refl _ _⟩
  go_enter Tryd.func3, Tryd.ntmps3
  have B0 : Below w.heap.size w w := Below.refl _ _
  go_wp2_with fail
  refine (drawPortWrite_any a0 z0 cap0 w rz0 lc0 (by omega)).mono ?_
  rintro e w_1 ⟨d, A, reg, v, rfl, lg, ly, Ox, Oy, b_2⟩
  have zw_1 := b_2.size
  have B_3 := B0.trans (b_2.mono B0.size)
  have hm : PortM _ d A := ⟨own_cells Ox, own_cells Oy⟩
  have hX := Lib.hid (own_nilcap Ox)
  have hY := Lib.hid (own_nilcap Oy)
  clear Ox Oy
  rcases write_cases d reg v with hR | ⟨d2, hR, hv2, hv, hw⟩
  · have HI := Lib.hid (fun x (e : Sent x a) h => write_at hR (implPortWrite_any d A _ v a x e h (by omega) (by omega) hX.out hY.out))
    have HJ := Lib.hid (fun x h => write_at hR (specPortWrite_any d A _ v x h (by omega) (by omega) hX.out hY.out))
    go_wp2_with (first
      | (go_skip; skip)
      | (refine wpList_store_any _ rfl rfl (by rfl) (b := w_1.heap.size) (off := 0) (n := 18) rfl rfl (vs := portC d A) rfl (heap_new_at w_1 (.cells (portC zPort zPortA) 34) _ rfl) (by kernel_rfl) rfl rfl (Nat.le_of_ble_eq_true rfl) (portC d A) rfl ?_
         intro w_4 H_5 g_6
         have b_7 : Below w_1.heap.size w_1 w_4 := below_only ((Below.refl _ _).alloc (Nat.le_refl _) _) g_6 (Nat.le_refl _)
         have zw_4 := b_7.size
         have B_8 := B_3.trans (b_7.mono B_3.size)
         have lH_5 := box_lt H_5
         have m_9 := hm.below b_7
         skip)
      | (refine wpList_load_box _ rfl (by rfl) (b := w_1.heap.size) (off := 0) (n := 18) rfl H_5 Tryd.underlying34 (by kernel_rfl) (Nat.le_of_ble_eq_true rfl) (portC d A) rfl ?_
         skip))
    refine (HI.out w_4 (hE.below B_8) m_9).mono ?_
    rintro e w_10 ⟨A1, rfl, Ox1, Oy1, b_11⟩
    have zw_10 := b_11.size
    have B_12 := B_8.trans (b_11.mono B_8.size)
    have H_13 := (b_11.block _ (box_lt H_5)).trans H_5
    have m_14 := m_9.below b_11
    have n1 : PortM _ zPort A1 := ⟨own_cells Ox1, own_cells Oy1⟩
    clear Ox1 Oy1
    go_wp2_with (first
      | (go_skip; skip)
      | (refine wpList_store_any _ rfl rfl (by rfl) (b := w_10.heap.size) (off := 0) (n := 18) rfl rfl (vs := portC zPort A1) rfl (heap_new_at w_10 (.cells (portC zPort zPortA) 34) _ rfl) (by kernel_rfl) rfl rfl (Nat.le_of_ble_eq_true rfl) (portC zPort A1) rfl ?_
         intro w_15 H_16 g_17
         have b_18 : Below w_10.heap.size w_10 w_15 := below_only ((Below.refl _ _).alloc (Nat.le_refl _) _) g_17 (Nat.le_refl _)
         have zw_15 := b_18.size
         have B_19 := B_12.trans (b_18.mono B_12.size)
         have lH_16 := box_lt H_16
         have H_20 := (b_18.block _ (box_lt H_13)).trans H_13
         have m_21 := m_14.below b_18
         have m_22 := n1.below b_18
         skip)
      | (refine wpList_load_box _ rfl (by rfl) (b := w_1.heap.size) (off := 0) (n := 18) rfl H_20 Tryd.underlying34 (by kernel_rfl) (Nat.le_of_ble_eq_true rfl) (portC d A) rfl ?_
         skip))
    refine (HJ.out w_15 m_21).mono ?_
    rintro e w_23 ⟨A2, rfl, Ox2, Oy2, b_24⟩
    have zw_23 := b_24.size
    have B_25 := B_19.trans (b_24.mono B_19.size)
    have H_26 := (b_24.block _ (box_lt H_20)).trans H_20
    have H_27 := (b_24.block _ (box_lt H_16)).trans H_16
    have m_28 := m_21.below b_24
    have m_29 := m_22.below b_24
    have n2 : PortM _ zPort A2 := ⟨own_cells Ox2, own_cells Oy2⟩
    clear Ox2 Oy2
    have lz1 : zPort.gs.length ≤ 1048576 := by decide
    have lz2 : zPort.ys.length ≤ 1048576 := by decide
    go_wp2_with (first
      | (go_skip; skip)
      | (refine wpList_store_any _ rfl rfl (by rfl) (b := w_23.heap.size) (off := 0) (n := 18) rfl rfl (vs := portC zPort A2) rfl (heap_new_at w_23 (.cells (portC zPort zPortA) 34) _ rfl) (by kernel_rfl) rfl rfl (Nat.le_of_ble_eq_true rfl) (portC zPort A2) rfl ?_
         intro w_30 H_31 g_32
         have b_33 : Below w_23.heap.size w_23 w_30 := below_only ((Below.refl _ _).alloc (Nat.le_refl _) _) g_32 (Nat.le_refl _)
         have zw_30 := b_33.size
         have B_34 := B_25.trans (b_33.mono B_25.size)
         have lH_31 := box_lt H_31
         have H_35 := (b_33.block _ (box_lt H_26)).trans H_26
         have H_36 := (b_33.block _ (box_lt H_27)).trans H_27
         have m_37 := m_28.below b_33
         have m_38 := m_29.below b_33
         have m_39 := n2.below b_33
         skip)
      | (refine wpList_load_box _ rfl (by rfl) (b := w_10.heap.size) (off := 0) (n := 18) rfl H_36 Tryd.underlying34 (by kernel_rfl) (Nat.le_of_ble_eq_true rfl) (portC zPort A1) rfl ?_
         skip)
      | (refine wpList_load_box _ rfl (by rfl) (b := w_23.heap.size) (off := 0) (n := 18) rfl H_31 Tryd.underlying34 (by kernel_rfl) (Nat.le_of_ble_eq_true rfl) (portC zPort A2) rfl ?_
         skip))
    refine (samePort_eq zPort A1 A2 w_30 m_38 m_39 lz1 lz2).mono ?_
    rintro e w_40 ⟨rfl, b_41⟩
    have zw_40 := b_41.size
    have B_42 := B_34.trans (b_41.mono B_34.size)
    have H_43 := (b_41.block _ (box_lt H_35)).trans H_35
    have H_44 := (b_41.block _ (box_lt H_36)).trans H_36
    have H_45 := (b_41.block _ (box_lt H_31)).trans H_31
    have m_46 := m_37.below b_41
    have m_47 := m_38.below b_41
    have m_48 := m_39.below b_41
    go_wp2_with (first
      | (go_skip; skip)
      | (refine wpList_load_box _ rfl (by rfl) (b := w_10.heap.size) (off := 0) (n := 18) rfl H_44 Tryd.underlying34 (by kernel_rfl) (Nat.le_of_ble_eq_true rfl) (portC zPort A1) rfl ?_
         skip)
      | (refine wpList_load_box _ rfl (by rfl) (b := w_23.heap.size) (off := 0) (n := 18) rfl H_45 Tryd.underlying34 (by kernel_rfl) (Nat.le_of_ble_eq_true rfl) (portC zPort A2) rfl ?_
         skip))
    refine (samePort_eq zPort A1 A2 w_40 m_47 m_48 lz1 lz2).mono ?_
    rintro e w_49 ⟨rfl, b_50⟩
    have zw_49 := b_50.size
    have B_51 := B_42.trans (b_50.mono B_42.size)
    have H_52 := (b_50.block _ (box_lt H_43)).trans H_43
    have H_53 := (b_50.block _ (box_lt H_44)).trans H_44
    have H_54 := (b_50.block _ (box_lt H_45)).trans H_45
    have m_55 := m_46.below b_50
    have m_56 := m_47.below b_50
    have m_57 := m_48.below b_50
    go_wp2
    go_ret
    exact ⟨rfl, B_51⟩
  · rcases wrote_cases hw with ⟨rfl, hs, rfl⟩ | ⟨rfl, rfl⟩ | ⟨rfl, rfl⟩ | ⟨rfl, rfl⟩
    · clear hw
      obtain ⟨YS, hYS⟩ : ∃ YS, YS = d.ys ++ [v] := ⟨_, rfl⟩
      have hYL : YS.length = d.ys.length + 1 := by rw [hYS]; simp
      have hYa := Nat.le_of_eq hYL
      clear hYL
      have hSR := sputR_yes hs
      rw [← hYS] at hR hv2 hSR
      clear hYS
      have HV2 := Lib.hid hv2
      clear hv2
      have HI := Lib.hid (fun x (e : Sent x a) h => write_at hR (implPortWrite_any d A _ v a x e h (by omega) (by omega) hX.out hY.out))
      have HJ := Lib.hid (fun x h => write_at hR (specPortWrite_any d A _ v x h (by omega) (by omega) hX.out hY.out))
      clear hR
      go_wp2_with (first
        | (go_skip; skip)
        | (refine wpList_store_any _ rfl rfl (by rfl) (b := w_1.heap.size) (off := 0) (n := 18) rfl rfl (vs := portC d A) rfl (heap_new_at w_1 (.cells (portC zPort zPortA) 34) _ rfl) (by kernel_rfl) rfl rfl (Nat.le_of_ble_eq_true rfl) (portC d A) rfl ?_
           intro w_4 H_5 g_6
           have b_7 : Below w_1.heap.size w_1 w_4 := below_only ((Below.refl _ _).alloc (Nat.le_refl _) _) g_6 (Nat.le_refl _)
           have zw_4 := b_7.size
           have B_8 := B_3.trans (b_7.mono B_3.size)
           have lH_5 := box_lt H_5
           have m_9 := hm.below b_7
           skip)
        | (refine wpList_load_box _ rfl (by rfl) (b := w_1.heap.size) (off := 0) (n := 18) rfl H_5 Tryd.underlying34 (by kernel_rfl) (Nat.le_of_ble_eq_true rfl) (portC d A) rfl ?_
           skip))
      refine (HI.out w_4 (hE.below B_8) m_9).mono ?_
      rintro e w_58 ⟨A1, rfl, Ox1, Oy1, b_59⟩
      have zw_58 := b_59.size
      have B_60 := B_8.trans (b_59.mono B_8.size)
      have H_61 := (b_59.block _ (box_lt H_5)).trans H_5
      have m_62 := m_9.below b_59
      have n1 : PortM _ { d with ys := YS } A1 := ⟨own_cells Ox1, own_cells Oy1⟩
      clear Ox1 Oy1
      go_wp2_with (first
        | (go_skip; skip)
        | (refine wpList_store_any _ rfl rfl (by rfl) (b := w_58.heap.size) (off := 0) (n := 18) rfl rfl (vs := portC { d with ys := YS } A1) rfl (heap_new_at w_58 (.cells (portC zPort zPortA) 34) _ rfl) (by kernel_rfl) rfl rfl (Nat.le_of_ble_eq_true rfl) (portC { d with ys := YS } A1) rfl ?_
           intro w_63 H_64 g_65
           have b_66 : Below w_58.heap.size w_58 w_63 := below_only ((Below.refl _ _).alloc (Nat.le_refl _) _) g_65 (Nat.le_refl _)
           have zw_63 := b_66.size
           have B_67 := B_60.trans (b_66.mono B_60.size)
           have lH_64 := box_lt H_64
           have H_68 := (b_66.block _ (box_lt H_61)).trans H_61
           have m_69 := m_62.below b_66
           have m_70 := n1.below b_66
           skip)
        | (refine wpList_load_box _ rfl (by rfl) (b := w_1.heap.size) (off := 0) (n := 18) rfl H_68 Tryd.underlying34 (by kernel_rfl) (Nat.le_of_ble_eq_true rfl) (portC d A) rfl ?_
           skip))
      refine (HJ.out w_63 m_69).mono ?_
      rintro e w_71 ⟨A2, rfl, Ox2, Oy2, b_72⟩
      have zw_71 := b_72.size
      have B_73 := B_67.trans (b_72.mono B_67.size)
      have H_74 := (b_72.block _ (box_lt H_68)).trans H_68
      have H_75 := (b_72.block _ (box_lt H_64)).trans H_64
      have m_76 := m_69.below b_72
      have m_77 := m_70.below b_72
      have n2 : PortM _ { d with ys := YS } A2 := ⟨own_cells Ox2, own_cells Oy2⟩
      clear Ox2 Oy2
      go_wp2_with (first
        | (go_skip; skip)
        | (refine wpList_store_any _ rfl rfl (by rfl) (b := w_71.heap.size) (off := 0) (n := 18) rfl rfl (vs := portC { d with ys := YS } A2) rfl (heap_new_at w_71 (.cells (portC zPort zPortA) 34) _ rfl) (by kernel_rfl) rfl rfl (Nat.le_of_ble_eq_true rfl) (portC { d with ys := YS } A2) rfl ?_
           intro w_78 H_79 g_80
           have b_81 : Below w_71.heap.size w_71 w_78 := below_only ((Below.refl _ _).alloc (Nat.le_refl _) _) g_80 (Nat.le_refl _)
           have zw_78 := b_81.size
           have B_82 := B_73.trans (b_81.mono B_73.size)
           have lH_79 := box_lt H_79
           have H_83 := (b_81.block _ (box_lt H_74)).trans H_74
           have H_84 := (b_81.block _ (box_lt H_75)).trans H_75
           have m_85 := m_76.below b_81
           have m_86 := m_77.below b_81
           have m_87 := n2.below b_81
           skip)
        | (refine wpList_load_box _ rfl (by rfl) (b := w_58.heap.size) (off := 0) (n := 18) rfl H_84 Tryd.underlying34 (by kernel_rfl) (Nat.le_of_ble_eq_true rfl) (portC { d with ys := YS } A1) rfl ?_
           skip)
        | (refine wpList_load_box _ rfl (by rfl) (b := w_71.heap.size) (off := 0) (n := 18) rfl H_79 Tryd.underlying34 (by kernel_rfl) (Nat.le_of_ble_eq_true rfl) (portC { d with ys := YS } A2) rfl ?_
           skip))
      refine (samePort_eq { d with ys := YS } A1 A2 w_78 m_86 m_87 (by dsimp only; omega) (by dsimp only; omega)).mono ?_
      rintro e w_88 ⟨rfl, b_89⟩
      have zw_88 := b_89.size
      have B_90 := B_82.trans (b_89.mono B_82.size)
      have H_91 := (b_89.block _ (box_lt H_83)).trans H_83
      have H_92 := (b_89.block _ (box_lt H_84)).trans H_84
      have H_93 := (b_89.block _ (box_lt H_79)).trans H_79
      have m_94 := m_85.below b_89
      have m_95 := m_86.below b_89
      have m_96 := m_87.below b_89
      go_wp2_with (first
        | (go_skip; skip)
        | (refine wpList_load_box _ rfl (by rfl) (b := w_58.heap.size) (off := 0) (n := 18) rfl H_92 Tryd.underlying34 (by kernel_rfl) (Nat.le_of_ble_eq_true rfl) (portC { d with ys := YS } A1) rfl ?_
           skip))
      refine (implPortValid_any { d with ys := YS } A1 w_88 m_95 (by dsimp only; omega) (by dsimp only; omega)).mono ?_
      rintro e w_97 ⟨rfl, b_98⟩
      have zw_97 := b_98.size
      have B_99 := B_90.trans (b_98.mono B_90.size)
      have H_100 := (b_98.block _ (box_lt H_91)).trans H_91
      have H_101 := (b_98.block _ (box_lt H_92)).trans H_92
      have H_102 := (b_98.block _ (box_lt H_93)).trans H_93
      have m_103 := m_94.below b_98
      have m_104 := m_95.below b_98
      have m_105 := m_96.below b_98
      rw [HV2.out]
      go_wp2_with (first
        | (go_skip; skip)
        | (refine wpList_load_box _ rfl (by rfl) (b := w_58.heap.size) (off := 5) (n := 5) rfl H_101 Tryd.underlying27 (by kernel_rfl) (Nat.le_of_ble_eq_true rfl) (#[.int .i64 d.r, .int .i64 d.t, .slice A1.ax d.gs.length A1.cx, .bool d.l, .int .i64 d.ag]) rfl ?_
           skip)
        | (refine wpList_load_box _ rfl (by rfl) (b := w_1.heap.size) (off := 5) (n := 5) rfl H_100 Tryd.underlying27 (by kernel_rfl) (Nat.le_of_ble_eq_true rfl) (#[.int .i64 d.r, .int .i64 d.t, .slice A.ax d.gs.length A.cx, .bool d.l, .int .i64 d.ag]) rfl ?_
           skip))
      refine (sameRecv_any d.r d.t d.l d.ag d.r d.t d.l d.ag A1.ax A.ax d.gs d.gs A1.cx A.cx w_97 (m_104).1 (m_103).1 (by omega) (by omega)).mono ?_
      rintro e w_106 ⟨rfl, b_107⟩
      have zw_106 := b_107.size
      have B_108 := B_99.trans (b_107.mono B_99.size)
      have H_109 := (b_107.block _ (box_lt H_100)).trans H_100
      have H_110 := (b_107.block _ (box_lt H_101)).trans H_101
      have H_111 := (b_107.block _ (box_lt H_102)).trans H_102
      have m_112 := m_103.below b_107
      have m_113 := m_104.below b_107
      have m_114 := m_105.below b_107
      have c_115 := box_cell H_110 3 (v := .int .i64 d.en) rfl
      have lc_115 := box_lt H_110
      have c_116 := box_cell H_110 4 (v := .int .i64 d.co) rfl
      have lc_116 := box_lt H_110
      have c_117 := box_cell H_109 3 (v := .int .i64 d.en) rfl
      have lc_117 := box_lt H_109
      have c_118 := box_cell H_109 4 (v := .int .i64 d.co) rfl
      have lc_118 := box_lt H_109
      go_wp2_with (first
        | (go_skip; skip)
        | (refine wpList_load_box _ rfl (by rfl) (b := w_58.heap.size) (off := 14) (n := 4) rfl H_110 Tryd.underlying32 (by kernel_rfl) (Nat.le_of_ble_eq_true rfl) (#[.bool d.m1, .bool d.m2, .bool d.m3, .bool d.m4]) rfl ?_
           skip)
        | (refine wpList_load_box _ rfl (by rfl) (b := w_1.heap.size) (off := 14) (n := 4) rfl H_109 Tryd.underlying32 (by kernel_rfl) (Nat.le_of_ble_eq_true rfl) (#[.bool d.m1, .bool d.m2, .bool d.m3, .bool d.m4]) rfl ?_
           skip)
        | (refine wpList_load_box _ rfl (by rfl) (b := w_58.heap.size) (off := 0) (n := 3) rfl H_110 Tryd.underlying24 (by kernel_rfl) (Nat.le_of_ble_eq_true rfl) (#[.int .i64 d.b, .int .i64 d.p, .int .i64 d.s]) rfl ?_
           skip)
        | (refine wpList_load_box _ rfl (by rfl) (b := w_1.heap.size) (off := 0) (n := 3) rfl H_109 Tryd.underlying24 (by kernel_rfl) (Nat.le_of_ble_eq_true rfl) (#[.int .i64 d.b, .int .i64 d.p, .int .i64 d.s]) rfl ?_
           skip))
      go_ret
      exact ⟨rfl, B_108⟩
    · clear hw
      have HV2 := Lib.hid hv2
      clear hv2
      have HI := Lib.hid (fun x (e : Sent x a) h => write_at hR (implPortWrite_any d A _ v a x e h (by omega) (by omega) hX.out hY.out))
      have HJ := Lib.hid (fun x h => write_at hR (specPortWrite_any d A _ v x h (by omega) (by omega) hX.out hY.out))
      clear hR
      go_wp2_with (first
        | (go_skip; skip)
        | (refine wpList_store_any _ rfl rfl (by rfl) (b := w_1.heap.size) (off := 0) (n := 18) rfl rfl (vs := portC d A) rfl (heap_new_at w_1 (.cells (portC zPort zPortA) 34) _ rfl) (by kernel_rfl) rfl rfl (Nat.le_of_ble_eq_true rfl) (portC d A) rfl ?_
           intro w_4 H_5 g_6
           have b_7 : Below w_1.heap.size w_1 w_4 := below_only ((Below.refl _ _).alloc (Nat.le_refl _) _) g_6 (Nat.le_refl _)
           have zw_4 := b_7.size
           have B_8 := B_3.trans (b_7.mono B_3.size)
           have lH_5 := box_lt H_5
           have m_9 := hm.below b_7
           skip)
        | (refine wpList_load_box _ rfl (by rfl) (b := w_1.heap.size) (off := 0) (n := 18) rfl H_5 Tryd.underlying34 (by kernel_rfl) (Nat.le_of_ble_eq_true rfl) (portC d A) rfl ?_
           skip))
      refine (HI.out w_4 (hE.below B_8) m_9).mono ?_
      rintro e w_119 ⟨A1, rfl, Ox1, Oy1, b_120⟩
      have zw_119 := b_120.size
      have B_121 := B_8.trans (b_120.mono B_8.size)
      have H_122 := (b_120.block _ (box_lt H_5)).trans H_5
      have m_123 := m_9.below b_120
      have n1 : PortM _ { d with en := v } A1 := ⟨own_cells Ox1, own_cells Oy1⟩
      clear Ox1 Oy1
      go_wp2_with (first
        | (go_skip; skip)
        | (refine wpList_store_any _ rfl rfl (by rfl) (b := w_119.heap.size) (off := 0) (n := 18) rfl rfl (vs := portC { d with en := v } A1) rfl (heap_new_at w_119 (.cells (portC zPort zPortA) 34) _ rfl) (by kernel_rfl) rfl rfl (Nat.le_of_ble_eq_true rfl) (portC { d with en := v } A1) rfl ?_
           intro w_124 H_125 g_126
           have b_127 : Below w_119.heap.size w_119 w_124 := below_only ((Below.refl _ _).alloc (Nat.le_refl _) _) g_126 (Nat.le_refl _)
           have zw_124 := b_127.size
           have B_128 := B_121.trans (b_127.mono B_121.size)
           have lH_125 := box_lt H_125
           have H_129 := (b_127.block _ (box_lt H_122)).trans H_122
           have m_130 := m_123.below b_127
           have m_131 := n1.below b_127
           skip)
        | (refine wpList_load_box _ rfl (by rfl) (b := w_1.heap.size) (off := 0) (n := 18) rfl H_129 Tryd.underlying34 (by kernel_rfl) (Nat.le_of_ble_eq_true rfl) (portC d A) rfl ?_
           skip))
      refine (HJ.out w_124 m_130).mono ?_
      rintro e w_132 ⟨A2, rfl, Ox2, Oy2, b_133⟩
      have zw_132 := b_133.size
      have B_134 := B_128.trans (b_133.mono B_128.size)
      have H_135 := (b_133.block _ (box_lt H_129)).trans H_129
      have H_136 := (b_133.block _ (box_lt H_125)).trans H_125
      have m_137 := m_130.below b_133
      have m_138 := m_131.below b_133
      have n2 : PortM _ { d with en := v } A2 := ⟨own_cells Ox2, own_cells Oy2⟩
      clear Ox2 Oy2
      go_wp2_with (first
        | (go_skip; skip)
        | (refine wpList_store_any _ rfl rfl (by rfl) (b := w_132.heap.size) (off := 0) (n := 18) rfl rfl (vs := portC { d with en := v } A2) rfl (heap_new_at w_132 (.cells (portC zPort zPortA) 34) _ rfl) (by kernel_rfl) rfl rfl (Nat.le_of_ble_eq_true rfl) (portC { d with en := v } A2) rfl ?_
           intro w_139 H_140 g_141
           have b_142 : Below w_132.heap.size w_132 w_139 := below_only ((Below.refl _ _).alloc (Nat.le_refl _) _) g_141 (Nat.le_refl _)
           have zw_139 := b_142.size
           have B_143 := B_134.trans (b_142.mono B_134.size)
           have lH_140 := box_lt H_140
           have H_144 := (b_142.block _ (box_lt H_135)).trans H_135
           have H_145 := (b_142.block _ (box_lt H_136)).trans H_136
           have m_146 := m_137.below b_142
           have m_147 := m_138.below b_142
           have m_148 := n2.below b_142
           skip)
        | (refine wpList_load_box _ rfl (by rfl) (b := w_119.heap.size) (off := 0) (n := 18) rfl H_145 Tryd.underlying34 (by kernel_rfl) (Nat.le_of_ble_eq_true rfl) (portC { d with en := v } A1) rfl ?_
           skip)
        | (refine wpList_load_box _ rfl (by rfl) (b := w_132.heap.size) (off := 0) (n := 18) rfl H_140 Tryd.underlying34 (by kernel_rfl) (Nat.le_of_ble_eq_true rfl) (portC { d with en := v } A2) rfl ?_
           skip))
      refine (samePort_eq { d with en := v } A1 A2 w_139 m_147 m_148 (by dsimp only; omega) (by dsimp only; omega)).mono ?_
      rintro e w_149 ⟨rfl, b_150⟩
      have zw_149 := b_150.size
      have B_151 := B_143.trans (b_150.mono B_143.size)
      have H_152 := (b_150.block _ (box_lt H_144)).trans H_144
      have H_153 := (b_150.block _ (box_lt H_145)).trans H_145
      have H_154 := (b_150.block _ (box_lt H_140)).trans H_140
      have m_155 := m_146.below b_150
      have m_156 := m_147.below b_150
      have m_157 := m_148.below b_150
      go_wp2_with (first
        | (go_skip; skip)
        | (refine wpList_load_box _ rfl (by rfl) (b := w_119.heap.size) (off := 0) (n := 18) rfl H_153 Tryd.underlying34 (by kernel_rfl) (Nat.le_of_ble_eq_true rfl) (portC { d with en := v } A1) rfl ?_
           skip))
      refine (implPortValid_any { d with en := v } A1 w_149 m_156 (by dsimp only; omega) (by dsimp only; omega)).mono ?_
      rintro e w_158 ⟨rfl, b_159⟩
      have zw_158 := b_159.size
      have B_160 := B_151.trans (b_159.mono B_151.size)
      have H_161 := (b_159.block _ (box_lt H_152)).trans H_152
      have H_162 := (b_159.block _ (box_lt H_153)).trans H_153
      have H_163 := (b_159.block _ (box_lt H_154)).trans H_154
      have m_164 := m_155.below b_159
      have m_165 := m_156.below b_159
      have m_166 := m_157.below b_159
      rw [HV2.out]
      go_wp2_with (first
        | (go_skip; skip)
        | (refine wpList_load_box _ rfl (by rfl) (b := w_119.heap.size) (off := 5) (n := 5) rfl H_162 Tryd.underlying27 (by kernel_rfl) (Nat.le_of_ble_eq_true rfl) (#[.int .i64 d.r, .int .i64 d.t, .slice A1.ax d.gs.length A1.cx, .bool d.l, .int .i64 d.ag]) rfl ?_
           skip)
        | (refine wpList_load_box _ rfl (by rfl) (b := w_1.heap.size) (off := 5) (n := 5) rfl H_161 Tryd.underlying27 (by kernel_rfl) (Nat.le_of_ble_eq_true rfl) (#[.int .i64 d.r, .int .i64 d.t, .slice A.ax d.gs.length A.cx, .bool d.l, .int .i64 d.ag]) rfl ?_
           skip))
      refine (sameRecv_any d.r d.t d.l d.ag d.r d.t d.l d.ag A1.ax A.ax d.gs d.gs A1.cx A.cx w_158 (m_165).1 (m_164).1 (by omega) (by omega)).mono ?_
      rintro e w_167 ⟨rfl, b_168⟩
      have zw_167 := b_168.size
      have B_169 := B_160.trans (b_168.mono B_160.size)
      have H_170 := (b_168.block _ (box_lt H_161)).trans H_161
      have H_171 := (b_168.block _ (box_lt H_162)).trans H_162
      have H_172 := (b_168.block _ (box_lt H_163)).trans H_163
      have m_173 := m_164.below b_168
      have m_174 := m_165.below b_168
      have m_175 := m_166.below b_168
      have c_176 := box_cell H_171 4 (v := .int .i64 d.co) rfl
      have lc_176 := box_lt H_171
      have c_177 := box_cell H_170 4 (v := .int .i64 d.co) rfl
      have lc_177 := box_lt H_170
      go_wp2_with (first
        | (go_skip; skip)
        | (refine wpList_load_box _ rfl (by rfl) (b := w_119.heap.size) (off := 14) (n := 4) rfl H_171 Tryd.underlying32 (by kernel_rfl) (Nat.le_of_ble_eq_true rfl) (#[.bool d.m1, .bool d.m2, .bool d.m3, .bool d.m4]) rfl ?_
           skip)
        | (refine wpList_load_box _ rfl (by rfl) (b := w_1.heap.size) (off := 14) (n := 4) rfl H_170 Tryd.underlying32 (by kernel_rfl) (Nat.le_of_ble_eq_true rfl) (#[.bool d.m1, .bool d.m2, .bool d.m3, .bool d.m4]) rfl ?_
           skip)
        | (refine wpList_load_box _ rfl (by rfl) (b := w_119.heap.size) (off := 0) (n := 3) rfl H_171 Tryd.underlying24 (by kernel_rfl) (Nat.le_of_ble_eq_true rfl) (#[.int .i64 d.b, .int .i64 d.p, .int .i64 d.s]) rfl ?_
           skip)
        | (refine wpList_load_box _ rfl (by rfl) (b := w_1.heap.size) (off := 0) (n := 3) rfl H_170 Tryd.underlying24 (by kernel_rfl) (Nat.le_of_ble_eq_true rfl) (#[.int .i64 d.b, .int .i64 d.p, .int .i64 d.s]) rfl ?_
           skip))
      go_ret
      exact ⟨rfl, B_169⟩
    · clear hw
      have HV2 := Lib.hid hv2
      clear hv2
      have HI := Lib.hid (fun x (e : Sent x a) h => write_at hR (implPortWrite_any d A _ v a x e h (by omega) (by omega) hX.out hY.out))
      have HJ := Lib.hid (fun x h => write_at hR (specPortWrite_any d A _ v x h (by omega) (by omega) hX.out hY.out))
      clear hR
      go_wp2_with (first
        | (go_skip; skip)
        | (refine wpList_store_any _ rfl rfl (by rfl) (b := w_1.heap.size) (off := 0) (n := 18) rfl rfl (vs := portC d A) rfl (heap_new_at w_1 (.cells (portC zPort zPortA) 34) _ rfl) (by kernel_rfl) rfl rfl (Nat.le_of_ble_eq_true rfl) (portC d A) rfl ?_
           intro w_4 H_5 g_6
           have b_7 : Below w_1.heap.size w_1 w_4 := below_only ((Below.refl _ _).alloc (Nat.le_refl _) _) g_6 (Nat.le_refl _)
           have zw_4 := b_7.size
           have B_8 := B_3.trans (b_7.mono B_3.size)
           have lH_5 := box_lt H_5
           have m_9 := hm.below b_7
           skip)
        | (refine wpList_load_box _ rfl (by rfl) (b := w_1.heap.size) (off := 0) (n := 18) rfl H_5 Tryd.underlying34 (by kernel_rfl) (Nat.le_of_ble_eq_true rfl) (portC d A) rfl ?_
           skip))
      refine (HI.out w_4 (hE.below B_8) m_9).mono ?_
      rintro e w_178 ⟨A1, rfl, Ox1, Oy1, b_179⟩
      have zw_178 := b_179.size
      have B_180 := B_8.trans (b_179.mono B_8.size)
      have H_181 := (b_179.block _ (box_lt H_5)).trans H_5
      have m_182 := m_9.below b_179
      have n1 : PortM _ { d with b := 5 + v % 4, p := fmtP v, s := 1 + v / 4 % 2 } A1 := ⟨own_cells Ox1, own_cells Oy1⟩
      clear Ox1 Oy1
      go_wp2_with (first
        | (go_skip; skip)
        | (refine wpList_store_any _ rfl rfl (by rfl) (b := w_178.heap.size) (off := 0) (n := 18) rfl rfl (vs := portC { d with b := 5 + v % 4, p := fmtP v, s := 1 + v / 4 % 2 } A1) rfl (heap_new_at w_178 (.cells (portC zPort zPortA) 34) _ rfl) (by kernel_rfl) rfl rfl (Nat.le_of_ble_eq_true rfl) (portC { d with b := 5 + v % 4, p := fmtP v, s := 1 + v / 4 % 2 } A1) rfl ?_
           intro w_183 H_184 g_185
           have b_186 : Below w_178.heap.size w_178 w_183 := below_only ((Below.refl _ _).alloc (Nat.le_refl _) _) g_185 (Nat.le_refl _)
           have zw_183 := b_186.size
           have B_187 := B_180.trans (b_186.mono B_180.size)
           have lH_184 := box_lt H_184
           have H_188 := (b_186.block _ (box_lt H_181)).trans H_181
           have m_189 := m_182.below b_186
           have m_190 := n1.below b_186
           skip)
        | (refine wpList_load_box _ rfl (by rfl) (b := w_1.heap.size) (off := 0) (n := 18) rfl H_188 Tryd.underlying34 (by kernel_rfl) (Nat.le_of_ble_eq_true rfl) (portC d A) rfl ?_
           skip))
      refine (HJ.out w_183 m_189).mono ?_
      rintro e w_191 ⟨A2, rfl, Ox2, Oy2, b_192⟩
      have zw_191 := b_192.size
      have B_193 := B_187.trans (b_192.mono B_187.size)
      have H_194 := (b_192.block _ (box_lt H_188)).trans H_188
      have H_195 := (b_192.block _ (box_lt H_184)).trans H_184
      have m_196 := m_189.below b_192
      have m_197 := m_190.below b_192
      have n2 : PortM _ { d with b := 5 + v % 4, p := fmtP v, s := 1 + v / 4 % 2 } A2 := ⟨own_cells Ox2, own_cells Oy2⟩
      clear Ox2 Oy2
      go_wp2_with (first
        | (go_skip; skip)
        | (refine wpList_store_any _ rfl rfl (by rfl) (b := w_191.heap.size) (off := 0) (n := 18) rfl rfl (vs := portC { d with b := 5 + v % 4, p := fmtP v, s := 1 + v / 4 % 2 } A2) rfl (heap_new_at w_191 (.cells (portC zPort zPortA) 34) _ rfl) (by kernel_rfl) rfl rfl (Nat.le_of_ble_eq_true rfl) (portC { d with b := 5 + v % 4, p := fmtP v, s := 1 + v / 4 % 2 } A2) rfl ?_
           intro w_198 H_199 g_200
           have b_201 : Below w_191.heap.size w_191 w_198 := below_only ((Below.refl _ _).alloc (Nat.le_refl _) _) g_200 (Nat.le_refl _)
           have zw_198 := b_201.size
           have B_202 := B_193.trans (b_201.mono B_193.size)
           have lH_199 := box_lt H_199
           have H_203 := (b_201.block _ (box_lt H_194)).trans H_194
           have H_204 := (b_201.block _ (box_lt H_195)).trans H_195
           have m_205 := m_196.below b_201
           have m_206 := m_197.below b_201
           have m_207 := n2.below b_201
           skip)
        | (refine wpList_load_box _ rfl (by rfl) (b := w_178.heap.size) (off := 0) (n := 18) rfl H_204 Tryd.underlying34 (by kernel_rfl) (Nat.le_of_ble_eq_true rfl) (portC { d with b := 5 + v % 4, p := fmtP v, s := 1 + v / 4 % 2 } A1) rfl ?_
           skip)
        | (refine wpList_load_box _ rfl (by rfl) (b := w_191.heap.size) (off := 0) (n := 18) rfl H_199 Tryd.underlying34 (by kernel_rfl) (Nat.le_of_ble_eq_true rfl) (portC { d with b := 5 + v % 4, p := fmtP v, s := 1 + v / 4 % 2 } A2) rfl ?_
           skip))
      refine (samePort_eq { d with b := 5 + v % 4, p := fmtP v, s := 1 + v / 4 % 2 } A1 A2 w_198 m_206 m_207 (by dsimp only; omega) (by dsimp only; omega)).mono ?_
      rintro e w_208 ⟨rfl, b_209⟩
      have zw_208 := b_209.size
      have B_210 := B_202.trans (b_209.mono B_202.size)
      have H_211 := (b_209.block _ (box_lt H_203)).trans H_203
      have H_212 := (b_209.block _ (box_lt H_204)).trans H_204
      have H_213 := (b_209.block _ (box_lt H_199)).trans H_199
      have m_214 := m_205.below b_209
      have m_215 := m_206.below b_209
      have m_216 := m_207.below b_209
      go_wp2_with (first
        | (go_skip; skip)
        | (refine wpList_load_box _ rfl (by rfl) (b := w_178.heap.size) (off := 0) (n := 18) rfl H_212 Tryd.underlying34 (by kernel_rfl) (Nat.le_of_ble_eq_true rfl) (portC { d with b := 5 + v % 4, p := fmtP v, s := 1 + v / 4 % 2 } A1) rfl ?_
           skip))
      refine (implPortValid_any { d with b := 5 + v % 4, p := fmtP v, s := 1 + v / 4 % 2 } A1 w_208 m_215 (by dsimp only; omega) (by dsimp only; omega)).mono ?_
      rintro e w_217 ⟨rfl, b_218⟩
      have zw_217 := b_218.size
      have B_219 := B_210.trans (b_218.mono B_210.size)
      have H_220 := (b_218.block _ (box_lt H_211)).trans H_211
      have H_221 := (b_218.block _ (box_lt H_212)).trans H_212
      have H_222 := (b_218.block _ (box_lt H_213)).trans H_213
      have m_223 := m_214.below b_218
      have m_224 := m_215.below b_218
      have m_225 := m_216.below b_218
      rw [HV2.out]
      go_wp2_with (first
        | (go_skip; skip)
        | (refine wpList_load_box _ rfl (by rfl) (b := w_178.heap.size) (off := 5) (n := 5) rfl H_221 Tryd.underlying27 (by kernel_rfl) (Nat.le_of_ble_eq_true rfl) (#[.int .i64 d.r, .int .i64 d.t, .slice A1.ax d.gs.length A1.cx, .bool d.l, .int .i64 d.ag]) rfl ?_
           skip)
        | (refine wpList_load_box _ rfl (by rfl) (b := w_1.heap.size) (off := 5) (n := 5) rfl H_220 Tryd.underlying27 (by kernel_rfl) (Nat.le_of_ble_eq_true rfl) (#[.int .i64 d.r, .int .i64 d.t, .slice A.ax d.gs.length A.cx, .bool d.l, .int .i64 d.ag]) rfl ?_
           skip))
      refine (sameRecv_any d.r d.t d.l d.ag d.r d.t d.l d.ag A1.ax A.ax d.gs d.gs A1.cx A.cx w_217 (m_224).1 (m_223).1 (by omega) (by omega)).mono ?_
      rintro e w_226 ⟨rfl, b_227⟩
      have zw_226 := b_227.size
      have B_228 := B_219.trans (b_227.mono B_219.size)
      have H_229 := (b_227.block _ (box_lt H_220)).trans H_220
      have H_230 := (b_227.block _ (box_lt H_221)).trans H_221
      have H_231 := (b_227.block _ (box_lt H_222)).trans H_222
      have m_232 := m_223.below b_227
      have m_233 := m_224.below b_227
      have m_234 := m_225.below b_227
      have c_235 := box_cell H_230 3 (v := .int .i64 d.en) rfl
      have lc_235 := box_lt H_230
      have c_236 := box_cell H_230 4 (v := .int .i64 d.co) rfl
      have lc_236 := box_lt H_230
      have c_237 := box_cell H_229 3 (v := .int .i64 d.en) rfl
      have lc_237 := box_lt H_229
      have c_238 := box_cell H_229 4 (v := .int .i64 d.co) rfl
      have lc_238 := box_lt H_229
      go_wp2_with (first
        | (go_skip; skip)
        | (refine wpList_load_box _ rfl (by rfl) (b := w_178.heap.size) (off := 14) (n := 4) rfl H_230 Tryd.underlying32 (by kernel_rfl) (Nat.le_of_ble_eq_true rfl) (#[.bool d.m1, .bool d.m2, .bool d.m3, .bool d.m4]) rfl ?_
           skip)
        | (refine wpList_load_box _ rfl (by rfl) (b := w_1.heap.size) (off := 14) (n := 4) rfl H_229 Tryd.underlying32 (by kernel_rfl) (Nat.le_of_ble_eq_true rfl) (#[.bool d.m1, .bool d.m2, .bool d.m3, .bool d.m4]) rfl ?_
           skip))
      go_ret
      exact ⟨rfl, B_228⟩
    · clear hw
      have HV2 := Lib.hid hv2
      clear hv2
      have HI := Lib.hid (fun x (e : Sent x a) h => write_at hR (implPortWrite_any d A _ v a x e h (by omega) (by omega) hX.out hY.out))
      have HJ := Lib.hid (fun x h => write_at hR (specPortWrite_any d A _ v x h (by omega) (by omega) hX.out hY.out))
      clear hR
      go_wp2_with (first
        | (go_skip; skip)
        | (refine wpList_store_any _ rfl rfl (by rfl) (b := w_1.heap.size) (off := 0) (n := 18) rfl rfl (vs := portC d A) rfl (heap_new_at w_1 (.cells (portC zPort zPortA) 34) _ rfl) (by kernel_rfl) rfl rfl (Nat.le_of_ble_eq_true rfl) (portC d A) rfl ?_
           intro w_4 H_5 g_6
           have b_7 : Below w_1.heap.size w_1 w_4 := below_only ((Below.refl _ _).alloc (Nat.le_refl _) _) g_6 (Nat.le_refl _)
           have zw_4 := b_7.size
           have B_8 := B_3.trans (b_7.mono B_3.size)
           have lH_5 := box_lt H_5
           have m_9 := hm.below b_7
           skip)
        | (refine wpList_load_box _ rfl (by rfl) (b := w_1.heap.size) (off := 0) (n := 18) rfl H_5 Tryd.underlying34 (by kernel_rfl) (Nat.le_of_ble_eq_true rfl) (portC d A) rfl ?_
           skip))
      refine (HI.out w_4 (hE.below B_8) m_9).mono ?_
      rintro e w_239 ⟨A1, rfl, Ox1, Oy1, b_240⟩
      have zw_239 := b_240.size
      have B_241 := B_8.trans (b_240.mono B_8.size)
      have H_242 := (b_240.block _ (box_lt H_5)).trans H_5
      have m_243 := m_9.below b_240
      have n1 : PortM _ { d with co := v } A1 := ⟨own_cells Ox1, own_cells Oy1⟩
      clear Ox1 Oy1
      go_wp2_with (first
        | (go_skip; skip)
        | (refine wpList_store_any _ rfl rfl (by rfl) (b := w_239.heap.size) (off := 0) (n := 18) rfl rfl (vs := portC { d with co := v } A1) rfl (heap_new_at w_239 (.cells (portC zPort zPortA) 34) _ rfl) (by kernel_rfl) rfl rfl (Nat.le_of_ble_eq_true rfl) (portC { d with co := v } A1) rfl ?_
           intro w_244 H_245 g_246
           have b_247 : Below w_239.heap.size w_239 w_244 := below_only ((Below.refl _ _).alloc (Nat.le_refl _) _) g_246 (Nat.le_refl _)
           have zw_244 := b_247.size
           have B_248 := B_241.trans (b_247.mono B_241.size)
           have lH_245 := box_lt H_245
           have H_249 := (b_247.block _ (box_lt H_242)).trans H_242
           have m_250 := m_243.below b_247
           have m_251 := n1.below b_247
           skip)
        | (refine wpList_load_box _ rfl (by rfl) (b := w_1.heap.size) (off := 0) (n := 18) rfl H_249 Tryd.underlying34 (by kernel_rfl) (Nat.le_of_ble_eq_true rfl) (portC d A) rfl ?_
           skip))
      refine (HJ.out w_244 m_250).mono ?_
      rintro e w_252 ⟨A2, rfl, Ox2, Oy2, b_253⟩
      have zw_252 := b_253.size
      have B_254 := B_248.trans (b_253.mono B_248.size)
      have H_255 := (b_253.block _ (box_lt H_249)).trans H_249
      have H_256 := (b_253.block _ (box_lt H_245)).trans H_245
      have m_257 := m_250.below b_253
      have m_258 := m_251.below b_253
      have n2 : PortM _ { d with co := v } A2 := ⟨own_cells Ox2, own_cells Oy2⟩
      clear Ox2 Oy2
      go_wp2_with (first
        | (go_skip; skip)
        | (refine wpList_store_any _ rfl rfl (by rfl) (b := w_252.heap.size) (off := 0) (n := 18) rfl rfl (vs := portC { d with co := v } A2) rfl (heap_new_at w_252 (.cells (portC zPort zPortA) 34) _ rfl) (by kernel_rfl) rfl rfl (Nat.le_of_ble_eq_true rfl) (portC { d with co := v } A2) rfl ?_
           intro w_259 H_260 g_261
           have b_262 : Below w_252.heap.size w_252 w_259 := below_only ((Below.refl _ _).alloc (Nat.le_refl _) _) g_261 (Nat.le_refl _)
           have zw_259 := b_262.size
           have B_263 := B_254.trans (b_262.mono B_254.size)
           have lH_260 := box_lt H_260
           have H_264 := (b_262.block _ (box_lt H_255)).trans H_255
           have H_265 := (b_262.block _ (box_lt H_256)).trans H_256
           have m_266 := m_257.below b_262
           have m_267 := m_258.below b_262
           have m_268 := n2.below b_262
           skip)
        | (refine wpList_load_box _ rfl (by rfl) (b := w_239.heap.size) (off := 0) (n := 18) rfl H_265 Tryd.underlying34 (by kernel_rfl) (Nat.le_of_ble_eq_true rfl) (portC { d with co := v } A1) rfl ?_
           skip)
        | (refine wpList_load_box _ rfl (by rfl) (b := w_252.heap.size) (off := 0) (n := 18) rfl H_260 Tryd.underlying34 (by kernel_rfl) (Nat.le_of_ble_eq_true rfl) (portC { d with co := v } A2) rfl ?_
           skip))
      refine (samePort_eq { d with co := v } A1 A2 w_259 m_267 m_268 (by dsimp only; omega) (by dsimp only; omega)).mono ?_
      rintro e w_269 ⟨rfl, b_270⟩
      have zw_269 := b_270.size
      have B_271 := B_263.trans (b_270.mono B_263.size)
      have H_272 := (b_270.block _ (box_lt H_264)).trans H_264
      have H_273 := (b_270.block _ (box_lt H_265)).trans H_265
      have H_274 := (b_270.block _ (box_lt H_260)).trans H_260
      have m_275 := m_266.below b_270
      have m_276 := m_267.below b_270
      have m_277 := m_268.below b_270
      go_wp2_with (first
        | (go_skip; skip)
        | (refine wpList_load_box _ rfl (by rfl) (b := w_239.heap.size) (off := 0) (n := 18) rfl H_273 Tryd.underlying34 (by kernel_rfl) (Nat.le_of_ble_eq_true rfl) (portC { d with co := v } A1) rfl ?_
           skip))
      refine (implPortValid_any { d with co := v } A1 w_269 m_276 (by dsimp only; omega) (by dsimp only; omega)).mono ?_
      rintro e w_278 ⟨rfl, b_279⟩
      have zw_278 := b_279.size
      have B_280 := B_271.trans (b_279.mono B_271.size)
      have H_281 := (b_279.block _ (box_lt H_272)).trans H_272
      have H_282 := (b_279.block _ (box_lt H_273)).trans H_273
      have H_283 := (b_279.block _ (box_lt H_274)).trans H_274
      have m_284 := m_275.below b_279
      have m_285 := m_276.below b_279
      have m_286 := m_277.below b_279
      rw [HV2.out]
      go_wp2_with (first
        | (go_skip; skip)
        | (refine wpList_load_box _ rfl (by rfl) (b := w_239.heap.size) (off := 5) (n := 5) rfl H_282 Tryd.underlying27 (by kernel_rfl) (Nat.le_of_ble_eq_true rfl) (#[.int .i64 d.r, .int .i64 d.t, .slice A1.ax d.gs.length A1.cx, .bool d.l, .int .i64 d.ag]) rfl ?_
           skip)
        | (refine wpList_load_box _ rfl (by rfl) (b := w_1.heap.size) (off := 5) (n := 5) rfl H_281 Tryd.underlying27 (by kernel_rfl) (Nat.le_of_ble_eq_true rfl) (#[.int .i64 d.r, .int .i64 d.t, .slice A.ax d.gs.length A.cx, .bool d.l, .int .i64 d.ag]) rfl ?_
           skip))
      refine (sameRecv_any d.r d.t d.l d.ag d.r d.t d.l d.ag A1.ax A.ax d.gs d.gs A1.cx A.cx w_278 (m_285).1 (m_284).1 (by omega) (by omega)).mono ?_
      rintro e w_287 ⟨rfl, b_288⟩
      have zw_287 := b_288.size
      have B_289 := B_280.trans (b_288.mono B_280.size)
      have H_290 := (b_288.block _ (box_lt H_281)).trans H_281
      have H_291 := (b_288.block _ (box_lt H_282)).trans H_282
      have H_292 := (b_288.block _ (box_lt H_283)).trans H_283
      have m_293 := m_284.below b_288
      have m_294 := m_285.below b_288
      have m_295 := m_286.below b_288
      have c_296 := box_cell H_291 3 (v := .int .i64 d.en) rfl
      have lc_296 := box_lt H_291
      have c_297 := box_cell H_290 3 (v := .int .i64 d.en) rfl
      have lc_297 := box_lt H_290
      go_wp2_with (first
        | (go_skip; skip)
        | (refine wpList_load_box _ rfl (by rfl) (b := w_239.heap.size) (off := 14) (n := 4) rfl H_291 Tryd.underlying32 (by kernel_rfl) (Nat.le_of_ble_eq_true rfl) (#[.bool d.m1, .bool d.m2, .bool d.m3, .bool d.m4]) rfl ?_
           skip)
        | (refine wpList_load_box _ rfl (by rfl) (b := w_1.heap.size) (off := 14) (n := 4) rfl H_290 Tryd.underlying32 (by kernel_rfl) (Nat.le_of_ble_eq_true rfl) (#[.bool d.m1, .bool d.m2, .bool d.m3, .bool d.m4]) rfl ?_
           skip)
        | (refine wpList_load_box _ rfl (by rfl) (b := w_239.heap.size) (off := 0) (n := 3) rfl H_291 Tryd.underlying24 (by kernel_rfl) (Nat.le_of_ble_eq_true rfl) (#[.int .i64 d.b, .int .i64 d.p, .int .i64 d.s]) rfl ?_
           skip)
        | (refine wpList_load_box _ rfl (by rfl) (b := w_1.heap.size) (off := 0) (n := 3) rfl H_290 Tryd.underlying24 (by kernel_rfl) (Nat.le_of_ble_eq_true rfl) (#[.int .i64 d.b, .int .i64 d.p, .int .i64 d.s]) rfl ?_
           skip))
      go_ret
      exact ⟨rfl, B_289⟩

set_option linter.unusedVariables false in
set_option maxRecDepth 100000 in
theorem FnWriteOther_lifted (os : Os) (started : os.Started) (H : Type) (enc : TypeId × Value → H) :
    ReturnsInHanded {} Tryd.checked os 3 .any (fun w args => (Rows.fnWriteOtherSpec.pre enc Tryd.prog Tryd.f3 [] false w args ∧ laidMetH Tryd.prog laid1 w) ∧ sizedMet enc Tryd.prog Tryd.f3 (OpenSpec.ofChange Rows.fnWriteOtherSpec) false w args)
      (Rows.fnWriteOtherSpec.post enc Tryd.prog Tryd.f3 false true false false) := by
  refine returnsInHanded_of_change_and (C := Tryd.checked) (X := fun w _ => laidMetH Tryd.prog laid1 w) (fun _ _ _ hh h => h.of_heap hh) own_knob started (by kernel_rfl) Tryd.func3
    (ChangeSpec.witness_shaped (enc := enc) (C := Tryd.checked) (os := os) (X := fun w _ => laidMetH Tryd.prog laid1 w) false (World.doorLaid Tryd.prog 400 os) #[.slice none 0 0] 8 rfl (World.shaped_of_RefB (by kernel_rfl) (by kernel_rfl)) (by kernel_rfl) (by kernel_rfl) (by kernel_rfl) (door_met os _)) ?_
  intro W base args ds gs before hval0 hW _ _ hL _
  have hval : ∀ (j : Nat) t v, Tryd.f3.params[j]? = some t → args[j]? = some v → Value.okWide Tryd.prog W .any base t v := hval0
  have hW' := hW
  obtain ⟨p, q, hA0, hV0, rfl, hfz, hnd⟩ := hW
  have hA : DataW.TrodAll enc Tryd.prog W 0 (fun _ => true) true Tryd.f3.params.toList args.toList ds p := hA0
  have hV : DataW.TrodVars enc Tryd.prog W (fun _ => true) ["loop.example/serialpair/impl.errNoFormat"] gs q := hV0
  rw [Tryd.params3] at hA hval
  obtain ⟨v0, vs0, d0, ds0, p0, q0, hargs, rfl, rfl, h0, r0⟩ := trodAll_cons hA
  obtain ⟨rfl, rfl, rfl⟩ := trodAll_nil r0
  obtain rfl : args = #[v0] := by cases args; simp_all
  obtain ⟨a, hv, hE⟩ := sent_of_laid hL
  obtain ⟨rfl, rfl⟩ := hV.unique (vars_read1 enc gE gEType Tryd.underlying75 hv trivial _)
  have k0 := h0
  have lt0 : ∀ x ∈ p0, x.block < W.heap.size := by obtain ⟨m, hm⟩ := k0; exact DataW.trod_lt m _ _ _ hm
  obtain ⟨a0, len0, cap0, rfl⟩ := okWide_slice Tryd.underlying22 (hval 0 22 v0 rfl rfl)
  obtain ⟨z0, rfl, lc0, lm0, rz0⟩ : ∃ z : List Int, len0 = z.length ∧ z.length ≤ cap0 ∧ cap0 ≤ maxLen ∧ Bytes W a0 z := by
    obtain ⟨fuel, hf⟩ := h0
    obtain ⟨ao, cap, z, e, h1, h2, h3⟩ := rd_bytes hf
    simp [Value.cells] at e
    obtain ⟨rfl, rfl, rfl⟩ := e
    exact ⟨z, rfl, h1, h2, h3⟩
  clear hA0 hV0 hval0
  refine (FnWriteOther_walk a0 z0 cap0 a W rz0 lc0 lm0 hE).mono fun e W' ⟨he, bel⟩ => ?_
  subst he
  exact ⟨_, rfl, _, _, _, [], _, [.cell 0 0], hW', trodAll_mk1 (shut_bool Tryd.underlying4 _), (trodAll_cons_mk (Below.trod laid_out (by kernel_rfl) (of_decide_eq_true (by kernel_rfl)) k0 bel lt0) trodAll_mk0), vars_read1 enc gE gEType Tryd.underlying75 (var_below hv bel) trivial _, bel.frame _, fun h => by cases h⟩

theorem FnWriteOther_row : Rows.FnWriteOtherSaid :=
  OpenClaim.holds_of_wide 3 Tryd.f3 rfl rfl rfl rfl rfl rfl rfl ⟨rfl, rfl, rfl, rfl, rfl⟩ rfl rfl rfl rfl rfl (by kernel_rfl) Tryd.func3 (by kernel_rfl)
    (of_decide_eq_true (by kernel_rfl)) (by unfold Func.isWrapper; first | (rw [if_pos (by decide +kernel)]; kernel_rfl) | (rw [if_neg (by decide +kernel)]; exact ⟨rfl, rfl⟩))
    (fun os started H enc _ => FnWriteOther_lifted os started H enc)

theorem FnWriteOther_holds : Rows.FnWriteOtherCardSaid :=
  Claim7.holds_tied_plain_at .later [] [.sentinel] true (true, "a99c1b190165a49e5aca63c206a6e0f9d9069e97f3e02075d63f11c59f704da7") true
    FnWriteOther_row (fun _ h => by cases h) (by kernel_rfl) (fun _ h => by cases h) fnWriteOther_row_tie rfl ⟨rfl, rfl⟩ (by kernel_rfl) rfl
    (fun f fn hf hfn => by
      obtain rfl : f = 3 := Option.some.inj ((show Tryd.prog.funcNamed "loop.example/serialpair/laws.FnWriteOther" = some 3 by kernel_rfl).symm.trans hf) |>.symm
      obtain rfl : fn = Tryd.f3 := (Option.some.inj (Tryd.func3.symm.trans hfn)).symm
      exact ⟨by kernel_rfl, fun j t ht => by
        rw [Tryd.params3] at ht
        have h3 : t = 22 := by
          rcases j with _ | j
          · simpa using ht.symm
          · simp at ht
        subst h3
        exact (show Tryd.prog.wantsStandIn 22 = false by kernel_rfl)⟩)
    (by kernel_rfl)
end Go.Proofs.YtkmampichfbppaaDoor
