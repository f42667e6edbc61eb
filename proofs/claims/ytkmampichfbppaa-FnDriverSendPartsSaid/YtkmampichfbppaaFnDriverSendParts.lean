/- FnDriverSendParts: Bytes can be sent in parts. No conditions beyond the statement's own. -/
import Derived.Test.YtkmampichfbppaaDrvLaw4
import Derived.Test.YtkmampichfbppaaDrvDraw6
namespace Go.Proofs.Ytkmampichfbppaa
open Go.ChangeShapes Go.WideShapes Go.ChangeAt Go.RowKit

set_option maxHeartbeats 4000000 in
set_option maxRecDepth 100000 in
theorem FnDriverSendParts_walk (a0 : Option Addr) (z0 : List Int) (cap0 : Nat) (a1 : Option Addr) (z1 : List Int) (cap1 : Nat) (w : World) (rz0 : Bytes w a0 z0) (lc0 : z0.length ≤ cap0) (_lm0 : cap0 ≤ maxLen) (_rz1 : Bytes w a1 z1) (_lc1 : z1.length ≤ cap1) (_lm1 : cap1 ≤ maxLen) :
    Calls Try.prog 8 #[.slice a0 z0.length cap0, .slice a1 z1.length cap1] w fun e w' => e = .returned (.bool true) ∧ Below w.heap.size w w' := by
  unfold maxLen at _lm0
  unfold maxLen at _lm1
  by_cases hn0 : (z0.length : Int) ≤ 1048576
  case neg =>
    have hn0' : (1048576 : Int) < (z0.length : Int) := by omega
    go_enter Try.func8, Try.ntmps8
    go_wp2
    go_ret
    exact ⟨rfl, Below.refl _ _⟩
  by_cases hn1 : (z1.length : Int) ≤ 1048576
  case neg =>
    have hn1' : (1048576 : Int) < (z1.length : Int) := by omega
    go_enter Try.func8, Try.ntmps8
    go_wp2
    go_ret
    exact ⟨rfl, Below.refl _ _⟩
  go_enter Try.func8, Try.ntmps8
  have B0 : Below w.heap.size w w := Below.refl _ _
  go_wp2_with fail
  refine (drawDriverSend_any a0 z0 cap0 w rz0 lc0 (by omega)).mono ?_
  rintro e w_1 ⟨d, A, al, ls, cl, rfl, lg, ly, li, lo, ll, DO, ol, b_2⟩
  have zw_1 := b_2.size
  have B_3 := B0.trans (b_2.mono B0.size)
  have hm := DO.m
  have hN := DO.n
  have hl : DrvL d := ⟨by omega, by omega, by omega, by omega⟩
  have hs := own_cells ol
  have hcl := own_nilcap ol
  have HCL := Lib.hid hcl
  have hcm := own_cap ol
  have hcx := own_capmax ol
  clear DO ol
  cases hB : sendB d ls
  · have hR := sendR_no hB
    have HI := Lib.hid (fun v h hs => send_at hR (implDriverSend_any d A al ls cl v h hl hN hs (by omega) hcl))
    have HJ := Lib.hid (fun v h hs => send_at hR (specDriverSend_any d A al ls cl v h hl hN hs (by omega) hcl))
    clear hcl
    go_wp2_with (first
      | (refine wpList_store_any _ rfl rfl (by rfl) (b := w_1.heap.size) (off := 0) (n := 22) rfl rfl (vs := drvC d A) rfl (heap_new_at w_1 (.cells (drvC zDrv zDrvA) 46) _ rfl) (by kernel_rfl) rfl rfl (Nat.le_of_ble_eq_true rfl) (drvC d A) rfl ?_
         intro w_4 H_5 g_6
         have b_7 : Below w_1.heap.size w_1 w_4 := below_only ((Below.refl _ _).alloc (Nat.le_refl _) _) g_6 (Nat.le_refl _)
         have zw_4 := b_7.size
         have B_8 := B_3.trans (b_7.mono B_3.size)
         have lH_5 := box_lt H_5
         have m_9 := hm.below b_7
         have m_10 := hs.below b_7
         skip)
      | (refine wpList_load_box _ rfl (by rfl) (b := w_1.heap.size) (off := 0) (n := 22) rfl H_5 Try.underlying46 (by kernel_rfl) (Nat.le_of_ble_eq_true rfl) (drvC d A) rfl ?_
         skip))
    refine (HI.out w_4 m_9 m_10).mono ?_
    rintro e w_11 ⟨A1, rfl, O1, S1, b_12⟩
    have zw_11 := b_12.size
    have B_13 := B_8.trans (b_12.mono B_8.size)
    have H_14 := (b_12.block _ (box_lt H_5)).trans H_5
    have m_15 := m_9.below b_12
    have m_16 := m_10.below b_12
    have n1 := O1.m
    have N1 := O1.n
    clear O1 S1
    go_wp2_with (first
      | (refine wpList_store_any _ rfl rfl (by rfl) (b := w_11.heap.size) (off := 0) (n := 22) rfl rfl (vs := drvC zDrv A1) rfl (heap_new_at w_11 (.cells (drvC zDrv zDrvA) 46) _ rfl) (by kernel_rfl) rfl rfl (Nat.le_of_ble_eq_true rfl) (drvC zDrv A1) rfl ?_
         intro w_17 H_18 g_19
         have b_20 : Below w_11.heap.size w_11 w_17 := below_only ((Below.refl _ _).alloc (Nat.le_refl _) _) g_19 (Nat.le_refl _)
         have zw_17 := b_20.size
         have B_21 := B_13.trans (b_20.mono B_13.size)
         have lH_18 := box_lt H_18
         have H_22 := (b_20.block _ (box_lt H_14)).trans H_14
         have m_23 := m_15.below b_20
         have m_24 := m_16.below b_20
         have m_25 := n1.below b_20
         skip)
      | (refine wpList_load_box _ rfl (by rfl) (b := w_1.heap.size) (off := 0) (n := 22) rfl H_22 Try.underlying46 (by kernel_rfl) (Nat.le_of_ble_eq_true rfl) (drvC d A) rfl ?_
         skip))
    refine (HJ.out w_17 m_23 m_24).mono ?_
    rintro e w_26 ⟨A2, rfl, O2, S2, b_27⟩
    have zw_26 := b_27.size
    have B_28 := B_21.trans (b_27.mono B_21.size)
    have H_29 := (b_27.block _ (box_lt H_22)).trans H_22
    have H_30 := (b_27.block _ (box_lt H_18)).trans H_18
    have m_31 := m_23.below b_27
    have m_32 := m_24.below b_27
    have m_33 := m_25.below b_27
    have n2 := O2.m
    clear O2 S2
    go_wp2_with (first
      | (refine wpList_store_any _ rfl rfl (by rfl) (b := w_26.heap.size) (off := 0) (n := 22) rfl rfl (vs := drvC zDrv A2) rfl (heap_new_at w_26 (.cells (drvC zDrv zDrvA) 46) _ rfl) (by kernel_rfl) rfl rfl (Nat.le_of_ble_eq_true rfl) (drvC zDrv A2) rfl ?_
         intro w_34 H_35 g_36
         have b_37 : Below w_26.heap.size w_26 w_34 := below_only ((Below.refl _ _).alloc (Nat.le_refl _) _) g_36 (Nat.le_refl _)
         have zw_34 := b_37.size
         have B_38 := B_28.trans (b_37.mono B_28.size)
         have lH_35 := box_lt H_35
         have H_39 := (b_37.block _ (box_lt H_29)).trans H_29
         have H_40 := (b_37.block _ (box_lt H_30)).trans H_30
         have m_41 := m_31.below b_37
         have m_42 := m_32.below b_37
         have m_43 := m_33.below b_37
         have m_44 := n2.below b_37
         skip)
      | (refine wpList_load_box _ rfl (by rfl) (b := w_11.heap.size) (off := 0) (n := 22) rfl H_40 Try.underlying46 (by kernel_rfl) (Nat.le_of_ble_eq_true rfl) (drvC zDrv A1) rfl ?_
         skip)
      | (refine wpList_load_box _ rfl (by rfl) (b := w_26.heap.size) (off := 0) (n := 22) rfl H_35 Try.underlying46 (by kernel_rfl) (Nat.le_of_ble_eq_true rfl) (drvC zDrv A2) rfl ?_
         skip))
    refine (sameDriver_eq zDrv A1 A2 w_34 m_43 m_44 zDrvL).mono ?_
    rintro e w_45 ⟨rfl, b_46⟩
    have zw_45 := b_46.size
    have B_47 := B_38.trans (b_46.mono B_38.size)
    have H_48 := (b_46.block _ (box_lt H_39)).trans H_39
    have H_49 := (b_46.block _ (box_lt H_40)).trans H_40
    have H_50 := (b_46.block _ (box_lt H_35)).trans H_35
    have m_51 := m_41.below b_46
    have m_52 := m_42.below b_46
    have m_53 := m_43.below b_46
    have m_54 := m_44.below b_46
    go_wp2_with (first
      | (refine wpList_load_box _ rfl (by rfl) (b := w_11.heap.size) (off := 0) (n := 22) rfl H_49 Try.underlying46 (by kernel_rfl) (Nat.le_of_ble_eq_true rfl) (drvC zDrv A1) rfl ?_
         skip)
      | (refine wpList_load_box _ rfl (by rfl) (b := w_26.heap.size) (off := 0) (n := 22) rfl H_50 Try.underlying46 (by kernel_rfl) (Nat.le_of_ble_eq_true rfl) (drvC zDrv A2) rfl ?_
         skip))
    refine (sameDriver_eq zDrv A1 A2 w_45 m_53 m_54 zDrvL).mono ?_
    rintro e w_55 ⟨rfl, b_56⟩
    have zw_55 := b_56.size
    have B_57 := B_47.trans (b_56.mono B_47.size)
    have H_58 := (b_56.block _ (box_lt H_48)).trans H_48
    have H_59 := (b_56.block _ (box_lt H_49)).trans H_49
    have H_60 := (b_56.block _ (box_lt H_50)).trans H_50
    have m_61 := m_51.below b_56
    have m_62 := m_52.below b_56
    have m_63 := m_53.below b_56
    have m_64 := m_54.below b_56
    go_wp2
    go_ret
    exact ⟨rfl, B_57⟩
  · have hR := sendR_yes hB rfl
    have hfc := send_facts hB
    obtain ⟨hv, hdl, hlz, hpe, hv2⟩ := hfc
    have HV := Lib.hid hv2
    obtain ⟨d2, hd2⟩ : ∃ d2 : DrvD, d2 = { d with p := { d.p with en := sendE d ls }, o := d.o ++ ls } := ⟨_, rfl⟩
    rw [← hd2] at hR HV
    clear hv2
    have HI2 := Lib.hid (show d2.i = d.i by rw [hd2])
    have HO2 := Lib.hid (show d.o ++ ls = d2.o by rw [hd2])
    have HE2 := Lib.hid (show d2.p.en = sendE d ls by rw [hd2])
    have hlo2 : d2.o.length = d.o.length + ls.length := by rw [← HO2.out, List.length_append]
    have HLL := Lib.hid hlo2.symm
    have hlo2a := Nat.le_of_eq hlo2
    have hlo2b := Nat.le_of_eq hlo2.symm
    clear hlo2
    have hl2 : DrvL d2 := by rw [hd2]; exact ⟨hl.1, hl.2.1, hl.2.2.1, by dsimp only; rw [List.length_append]; omega⟩
    clear hd2
    clear hpe
    have hm0 : 0 ≤ (z1.length : Int) % ((ls.length : Int) + 1) := Int.emod_nonneg _ (by omega)
    have hm1 : (z1.length : Int) % ((ls.length : Int) + 1) < (ls.length : Int) + 1 := Int.emod_lt_of_pos _ (by omega)
    obtain ⟨K, hM⟩ : ∃ K : Nat, (z1.length : Int) % ((ls.length : Int) + 1) = (K : Int) := Int.eq_ofNat_of_zero_le hm0
    rw [hM] at hm1
    have hKM : K ≤ ls.length := by omega
    have HM := Lib.hid hM
    clear hM hm0
    obtain ⟨d3, hR1, hR2, hl3⟩ := send_parts hR hKM hl
    have hlt : (ls.take K).length = K := by rw [List.length_take]; omega
    have hKI : (K : Int) ≤ (ls.length : Int) := by omega
    have hKc : (K : Int) ≤ (cl : Int) := by omega
    have hK0 : (0 : Int) ≤ (K : Int) := by omega
    have hcI : (ls.length : Int) ≤ (cl : Int) := by omega
    have HI2 := fun v h hs => send_at hR1 (implDriverSend_any d A al (ls.take K) cl v h hl hN hs (by omega) (fun e => by have := hcl e; omega))
    simp only [hlt] at HI2
    replace HI2 := Lib.hid HI2
    clear hlt
    have HI := Lib.hid (fun v h hs => send_at hR (implDriverSend_any d A al ls cl v h hl hN hs (by omega) hcl))
    have HJ := Lib.hid (fun v h hs => send_at hR (specDriverSend_any d A al ls cl v h hl hN hs (by omega) hcl))
    clear hcl
    go_wp2_with (first
      | (refine wpList_store_any _ rfl rfl (by rfl) (b := w_1.heap.size) (off := 0) (n := 22) rfl rfl (vs := drvC d A) rfl (heap_new_at w_1 (.cells (drvC zDrv zDrvA) 46) _ rfl) (by kernel_rfl) rfl rfl (Nat.le_of_ble_eq_true rfl) (drvC d A) rfl ?_
         intro w_4 H_5 g_6
         have b_7 : Below w_1.heap.size w_1 w_4 := below_only ((Below.refl _ _).alloc (Nat.le_refl _) _) g_6 (Nat.le_refl _)
         have zw_4 := b_7.size
         have B_8 := B_3.trans (b_7.mono B_3.size)
         have lH_5 := box_lt H_5
         have m_9 := hm.below b_7
         have m_10 := hs.below b_7
         skip)
      | (refine wpList_load_box _ rfl (by rfl) (b := w_1.heap.size) (off := 0) (n := 22) rfl H_5 Try.underlying46 (by kernel_rfl) (Nat.le_of_ble_eq_true rfl) (drvC d A) rfl ?_
         skip))
    refine (HI.out w_4 m_9 m_10).mono ?_
    rintro e w_65 ⟨A1, rfl, O1, S1, b_66⟩
    have zw_65 := b_66.size
    have B_67 := B_8.trans (b_66.mono B_8.size)
    have H_68 := (b_66.block _ (box_lt H_5)).trans H_5
    have m_69 := m_9.below b_66
    have m_70 := m_10.below b_66
    have n1 := O1.m
    have N1 := O1.n
    clear O1 S1
    go_wp2_with (first
      | (refine wpList_store_any _ rfl rfl (by rfl) (b := w_65.heap.size) (off := 0) (n := 22) rfl rfl (vs := drvC d2 A1) rfl (heap_new_at w_65 (.cells (drvC zDrv zDrvA) 46) _ rfl) (by kernel_rfl) rfl rfl (Nat.le_of_ble_eq_true rfl) (drvC d2 A1) rfl ?_
         intro w_71 H_72 g_73
         have b_74 : Below w_65.heap.size w_65 w_71 := below_only ((Below.refl _ _).alloc (Nat.le_refl _) _) g_73 (Nat.le_refl _)
         have zw_71 := b_74.size
         have B_75 := B_67.trans (b_74.mono B_67.size)
         have lH_72 := box_lt H_72
         have H_76 := (b_74.block _ (box_lt H_68)).trans H_68
         have m_77 := m_69.below b_74
         have m_78 := m_70.below b_74
         have m_79 := n1.below b_74
         skip)
      | (refine wpList_load_box _ rfl (by rfl) (b := w_1.heap.size) (off := 0) (n := 22) rfl H_76 Try.underlying46 (by kernel_rfl) (Nat.le_of_ble_eq_true rfl) (drvC d A) rfl ?_
         skip))
    refine (HJ.out w_71 m_77 m_78).mono ?_
    rintro e w_80 ⟨A2, rfl, O2, S2, b_81⟩
    have zw_80 := b_81.size
    have B_82 := B_75.trans (b_81.mono B_75.size)
    have H_83 := (b_81.block _ (box_lt H_76)).trans H_76
    have H_84 := (b_81.block _ (box_lt H_72)).trans H_72
    have m_85 := m_77.below b_81
    have m_86 := m_78.below b_81
    have m_87 := m_79.below b_81
    have n2 := O2.m
    clear O2 S2
    go_wp2_with (first
      | (refine wpList_store_any _ rfl rfl (by rfl) (b := w_80.heap.size) (off := 0) (n := 22) rfl rfl (vs := drvC d2 A2) rfl (heap_new_at w_80 (.cells (drvC zDrv zDrvA) 46) _ rfl) (by kernel_rfl) rfl rfl (Nat.le_of_ble_eq_true rfl) (drvC d2 A2) rfl ?_
         intro w_88 H_89 g_90
         have b_91 : Below w_80.heap.size w_80 w_88 := below_only ((Below.refl _ _).alloc (Nat.le_refl _) _) g_90 (Nat.le_refl _)
         have zw_88 := b_91.size
         have B_92 := B_82.trans (b_91.mono B_82.size)
         have lH_89 := box_lt H_89
         have H_93 := (b_91.block _ (box_lt H_83)).trans H_83
         have H_94 := (b_91.block _ (box_lt H_84)).trans H_84
         have m_95 := m_85.below b_91
         have m_96 := m_86.below b_91
         have m_97 := m_87.below b_91
         have m_98 := n2.below b_91
         skip)
      | (refine wpList_load_box _ rfl (by rfl) (b := w_65.heap.size) (off := 0) (n := 22) rfl H_94 Try.underlying46 (by kernel_rfl) (Nat.le_of_ble_eq_true rfl) (drvC d2 A1) rfl ?_
         skip)
      | (refine wpList_load_box _ rfl (by rfl) (b := w_80.heap.size) (off := 0) (n := 22) rfl H_89 Try.underlying46 (by kernel_rfl) (Nat.le_of_ble_eq_true rfl) (drvC d2 A2) rfl ?_
         skip))
    refine (sameDriver_eq d2 A1 A2 w_88 m_97 m_98 hl2).mono ?_
    rintro e w_99 ⟨rfl, b_100⟩
    have zw_99 := b_100.size
    have B_101 := B_92.trans (b_100.mono B_92.size)
    have H_102 := (b_100.block _ (box_lt H_93)).trans H_93
    have H_103 := (b_100.block _ (box_lt H_94)).trans H_94
    have H_104 := (b_100.block _ (box_lt H_89)).trans H_89
    have m_105 := m_95.below b_100
    have m_106 := m_96.below b_100
    have m_107 := m_97.below b_100
    have m_108 := m_98.below b_100
    have hM := HM.out
    have hwr1 : IntKind.i64.wrap ((ls.length : Int) + 1) = (ls.length : Int) + 1 := IntWalk.i64_in _ (by omega)
    have hMz : (((ls.length : Int) + 1) == 0) = false := beq_eq_false_iff_ne.2 (by omega)
    go_wp2_with fail
    rw [hM]
    clear hM hwr1 hMz
    have Kd_109 : w_99.drew.heap[w_1.heap.size]? = some (.cells (drvC d A) 46 (0, 0)) := H_102
    have Bd_110 : Below w_99.heap.size w_99 w_99.drew := (Below.refl _ _).drew
    go_cut [12, 13] from 16 (fun sA sB wx => ∃ (g : Nat) (AA : DrvA), sA = .pointer (some ⟨g, 0, none⟩) ∧ sB = .bool true ∧ wx.heap[g]? = some (.cells (drvC d3 AA) 46 (0, 0)) ∧ DrvM wx d3 AA ∧ DrvN d3 AA ∧ Below w_99.heap.size w_99 wx ∧ w_99.heap.size ≤ g)
    case first =>
      refine wp_region_held_drew (S := fun v => v.heap[w_1.heap.size]? = some (.cells (drvC d A) 46 (0, 0))) (by kernel_rfl) Kd_109 (fun _ => ?_)
      refine wpAnyH_take (i := 0) (v := .agg (drvC d A)) rfl (by kernel_rfl) (by kernel_rfl) (by kernel_rfl) (fun _ _ _ h => h) (yieldsIf_load_box (n := 22) (off := 0) rfl rfl rfl (fun _ h => h) Try.underlying46 (by kernel_rfl) (Nat.le_of_ble_eq_true rfl) _ rfl) Kd_109 ?_
      go_simp
      refine wpAnyH_take (i := 1) (v := .slice al ls.length cl) rfl (by kernel_rfl) (by kernel_rfl) (by kernel_rfl) (fun _ _ _ h => h) (Or.inl ⟨by rfl, by intro w _; go_simp⟩) Kd_109 ?_
      go_simp
      refine wpAnyH_take (i := 2) (v := .int .i64 (K : Int)) rfl (by kernel_rfl) (by kernel_rfl) (by kernel_rfl) (fun _ _ _ h => h) (Or.inl ⟨by rfl, by intro w _; go_simp⟩) Kd_109 ?_
      go_simp
      refine wpAnyH_take (i := 3) (v := .slice al K cl) rfl (by kernel_rfl) (by kernel_rfl) (by kernel_rfl) (fun _ _ _ h => h) (Or.inl ⟨by rfl, by intro w _; go_simp⟩) Kd_109 ?_
      go_simp
      refine wpAnyH_ready (rs := [4, 8]) (by kernel_rfl) (by simp) (AllReadyH.cons rfl (fun KK hK => ?_) (AllReadyH.cons rfl (fun KK hK => ?_) AllReadyH.nil))
      · go_simp
        go_at_call 23
        refine (HI2.out w_99.drew (m_105.below Bd_110) ((Ints.take m_106 K).below Bd_110)).mono ?_
        rintro e w_113 ⟨A9, rfl, O_117, S9, b_112⟩
        have K_111 := (b_112.block _ (box_lt Kd_109)).trans Kd_109
        go_simp
        refine hK.out _ _ K_111 (fun _ => ?_)
        clear hK KK
        refine wpAnyH_take (i := 5) (v := .tuple #[.agg (drvC d3 A9), .bool true]) rfl (by kernel_rfl) (by kernel_rfl) (by kernel_rfl) (fun _ _ _ h => h) (Or.inl ⟨by rfl, by intro w _; go_simp⟩) K_111 ?_
        go_simp
        refine wpAnyH_take (i := 6) (v := .agg (drvC d3 A9)) rfl (by kernel_rfl) (by kernel_rfl) (by kernel_rfl) (fun _ _ _ h => h) (Or.inl ⟨by rfl, by intro w _; go_simp⟩) K_111 ?_
        go_simp
        refine wpAnyH_take (i := 7) (v := .bool true) rfl (by kernel_rfl) (by kernel_rfl) (by kernel_rfl) (fun _ _ _ h => h) (Or.inl ⟨by rfl, by intro w _; go_simp⟩) K_111 ?_
        go_simp
        refine wpAnyH_ready (rs := [8]) (by kernel_rfl) (by simp) (AllReadyH.cons rfl (fun KK hK => ?_) AllReadyH.nil)
        go_simp
        refine hK.out _ _ (box_alloc K_111 _) (fun _ => ?_)
        clear hK KK
        refine wpAnyH_ready (rs := [9]) (by kernel_rfl) (by simp) (AllReadyH.cons rfl (fun KK hK => ?_) AllReadyH.nil)
        refine step_store_any rfl rfl rfl (b := w_113.heap.size) (off := 0) (n := 22) rfl rfl (vs := drvC d3 A9) rfl (heap_new_at w_113 (.cells (drvC zDrv zDrvA) 46) _ rfl) (by kernel_rfl) rfl rfl (Nat.le_of_ble_eq_true rfl) (drvC d3 A9) rfl ?_
        intro w_114 H_115 g_116
        have zw_113 := b_112.size
        have b_118 : Below w_113.heap.size w_113 w_114 := below_only ((Below.refl _ _).alloc (Nat.le_refl _) _) g_116 (Nat.le_refl _)
        refine hK.out _ _ ((b_118.block _ (box_lt K_111)).trans K_111) (fun _ => ?_)
        clear hK KK
        refine wpAnyH_take (i := 10) (v := .bool true) rfl (by kernel_rfl) (by kernel_rfl) (by kernel_rfl) (fun _ _ _ h => h) (Or.inl ⟨by rfl, by intro w _; go_simp⟩) ((b_118.block _ (box_lt K_111)).trans K_111) ?_
        go_simp
        refine wpAnyH_done (by kernel_rfl) ?_ _
        go_wp2
        go_meet
        case rel =>
          exact ⟨_, A9, rfl, rfl, H_115, O_117.m.below b_118, O_117.n, (Bd_110.trans (b_112.mono (Nat.le_refl _))).trans (b_118.mono zw_113), zw_113⟩
      · go_simp
        refine hK.out _ _ (box_alloc Kd_109 _) (fun _ => ?_)
        clear hK KK
        have bV : Below w_99.heap.size w_99 (w_99.drew.alloc (.cells (drvC zDrv zDrvA) 46)) := Bd_110.alloc (Nat.le_refl _) _
        have hV := heap_new_at w_99.drew (.cells (drvC zDrv zDrvA) 46) _ rfl
        have KV := box_alloc Kd_109 (.cells (drvC zDrv zDrvA) 46)
        have zV : w_99.heap.size < (w_99.drew.alloc (.cells (drvC zDrv zDrvA) 46)).heap.size := by simp
        refine wpAnyH_at (w_99.drew.alloc (.cells (drvC zDrv zDrvA) 46)) rfl ?_
        generalize (w_99.drew.alloc (.cells (drvC zDrv zDrvA) 46)) = V at *
        refine wpAnyH_ready (rs := [4]) (by kernel_rfl) (by simp) (AllReadyH.cons rfl (fun KK hK => ?_) AllReadyH.nil)
        go_simp
        go_at_call 23
        refine (HI2.out V (m_105.below bV) ((Ints.take m_106 K).below bV)).mono ?_
        rintro e w_113 ⟨A9, rfl, O_117, S9, b_112⟩
        have K_111 := (b_112.block _ (box_lt KV)).trans KV
        have hV5 := (b_112.block _ (box_lt hV)).trans hV
        go_simp
        refine hK.out _ _ K_111 (fun _ => ?_)
        clear hK KK
        refine wpAnyH_take (i := 5) (v := .tuple #[.agg (drvC d3 A9), .bool true]) rfl (by kernel_rfl) (by kernel_rfl) (by kernel_rfl) (fun _ _ _ h => h) (Or.inl ⟨by rfl, by intro w _; go_simp⟩) K_111 ?_
        go_simp
        refine wpAnyH_take (i := 6) (v := .agg (drvC d3 A9)) rfl (by kernel_rfl) (by kernel_rfl) (by kernel_rfl) (fun _ _ _ h => h) (Or.inl ⟨by rfl, by intro w _; go_simp⟩) K_111 ?_
        go_simp
        refine wpAnyH_take (i := 7) (v := .bool true) rfl (by kernel_rfl) (by kernel_rfl) (by kernel_rfl) (fun _ _ _ h => h) (Or.inl ⟨by rfl, by intro w _; go_simp⟩) K_111 ?_
        go_simp
        refine wpAnyH_ready (rs := [9]) (by kernel_rfl) (by simp) (AllReadyH.cons rfl (fun KK hK => ?_) AllReadyH.nil)
        refine step_store_any rfl rfl rfl (b := w_99.heap.size) (off := 0) (n := 22) rfl rfl (vs := drvC d3 A9) rfl hV5 (by kernel_rfl) rfl rfl (Nat.le_of_ble_eq_true rfl) (drvC d3 A9) rfl ?_
        intro w_114 H_115 g_116
        have K6 := box_only' K_111 g_116 (by have := box_lt H_102; omega)
        refine hK.out _ _ K6 (fun _ => ?_)
        clear hK KK
        refine wpAnyH_take (i := 10) (v := .bool true) rfl (by kernel_rfl) (by kernel_rfl) (by kernel_rfl) (fun _ _ _ h => h) (Or.inl ⟨by rfl, by intro w _; go_simp⟩) K6 ?_
        go_simp
        refine wpAnyH_done (by kernel_rfl) ?_ _
        go_wp2
        go_meet
        case rel =>
          exact ⟨_, A9, rfl, rfl, H_115, (O_117.low g_116 zV).m, (O_117.low g_116 zV).n, below_only (bV.trans (b_112.mono bV.size)) g_116 (Nat.le_refl _), Nat.le_refl _⟩
    case rest =>
      obtain ⟨g_119, A3, rfl, rfl, H_121, m_122, N_123, b_124, hg_119⟩ := hcut
      obtain ⟨wx_120, hwx_120⟩ : ∃ v, v = wc := ⟨_, rfl⟩
      rw [← hwx_120] at H_121 m_122 b_124 ⊢
      clear hwx_120 Kd_109 Bd_110
      have zwx_120 := b_124.size
      have B_125 := B_101.trans (b_124.mono B_101.size)
      have H_126 := (b_124.block _ (box_lt H_102)).trans H_102
      have H_127 := (b_124.block _ (box_lt H_103)).trans H_103
      have H_128 := (b_124.block _ (box_lt H_104)).trans H_104
      have m_129 := m_105.below b_124
      have m_130 := m_106.below b_124
      have m_131 := m_107.below b_124
      have m_132 := m_108.below b_124
      have lg_119 := box_lt H_121
      by_cases hck : cl = K
      · have hKl : ls.length = K := by omega
        have hdr : ls.drop K = [] := List.drop_of_length_le (by omega)
        rw [hdr] at hR2
        clear hdr
        subst hck
        subst hKl
        have HI3 := fun v h (_ : Ints v none []) => send_at hR2 (implDriverSend_any d3 A3 al [] 0 v h hl3 N_123 (.inl rfl) (by simp) (fun _ => ⟨rfl, rfl⟩))
        simp only [List.length_nil] at HI3
        replace HI3 := Lib.hid HI3
        go_wp2_with fail
        have Kd_133 : wx_120.drew.heap[g_119]? = some (.cells (drvC d3 A3) 46 (0, 0)) := H_121
        have Bd_134 : Below wx_120.heap.size wx_120 wx_120.drew := (Below.refl _ _).drew
        go_cut [14, 15] from 16 (fun sA sB wx => ∃ (g : Nat) (AA : DrvA), sA = .pointer (some ⟨g, 0, none⟩) ∧ sB = .bool true ∧ wx.heap[g]? = some (.cells (drvC d2 AA) 46 (0, 0)) ∧ DrvM wx d2 AA ∧ DrvN d2 AA ∧ Below wx_120.heap.size wx_120 wx ∧ wx_120.heap.size ≤ g)
        case first =>
          refine wp_region_held_drew (S := fun v => v.heap[g_119]? = some (.cells (drvC d3 A3) 46 (0, 0))) (by kernel_rfl) Kd_133 (fun _ => ?_)
          refine wpAnyH_take (i := 0) (v := .agg (drvC d3 A3)) rfl (by kernel_rfl) (by kernel_rfl) (by kernel_rfl) (fun _ _ _ h => h) (yieldsIf_load_box (n := 22) (off := 0) rfl rfl rfl (fun _ h => h) Try.underlying46 (by kernel_rfl) (Nat.le_of_ble_eq_true rfl) _ rfl) Kd_133 ?_
          go_simp
          refine wpAnyH_take (i := 1) (v := .slice al ls.length ls.length) rfl (by kernel_rfl) (by kernel_rfl) (by kernel_rfl) (fun _ _ _ h => h) (Or.inl ⟨by rfl, by intro w _; go_simp⟩) Kd_133 ?_
          go_simp
          refine wpAnyH_take (i := 2) (v := .int .i64 (ls.length : Int)) rfl (by kernel_rfl) (by kernel_rfl) (by kernel_rfl) (fun _ _ _ h => h) (Or.inl ⟨by rfl, by intro w _; go_simp⟩) Kd_133 ?_
          go_simp
          refine wpAnyH_take (i := 3) (v := .slice al 0 0) rfl (by kernel_rfl) (by kernel_rfl) (by kernel_rfl) (fun _ _ _ h => h) (Or.inl ⟨by rfl, by intro w _; go_simp⟩) Kd_133 ?_
          go_simp
          refine wpAnyH_ready (rs := [4, 8]) (by kernel_rfl) (by simp) (AllReadyH.cons rfl (fun KK hK => ?_) (AllReadyH.cons rfl (fun KK hK => ?_) AllReadyH.nil))
          · go_simp
            go_at_call 23
            refine (HI3.out wx_120.drew (m_122.below Bd_134) ((show Ints wx_120 none [] from .inl rfl).below Bd_134)).mono ?_
            rintro e w_137 ⟨A9, rfl, O_141, S9, b_136⟩
            have K_135 := (b_136.block _ (box_lt Kd_133)).trans Kd_133
            go_simp
            refine hK.out _ _ K_135 (fun _ => ?_)
            clear hK KK
            refine wpAnyH_take (i := 5) (v := .tuple #[.agg (drvC d2 A9), .bool true]) rfl (by kernel_rfl) (by kernel_rfl) (by kernel_rfl) (fun _ _ _ h => h) (Or.inl ⟨by rfl, by intro w _; go_simp⟩) K_135 ?_
            go_simp
            refine wpAnyH_take (i := 6) (v := .agg (drvC d2 A9)) rfl (by kernel_rfl) (by kernel_rfl) (by kernel_rfl) (fun _ _ _ h => h) (Or.inl ⟨by rfl, by intro w _; go_simp⟩) K_135 ?_
            go_simp
            refine wpAnyH_take (i := 7) (v := .bool true) rfl (by kernel_rfl) (by kernel_rfl) (by kernel_rfl) (fun _ _ _ h => h) (Or.inl ⟨by rfl, by intro w _; go_simp⟩) K_135 ?_
            go_simp
            refine wpAnyH_ready (rs := [8]) (by kernel_rfl) (by simp) (AllReadyH.cons rfl (fun KK hK => ?_) AllReadyH.nil)
            go_simp
            refine hK.out _ _ (box_alloc K_135 _) (fun _ => ?_)
            clear hK KK
            refine wpAnyH_ready (rs := [9]) (by kernel_rfl) (by simp) (AllReadyH.cons rfl (fun KK hK => ?_) AllReadyH.nil)
            refine step_store_any rfl rfl rfl (b := w_137.heap.size) (off := 0) (n := 22) rfl rfl (vs := drvC d2 A9) rfl (heap_new_at w_137 (.cells (drvC zDrv zDrvA) 46) _ rfl) (by kernel_rfl) rfl rfl (Nat.le_of_ble_eq_true rfl) (drvC d2 A9) rfl ?_
            intro w_138 H_139 g_140
            have zw_137 := b_136.size
            have b_142 : Below w_137.heap.size w_137 w_138 := below_only ((Below.refl _ _).alloc (Nat.le_refl _) _) g_140 (Nat.le_refl _)
            refine hK.out _ _ ((b_142.block _ (box_lt K_135)).trans K_135) (fun _ => ?_)
            clear hK KK
            refine wpAnyH_take (i := 10) (v := .bool true) rfl (by kernel_rfl) (by kernel_rfl) (by kernel_rfl) (fun _ _ _ h => h) (Or.inl ⟨by rfl, by intro w _; go_simp⟩) ((b_142.block _ (box_lt K_135)).trans K_135) ?_
            go_simp
            refine wpAnyH_done (by kernel_rfl) ?_ _
            go_wp2
            go_meet
            case rel =>
              exact ⟨_, A9, rfl, rfl, H_139, O_141.m.below b_142, O_141.n, (Bd_134.trans (b_136.mono (Nat.le_refl _))).trans (b_142.mono zw_137), zw_137⟩
          · go_simp
            refine hK.out _ _ (box_alloc Kd_133 _) (fun _ => ?_)
            clear hK KK
            have bV : Below wx_120.heap.size wx_120 (wx_120.drew.alloc (.cells (drvC zDrv zDrvA) 46)) := Bd_134.alloc (Nat.le_refl _) _
            have hV := heap_new_at wx_120.drew (.cells (drvC zDrv zDrvA) 46) _ rfl
            have KV := box_alloc Kd_133 (.cells (drvC zDrv zDrvA) 46)
            have zV : wx_120.heap.size < (wx_120.drew.alloc (.cells (drvC zDrv zDrvA) 46)).heap.size := by simp
            refine wpAnyH_at (wx_120.drew.alloc (.cells (drvC zDrv zDrvA) 46)) rfl ?_
            generalize (wx_120.drew.alloc (.cells (drvC zDrv zDrvA) 46)) = V at *
            refine wpAnyH_ready (rs := [4]) (by kernel_rfl) (by simp) (AllReadyH.cons rfl (fun KK hK => ?_) AllReadyH.nil)
            go_simp
            go_at_call 23
            refine (HI3.out V (m_122.below bV) ((show Ints wx_120 none [] from .inl rfl).below bV)).mono ?_
            rintro e w_137 ⟨A9, rfl, O_141, S9, b_136⟩
            have K_135 := (b_136.block _ (box_lt KV)).trans KV
            have hV5 := (b_136.block _ (box_lt hV)).trans hV
            go_simp
            refine hK.out _ _ K_135 (fun _ => ?_)
            clear hK KK
            refine wpAnyH_take (i := 5) (v := .tuple #[.agg (drvC d2 A9), .bool true]) rfl (by kernel_rfl) (by kernel_rfl) (by kernel_rfl) (fun _ _ _ h => h) (Or.inl ⟨by rfl, by intro w _; go_simp⟩) K_135 ?_
            go_simp
            refine wpAnyH_take (i := 6) (v := .agg (drvC d2 A9)) rfl (by kernel_rfl) (by kernel_rfl) (by kernel_rfl) (fun _ _ _ h => h) (Or.inl ⟨by rfl, by intro w _; go_simp⟩) K_135 ?_
            go_simp
            refine wpAnyH_take (i := 7) (v := .bool true) rfl (by kernel_rfl) (by kernel_rfl) (by kernel_rfl) (fun _ _ _ h => h) (Or.inl ⟨by rfl, by intro w _; go_simp⟩) K_135 ?_
            go_simp
            refine wpAnyH_ready (rs := [9]) (by kernel_rfl) (by simp) (AllReadyH.cons rfl (fun KK hK => ?_) AllReadyH.nil)
            refine step_store_any rfl rfl rfl (b := wx_120.heap.size) (off := 0) (n := 22) rfl rfl (vs := drvC d2 A9) rfl hV5 (by kernel_rfl) rfl rfl (Nat.le_of_ble_eq_true rfl) (drvC d2 A9) rfl ?_
            intro w_138 H_139 g_140
            have K6 := box_only' K_135 g_140 (by have := box_lt H_121; omega)
            refine hK.out _ _ K6 (fun _ => ?_)
            clear hK KK
            refine wpAnyH_take (i := 10) (v := .bool true) rfl (by kernel_rfl) (by kernel_rfl) (by kernel_rfl) (fun _ _ _ h => h) (Or.inl ⟨by rfl, by intro w _; go_simp⟩) K6 ?_
            go_simp
            refine wpAnyH_done (by kernel_rfl) ?_ _
            go_wp2
            go_meet
            case rel =>
              exact ⟨_, A9, rfl, rfl, H_139, (O_141.low g_140 zV).m, (O_141.low g_140 zV).n, below_only (bV.trans (b_136.mono bV.size)) g_140 (Nat.le_refl _), Nat.le_refl _⟩
        case rest =>
          obtain ⟨g_143, A4, rfl, rfl, H_145, m_146, N_147, b_148, hg_143⟩ := hcut
          obtain ⟨wx_144, hwx_144⟩ : ∃ v, v = wc := ⟨_, rfl⟩
          rw [← hwx_144] at H_145 m_146 b_148 ⊢
          clear hwx_144 Kd_133 Bd_134
          have zwx_144 := b_148.size
          have B_149 := B_125.trans (b_148.mono B_125.size)
          have H_150 := (b_148.block _ (box_lt H_126)).trans H_126
          have H_151 := (b_148.block _ (box_lt H_127)).trans H_127
          have H_152 := (b_148.block _ (box_lt H_128)).trans H_128
          have H_153 := (b_148.block _ (box_lt H_121)).trans H_121
          have m_154 := m_129.below b_148
          have m_155 := m_130.below b_148
          have m_156 := m_131.below b_148
          have m_157 := m_132.below b_148
          have m_158 := m_122.below b_148
          have lg_143 := box_lt H_145
          go_wp2_with (first
            | (refine wpList_load_box _ rfl (by rfl) (b := g_143) (off := 0) (n := 22) rfl H_145 Try.underlying46 (by kernel_rfl) (Nat.le_of_ble_eq_true rfl) (drvC d2 A4) rfl ?_
               skip)
            | (refine wpList_load_box _ rfl (by rfl) (b := w_65.heap.size) (off := 0) (n := 22) rfl H_151 Try.underlying46 (by kernel_rfl) (Nat.le_of_ble_eq_true rfl) (drvC d2 A1) rfl ?_
               skip))
          refine (sameDriver_eq d2 A4 A1 wx_144 m_146 m_156 hl2).mono ?_
          rintro e w_159 ⟨rfl, b_160⟩
          have zw_159 := b_160.size
          have B_161 := B_149.trans (b_160.mono B_149.size)
          have H_162 := (b_160.block _ (box_lt H_150)).trans H_150
          have H_163 := (b_160.block _ (box_lt H_151)).trans H_151
          have H_164 := (b_160.block _ (box_lt H_152)).trans H_152
          have H_165 := (b_160.block _ (box_lt H_153)).trans H_153
          have H_166 := (b_160.block _ (box_lt H_145)).trans H_145
          have m_167 := m_154.below b_160
          have m_168 := m_155.below b_160
          have m_169 := m_156.below b_160
          have m_170 := m_157.below b_160
          have m_171 := m_158.below b_160
          have m_172 := m_146.below b_160
          go_wp2
          go_ret
          exact ⟨rfl, B_161⟩
      · obtain ⟨ad, rfl⟩ : ∃ ad, al = some ad := by
          cases al with
          | none => exact absurd (HCL.out rfl).2 (by omega)
          | some ad => exact ⟨ad, rfl⟩
        have hKlt : K < cl := by omega
        have HI3 := fun v h hs => send_at hR2 (implDriverSend_any d3 A3 (some (ad.add K)) (ls.drop K) (cl - K) v h hl3 N_123 hs (by rw [List.length_drop]; omega) (fun e => by cases e))
        simp only [List.length_drop] at HI3
        replace HI3 := Lib.hid HI3
        go_wp2_with fail
        have Kd_173 : wx_120.drew.heap[g_119]? = some (.cells (drvC d3 A3) 46 (0, 0)) := H_121
        have Bd_174 : Below wx_120.heap.size wx_120 wx_120.drew := (Below.refl _ _).drew
        go_cut [14, 15] from 16 (fun sA sB wx => ∃ (g : Nat) (AA : DrvA), sA = .pointer (some ⟨g, 0, none⟩) ∧ sB = .bool true ∧ wx.heap[g]? = some (.cells (drvC d2 AA) 46 (0, 0)) ∧ DrvM wx d2 AA ∧ DrvN d2 AA ∧ Below wx_120.heap.size wx_120 wx ∧ wx_120.heap.size ≤ g)
        case first =>
          refine wp_region_held_drew (S := fun v => v.heap[g_119]? = some (.cells (drvC d3 A3) 46 (0, 0))) (by kernel_rfl) Kd_173 (fun _ => ?_)
          refine wpAnyH_take (i := 0) (v := .agg (drvC d3 A3)) rfl (by kernel_rfl) (by kernel_rfl) (by kernel_rfl) (fun _ _ _ h => h) (yieldsIf_load_box (n := 22) (off := 0) rfl rfl rfl (fun _ h => h) Try.underlying46 (by kernel_rfl) (Nat.le_of_ble_eq_true rfl) _ rfl) Kd_173 ?_
          go_simp
          refine wpAnyH_take (i := 1) (v := .slice (some ad) ls.length cl) rfl (by kernel_rfl) (by kernel_rfl) (by kernel_rfl) (fun _ _ _ h => h) (Or.inl ⟨by rfl, by intro w _; go_simp⟩) Kd_173 ?_
          go_simp
          refine wpAnyH_take (i := 2) (v := .int .i64 (K : Int)) rfl (by kernel_rfl) (by kernel_rfl) (by kernel_rfl) (fun _ _ _ h => h) (Or.inl ⟨by rfl, by intro w _; go_simp⟩) Kd_173 ?_
          go_simp
          refine wpAnyH_take (i := 3) (v := .slice (some (ad.add K)) (ls.length - K) (cl - K)) rfl (by kernel_rfl) (by kernel_rfl) (by kernel_rfl) (fun _ _ _ h => h) (Or.inl ⟨by rfl, by intro w _; go_simp⟩) Kd_173 ?_
          go_simp
          refine wpAnyH_ready (rs := [4, 8]) (by kernel_rfl) (by simp) (AllReadyH.cons rfl (fun KK hK => ?_) (AllReadyH.cons rfl (fun KK hK => ?_) AllReadyH.nil))
          · go_simp
            go_at_call 23
            refine (HI3.out wx_120.drew (m_122.below Bd_174) ((ints_dropA m_130 K).below Bd_174)).mono ?_
            rintro e w_177 ⟨A9, rfl, O_181, S9, b_176⟩
            have K_175 := (b_176.block _ (box_lt Kd_173)).trans Kd_173
            go_simp
            refine hK.out _ _ K_175 (fun _ => ?_)
            clear hK KK
            refine wpAnyH_take (i := 5) (v := .tuple #[.agg (drvC d2 A9), .bool true]) rfl (by kernel_rfl) (by kernel_rfl) (by kernel_rfl) (fun _ _ _ h => h) (Or.inl ⟨by rfl, by intro w _; go_simp⟩) K_175 ?_
            go_simp
            refine wpAnyH_take (i := 6) (v := .agg (drvC d2 A9)) rfl (by kernel_rfl) (by kernel_rfl) (by kernel_rfl) (fun _ _ _ h => h) (Or.inl ⟨by rfl, by intro w _; go_simp⟩) K_175 ?_
            go_simp
            refine wpAnyH_take (i := 7) (v := .bool true) rfl (by kernel_rfl) (by kernel_rfl) (by kernel_rfl) (fun _ _ _ h => h) (Or.inl ⟨by rfl, by intro w _; go_simp⟩) K_175 ?_
            go_simp
            refine wpAnyH_ready (rs := [8]) (by kernel_rfl) (by simp) (AllReadyH.cons rfl (fun KK hK => ?_) AllReadyH.nil)
            go_simp
            refine hK.out _ _ (box_alloc K_175 _) (fun _ => ?_)
            clear hK KK
            refine wpAnyH_ready (rs := [9]) (by kernel_rfl) (by simp) (AllReadyH.cons rfl (fun KK hK => ?_) AllReadyH.nil)
            refine step_store_any rfl rfl rfl (b := w_177.heap.size) (off := 0) (n := 22) rfl rfl (vs := drvC d2 A9) rfl (heap_new_at w_177 (.cells (drvC zDrv zDrvA) 46) _ rfl) (by kernel_rfl) rfl rfl (Nat.le_of_ble_eq_true rfl) (drvC d2 A9) rfl ?_
            intro w_178 H_179 g_180
            have zw_177 := b_176.size
            have b_182 : Below w_177.heap.size w_177 w_178 := below_only ((Below.refl _ _).alloc (Nat.le_refl _) _) g_180 (Nat.le_refl _)
            refine hK.out _ _ ((b_182.block _ (box_lt K_175)).trans K_175) (fun _ => ?_)
            clear hK KK
            refine wpAnyH_take (i := 10) (v := .bool true) rfl (by kernel_rfl) (by kernel_rfl) (by kernel_rfl) (fun _ _ _ h => h) (Or.inl ⟨by rfl, by intro w _; go_simp⟩) ((b_182.block _ (box_lt K_175)).trans K_175) ?_
            go_simp
            refine wpAnyH_done (by kernel_rfl) ?_ _
            go_wp2
            go_meet
            case rel =>
              exact ⟨_, A9, rfl, rfl, H_179, O_181.m.below b_182, O_181.n, (Bd_174.trans (b_176.mono (Nat.le_refl _))).trans (b_182.mono zw_177), zw_177⟩
          · go_simp
            refine hK.out _ _ (box_alloc Kd_173 _) (fun _ => ?_)
            clear hK KK
            have bV : Below wx_120.heap.size wx_120 (wx_120.drew.alloc (.cells (drvC zDrv zDrvA) 46)) := Bd_174.alloc (Nat.le_refl _) _
            have hV := heap_new_at wx_120.drew (.cells (drvC zDrv zDrvA) 46) _ rfl
            have KV := box_alloc Kd_173 (.cells (drvC zDrv zDrvA) 46)
            have zV : wx_120.heap.size < (wx_120.drew.alloc (.cells (drvC zDrv zDrvA) 46)).heap.size := by simp
            refine wpAnyH_at (wx_120.drew.alloc (.cells (drvC zDrv zDrvA) 46)) rfl ?_
            generalize (wx_120.drew.alloc (.cells (drvC zDrv zDrvA) 46)) = V at *
            refine wpAnyH_ready (rs := [4]) (by kernel_rfl) (by simp) (AllReadyH.cons rfl (fun KK hK => ?_) AllReadyH.nil)
            go_simp
            go_at_call 23
            refine (HI3.out V (m_122.below bV) ((ints_dropA m_130 K).below bV)).mono ?_
            rintro e w_177 ⟨A9, rfl, O_181, S9, b_176⟩
            have K_175 := (b_176.block _ (box_lt KV)).trans KV
            have hV5 := (b_176.block _ (box_lt hV)).trans hV
            go_simp
            refine hK.out _ _ K_175 (fun _ => ?_)
            clear hK KK
            refine wpAnyH_take (i := 5) (v := .tuple #[.agg (drvC d2 A9), .bool true]) rfl (by kernel_rfl) (by kernel_rfl) (by kernel_rfl) (fun _ _ _ h => h) (Or.inl ⟨by rfl, by intro w _; go_simp⟩) K_175 ?_
            go_simp
            refine wpAnyH_take (i := 6) (v := .agg (drvC d2 A9)) rfl (by kernel_rfl) (by kernel_rfl) (by kernel_rfl) (fun _ _ _ h => h) (Or.inl ⟨by rfl, by intro w _; go_simp⟩) K_175 ?_
            go_simp
            refine wpAnyH_take (i := 7) (v := .bool true) rfl (by kernel_rfl) (by kernel_rfl) (by kernel_rfl) (fun _ _ _ h => h) (Or.inl ⟨by rfl, by intro w _; go_simp⟩) K_175 ?_
            go_simp
            refine wpAnyH_ready (rs := [9]) (by kernel_rfl) (by simp) (AllReadyH.cons rfl (fun KK hK => ?_) AllReadyH.nil)
            refine step_store_any rfl rfl rfl (b := wx_120.heap.size) (off := 0) (n := 22) rfl rfl (vs := drvC d2 A9) rfl hV5 (by kernel_rfl) rfl rfl (Nat.le_of_ble_eq_true rfl) (drvC d2 A9) rfl ?_
            intro w_178 H_179 g_180
            have K6 := box_only' K_175 g_180 (by have := box_lt H_121; omega)
            refine hK.out _ _ K6 (fun _ => ?_)
            clear hK KK
            refine wpAnyH_take (i := 10) (v := .bool true) rfl (by kernel_rfl) (by kernel_rfl) (by kernel_rfl) (fun _ _ _ h => h) (Or.inl ⟨by rfl, by intro w _; go_simp⟩) K6 ?_
            go_simp
            refine wpAnyH_done (by kernel_rfl) ?_ _
            go_wp2
            go_meet
            case rel =>
              exact ⟨_, A9, rfl, rfl, H_179, (O_181.low g_180 zV).m, (O_181.low g_180 zV).n, below_only (bV.trans (b_176.mono bV.size)) g_180 (Nat.le_refl _), Nat.le_refl _⟩
        case rest =>
          obtain ⟨g_183, A4, rfl, rfl, H_185, m_186, N_187, b_188, hg_183⟩ := hcut
          obtain ⟨wx_184, hwx_184⟩ : ∃ v, v = wc := ⟨_, rfl⟩
          rw [← hwx_184] at H_185 m_186 b_188 ⊢
          clear hwx_184 Kd_173 Bd_174
          have zwx_184 := b_188.size
          have B_189 := B_125.trans (b_188.mono B_125.size)
          have H_190 := (b_188.block _ (box_lt H_126)).trans H_126
          have H_191 := (b_188.block _ (box_lt H_127)).trans H_127
          have H_192 := (b_188.block _ (box_lt H_128)).trans H_128
          have H_193 := (b_188.block _ (box_lt H_121)).trans H_121
          have m_194 := m_129.below b_188
          have m_195 := m_130.below b_188
          have m_196 := m_131.below b_188
          have m_197 := m_132.below b_188
          have m_198 := m_122.below b_188
          have lg_183 := box_lt H_185
          go_wp2_with (first
            | (refine wpList_load_box _ rfl (by rfl) (b := g_183) (off := 0) (n := 22) rfl H_185 Try.underlying46 (by kernel_rfl) (Nat.le_of_ble_eq_true rfl) (drvC d2 A4) rfl ?_
               skip)
            | (refine wpList_load_box _ rfl (by rfl) (b := w_65.heap.size) (off := 0) (n := 22) rfl H_191 Try.underlying46 (by kernel_rfl) (Nat.le_of_ble_eq_true rfl) (drvC d2 A1) rfl ?_
               skip))
          refine (sameDriver_eq d2 A4 A1 wx_184 m_186 m_196 hl2).mono ?_
          rintro e w_199 ⟨rfl, b_200⟩
          have zw_199 := b_200.size
          have B_201 := B_189.trans (b_200.mono B_189.size)
          have H_202 := (b_200.block _ (box_lt H_190)).trans H_190
          have H_203 := (b_200.block _ (box_lt H_191)).trans H_191
          have H_204 := (b_200.block _ (box_lt H_192)).trans H_192
          have H_205 := (b_200.block _ (box_lt H_193)).trans H_193
          have H_206 := (b_200.block _ (box_lt H_185)).trans H_185
          have m_207 := m_194.below b_200
          have m_208 := m_195.below b_200
          have m_209 := m_196.below b_200
          have m_210 := m_197.below b_200
          have m_211 := m_198.below b_200
          have m_212 := m_186.below b_200
          go_wp2
          go_ret
          exact ⟨rfl, B_201⟩

set_option linter.unusedVariables false in
set_option maxRecDepth 100000 in
theorem FnDriverSendParts_lifted (os : Os) (started : os.Started) (H : Type) (enc : TypeId × Value → H) :
    ReturnsInHanded {} Try.checked os 8 .any (Rows.fnDriverSendPartsSpec.pre6 enc Try.prog Try.f8 Rows.fnDriverSendPartsRow.domain false) (Rows.fnDriverSendPartsSpec.post enc Try.prog Try.f8 false true false false) := by
  refine returnsInHanded_of_change (C := Try.checked) own_knob started (by kernel_rfl) Try.func8
    (ChangeSpec.witness6 (enc := enc) (C := Try.checked) false ⟨#[], #[.slice none 0 0, .slice none 0 0], []⟩ 8 (by kernel_rfl) (by kernel_rfl) (by kernel_rfl) (by kernel_rfl)) ?_
  intro W base args ds gs before hval0 hW hcnd _
  have hval : ∀ (j : Nat) t v, Try.f8.params[j]? = some t → args[j]? = some v → Value.okWide Try.prog W .any base t v := hval0
  have hW' := hW
  obtain ⟨p, q, hA0, hV, rfl, hfz, hnd⟩ := hW
  have hA : DataW.TrodAll enc Try.prog W 0 (fun _ => true) true Try.f8.params.toList args.toList ds p := hA0
  rw [Try.params8] at hA hval
  obtain ⟨v0, vs0, d0, ds0, p0, q0, hargs, rfl, rfl, h0, r0⟩ := trodAll_cons hA
  obtain ⟨v1, vs1, d1, ds1, p1, q1, rfl, rfl, rfl, h1, r1⟩ := trodAll_cons r0
  obtain ⟨rfl, rfl, rfl⟩ := trodAll_nil r1
  obtain rfl : args = #[v0, v1] := by cases args; simp_all
  obtain ⟨rfl, rfl⟩ := trodVars_none hV
  have k0 := h0
  have lt0 : ∀ x ∈ p0, x.block < W.heap.size := by obtain ⟨m, hm⟩ := k0; exact DataW.trod_lt m _ _ _ hm
  obtain ⟨a0, len0, cap0, rfl⟩ := okWide_slice Try.underlying59 (hval 0 59 v0 rfl rfl)
  obtain ⟨z0, rfl, lc0, lm0, rz0⟩ : ∃ z : List Int, len0 = z.length ∧ z.length ≤ cap0 ∧ cap0 ≤ maxLen ∧ Bytes W a0 z := by
    obtain ⟨fuel, hf⟩ := h0
    obtain ⟨ao, cap, z, e, h1, h2, h3⟩ := rd_bytes hf
    simp [Value.cells] at e
    obtain ⟨rfl, rfl, rfl⟩ := e
    exact ⟨z, rfl, h1, h2, h3⟩
  have lb0 : z0.length ≤ cap0 := lc0
  have k1 := h1
  have lt1 : ∀ x ∈ p1, x.block < W.heap.size := by obtain ⟨m, hm⟩ := k1; exact DataW.trod_lt m _ _ _ hm
  obtain ⟨a1, len1, cap1, rfl⟩ := okWide_slice Try.underlying59 (hval 1 59 v1 rfl rfl)
  obtain ⟨z1, rfl, lc1, lm1, rz1⟩ : ∃ z : List Int, len1 = z.length ∧ z.length ≤ cap1 ∧ cap1 ≤ maxLen ∧ Bytes W a1 z := by
    obtain ⟨fuel, hf⟩ := h1
    obtain ⟨ao, cap, z, e, h1, h2, h3⟩ := rd_bytes hf
    simp [Value.cells] at e
    obtain ⟨rfl, rfl, rfl⟩ := e
    exact ⟨z, rfl, h1, h2, h3⟩
  have lb1 : z1.length ≤ cap1 := lc1
  clear hA0 hval0
  refine (FnDriverSendParts_walk a0 z0 cap0 a1 z1 cap1 W rz0 lc0 lm0 rz1 lc1 lm1).mono fun e W' ⟨he, bel⟩ => ?_
  subst he
  exact ⟨_, rfl, _, _, _, [], _, [], hW', trodAll_mk1 (shut_bool Try.underlying4 _), (trodAll_cons_mk (Below.trod laid_out (by kernel_rfl) (of_decide_eq_true (by kernel_rfl)) k0 bel lt0) (trodAll_cons_mk (Below.trod laid_out (by kernel_rfl) (of_decide_eq_true (by kernel_rfl)) k1 bel lt1) trodAll_mk0)), rfl, bel.frame _, fun h => by cases h⟩

theorem FnDriverSendParts_holds : Rows.FnDriverSendPartsSaid :=
  OpenClaim.holds_of_wide 8 Try.f8 rfl rfl rfl rfl rfl rfl rfl ⟨rfl, rfl, rfl, rfl, rfl⟩ rfl rfl rfl rfl rfl (by kernel_rfl) Try.func8 (by kernel_rfl)
    (of_decide_eq_true (by kernel_rfl)) (by unfold Func.isWrapper; first | (rw [if_pos (by decide +kernel)]; kernel_rfl) | (rw [if_neg (by decide +kernel)]; exact ⟨rfl, rfl⟩))
    (fun os started H enc _ => FnDriverSendParts_lifted os started H enc)
end Go.Proofs.Ytkmampichfbppaa
