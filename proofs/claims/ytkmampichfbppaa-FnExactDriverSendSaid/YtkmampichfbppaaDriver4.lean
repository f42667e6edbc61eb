/- Drivers: bytes are taken. -/
import Derived.Test.YtkmampichfbppaaDriver3
import Derived.Test.YtkmampichfbppaaFifo4
namespace Go.Proofs.Ytkmampichfbppaa
open Go.RowKit

structure TkR where
  d : DrvD
  l : List Int
  ok : Bool
def takeB (d : DrvD) (m : Int) : Bool := drvB d && inB m 0 32
def takeN (d : DrvD) (m : Int) : Nat := min m.toNat d.i.length
def takeR (d : DrvD) (m : Int) : TkR := if takeB d m then ⟨{ d with i := d.i.drop (takeN d m) }, d.i.take (takeN d m), true⟩ else ⟨zDrv, [], false⟩
theorem takeR_no {d : DrvD} {m : Int} (h : takeB d m = false) : takeR d m = ⟨zDrv, [], false⟩ := by simp [takeR, h]
theorem takeR_yes {d : DrvD} {m : Int} (h : takeB d m = true) : takeR d m = ⟨{ d with i := d.i.drop (takeN d m) }, d.i.take (takeN d m), true⟩ := by simp [takeR, h]
def TakeS (A1 : DrvA) (a : Option Addr) : Prop := DrvS A1 ∧ Apart A1.p.ay a ∧ Apart A1.ai a ∧ Apart A1.ao a
theorem zTakeS (a : Option Addr) : TakeS zDrvA a := ⟨⟨apart_none _, apart_none _, apart_none _⟩, apart_none _, apart_none _, apart_none _⟩
def TakeP (w : World) (R : TkR) (e : Ending) (w' : World) : Prop := ∃ (A1 : DrvA) (a : Option Addr) (c : Nat), e = .returned (.tuple #[.agg (drvC R.d A1), .slice a R.l.length c, .bool R.ok]) ∧ DrvO w' w.heap.size R.d A1 ∧ OwnI w' w.heap.size a c R.l ∧ TakeS A1 a ∧ Below w.heap.size w w'
theorem zDrvO (w : World) (B : Nat) : DrvO w B zDrv zDrvA := ⟨World.ownsRow_nil _ _ _ _, World.ownsRow_nil _ _ _ _, World.ownsRow_nil _ _ _ _, World.ownsRow_nil _ _ _ _⟩
theorem drvB_len {d : DrvD} (h : drvB d = true) : d.p.gs.length ≤ 16 ∧ d.p.ys.length ≤ 16 ∧ d.i.length ≤ 32 ∧ d.o.length ≤ 32 := by
  simp only [drvB, portB, ringB, sendVB, Bool.and_eq_true, decide_eq_true_eq] at h
  have h1 := recvB_facts h.1.2.2.2.1
  have h2 := fifoB_facts h.1.2.2.2.2.1
  have h3 := h.2.1.1
  have h4 := h.2.2.1.1
  omega

theorem ints_al {w W : World} {a : Option Addr} {xs : List Int} {ob : Obj} (h : Ints w a xs) (hq : W = w.alloc ob) : Ints W a xs := by rw [hq]; exact Ints.keep h (Keeps.alloc _ _)
set_option maxHeartbeats 4000000 in
set_option maxRecDepth 100000 in
theorem implDriverTake_any (d : DrvD) (A : DrvA) (m : Int) (w : World) (hm : DrvM w d A) (hl : DrvL d) (hN : DrvN d A) :
    Calls Try.prog 14 #[.agg (drvC d A), .int .i64 m] w (TakeP w (takeR d m)) := by
  cases hv : drvB d
  · have HR := Lib.hid (takeR_no (d := d) (m := m) (by simp [takeB, hv]))
    rw [HR.out]
    have b0 : Below w.heap.size w ((w.alloc (.cells (drvC d A) 46)).alloc (.cells (drvC zDrv zDrvA) 46)) := ((Below.refl _ _).alloc (Nat.le_refl _) _).alloc (by simp) _
    have H0 := box_alloc (heap_new_at w (.cells (drvC d A) 46) _ rfl) (.cells (drvC zDrv zDrvA) 46)
    have G0 := heap_new_at (w.alloc (.cells (drvC d A) 46)) (.cells (drvC zDrv zDrvA) 46) (w.heap.size + 1) (by simp)
    go_enter Try.func14, Try.ntmps14
    go_wp2_with (first
      | (refine wpList_load_box _ rfl (by rfl) (b := w.heap.size) (off := 0) (n := 22) rfl H0 Try.underlying46 (by kernel_rfl) (Nat.le_of_ble_eq_true rfl) (drvC d A) rfl ?_))
    refine name_calls fun W hW => ?_
    have bW : Below w.heap.size w W := by rw [hW]; exact b0
    have h1 : W.heap[w.heap.size]? = some (.cells (drvC d A) 46 (0, 0)) := by rw [hW]; exact H0
    have h2 : W.heap[w.heap.size + 1]? = some (.cells (drvC zDrv zDrvA) 46 (0, 0)) := by rw [hW]; exact G0
    have zW : w.heap.size + 2 ≤ W.heap.size := by rw [hW]; simp
    clear hW b0 H0 G0
    refine (implDriverValid_any d A W (hm.below bW) hl).mono ?_
    rintro e w_1 ⟨rfl, b_2⟩
    have zw_1 := b_2.size
    have B_3 := bW.trans (b_2.mono bW.size)
    have H_4 := (b_2.block _ (box_lt h1)).trans h1
    have H_5 := (b_2.block _ (box_lt h2)).trans h2
    go_wp2_with (first
      | (refine wpList_store_any _ rfl rfl (by rfl) (b := w.heap.size + 1) (off := 0) (n := 22) rfl rfl (vs := (drvC zDrv zDrvA)) rfl H_5 (by kernel_rfl) rfl rfl (Nat.le_of_ble_eq_true rfl) ((drvC zDrv zDrvA)) rfl ?_
         intro w_6 H_7 g_8
         have zw_6 := g_8.size
         have B_9 := below_only B_3 g_8 (by omega)
         have H_10 := box_only' H_4 g_8 (by omega)
         skip))
    refine bodyPost_ret (results_cell3 Try.results14 rfl rfl rfl (load_box (P := Try.prog) H_7 Try.underlying46 (by kernel_rfl) rfl)) rfl ?_
    exact ⟨zDrvA, none, 0, rfl, zDrvO _ _, own_nil _ _, zTakeS _, B_9⟩
  by_cases h0 : m < 0
  · have HR := Lib.hid (takeR_no (d := d) (m := m) (by simp [takeB, inB]; omega))
    rw [HR.out]
    have b0 : Below w.heap.size w ((w.alloc (.cells (drvC d A) 46)).alloc (.cells (drvC zDrv zDrvA) 46)) := ((Below.refl _ _).alloc (Nat.le_refl _) _).alloc (by simp) _
    have H0 := box_alloc (heap_new_at w (.cells (drvC d A) 46) _ rfl) (.cells (drvC zDrv zDrvA) 46)
    have G0 := heap_new_at (w.alloc (.cells (drvC d A) 46)) (.cells (drvC zDrv zDrvA) 46) (w.heap.size + 1) (by simp)
    go_enter Try.func14, Try.ntmps14
    go_wp2_with (first
      | (refine wpList_load_box _ rfl (by rfl) (b := w.heap.size) (off := 0) (n := 22) rfl H0 Try.underlying46 (by kernel_rfl) (Nat.le_of_ble_eq_true rfl) (drvC d A) rfl ?_))
    refine name_calls fun W hW => ?_
    have bW : Below w.heap.size w W := by rw [hW]; exact b0
    have h1 : W.heap[w.heap.size]? = some (.cells (drvC d A) 46 (0, 0)) := by rw [hW]; exact H0
    have h2 : W.heap[w.heap.size + 1]? = some (.cells (drvC zDrv zDrvA) 46 (0, 0)) := by rw [hW]; exact G0
    have zW : w.heap.size + 2 ≤ W.heap.size := by rw [hW]; simp
    clear hW b0 H0 G0
    refine (implDriverValid_any d A W (hm.below bW) hl).mono ?_
    rintro e w_1 ⟨rfl, b_2⟩
    have zw_1 := b_2.size
    have B_3 := bW.trans (b_2.mono bW.size)
    have H_4 := (b_2.block _ (box_lt h1)).trans h1
    have H_5 := (b_2.block _ (box_lt h2)).trans h2
    go_wp2_with (first
      | (refine wpList_store_any _ rfl rfl (by rfl) (b := w.heap.size + 1) (off := 0) (n := 22) rfl rfl (vs := (drvC zDrv zDrvA)) rfl H_5 (by kernel_rfl) rfl rfl (Nat.le_of_ble_eq_true rfl) ((drvC zDrv zDrvA)) rfl ?_
         intro w_6 H_7 g_8
         have zw_6 := g_8.size
         have B_9 := below_only B_3 g_8 (by omega)
         have H_10 := box_only' H_4 g_8 (by omega)
         skip))
    refine bodyPost_ret (results_cell3 Try.results14 rfl rfl rfl (load_box (P := Try.prog) H_7 Try.underlying46 (by kernel_rfl) rfl)) rfl ?_
    exact ⟨zDrvA, none, 0, rfl, zDrvO _ _, own_nil _ _, zTakeS _, B_9⟩
  have h0d : decide (m < 0) = false := by simpa using h0
  have h0' : 0 ≤ m := by omega
  clear h0
  by_cases h1 : 32 < m
  · have HR := Lib.hid (takeR_no (d := d) (m := m) (by simp [takeB, inB]; omega))
    rw [HR.out]
    have b0 : Below w.heap.size w ((w.alloc (.cells (drvC d A) 46)).alloc (.cells (drvC zDrv zDrvA) 46)) := ((Below.refl _ _).alloc (Nat.le_refl _) _).alloc (by simp) _
    have H0 := box_alloc (heap_new_at w (.cells (drvC d A) 46) _ rfl) (.cells (drvC zDrv zDrvA) 46)
    have G0 := heap_new_at (w.alloc (.cells (drvC d A) 46)) (.cells (drvC zDrv zDrvA) 46) (w.heap.size + 1) (by simp)
    go_enter Try.func14, Try.ntmps14
    go_wp2_with (first
      | (refine wpList_load_box _ rfl (by rfl) (b := w.heap.size) (off := 0) (n := 22) rfl H0 Try.underlying46 (by kernel_rfl) (Nat.le_of_ble_eq_true rfl) (drvC d A) rfl ?_))
    refine name_calls fun W hW => ?_
    have bW : Below w.heap.size w W := by rw [hW]; exact b0
    have h1 : W.heap[w.heap.size]? = some (.cells (drvC d A) 46 (0, 0)) := by rw [hW]; exact H0
    have h2 : W.heap[w.heap.size + 1]? = some (.cells (drvC zDrv zDrvA) 46 (0, 0)) := by rw [hW]; exact G0
    have zW : w.heap.size + 2 ≤ W.heap.size := by rw [hW]; simp
    clear hW b0 H0 G0
    refine (implDriverValid_any d A W (hm.below bW) hl).mono ?_
    rintro e w_1 ⟨rfl, b_2⟩
    have zw_1 := b_2.size
    have B_3 := bW.trans (b_2.mono bW.size)
    have H_4 := (b_2.block _ (box_lt h1)).trans h1
    have H_5 := (b_2.block _ (box_lt h2)).trans h2
    go_wp2_with (first
      | (refine wpList_store_any _ rfl rfl (by rfl) (b := w.heap.size + 1) (off := 0) (n := 22) rfl rfl (vs := (drvC zDrv zDrvA)) rfl H_5 (by kernel_rfl) rfl rfl (Nat.le_of_ble_eq_true rfl) ((drvC zDrv zDrvA)) rfl ?_
         intro w_6 H_7 g_8
         have zw_6 := g_8.size
         have B_9 := below_only B_3 g_8 (by omega)
         have H_10 := box_only' H_4 g_8 (by omega)
         skip))
    refine bodyPost_ret (results_cell3 Try.results14 rfl rfl rfl (load_box (P := Try.prog) H_7 Try.underlying46 (by kernel_rfl) rfl)) rfl ?_
    exact ⟨zDrvA, none, 0, rfl, zDrvO _ _, own_nil _ _, zTakeS _, B_9⟩
  have h1d : decide (32 < m) = false := by simpa using h1
  have h1' : m ≤ 32 := by omega
  clear h1
  have hbm : inB m 0 32 = true := by simp [inB]; omega
  obtain ⟨M, rfl⟩ : ∃ M : Nat, m = (M : Int) := Int.eq_ofNat_of_zero_le (by omega)
  have HR := Lib.hid (takeR_yes (d := d) (m := (M : Int)) (by simp [takeB, hv, hbm]))
  have hlen := drvB_len hv
  have hlg := hlen.1
  have hli := hlen.2.2.1
  by_cases hmn : d.i.length < M
  · have hN0 : takeN d (M : Int) = d.i.length := by simp [takeN]; omega
    have HR2 := Lib.hid (HR.out.trans (by rw [hN0]) : takeR d (M : Int) = ⟨{ d with i := d.i.drop (d.i.length) }, d.i.take (d.i.length), true⟩)
    clear hN0
    have b0 : Below w.heap.size w ((w.alloc (.cells (drvC d A) 46)).alloc (.cells (drvC zDrv zDrvA) 46)) := ((Below.refl _ _).alloc (Nat.le_refl _) _).alloc (by simp) _
    have H0 := box_alloc (heap_new_at w (.cells (drvC d A) 46) _ rfl) (.cells (drvC zDrv zDrvA) 46)
    have G0 := heap_new_at (w.alloc (.cells (drvC d A) 46)) (.cells (drvC zDrv zDrvA) 46) (w.heap.size + 1) (by simp)
    go_enter Try.func14, Try.ntmps14
    go_wp2_with (first
      | (refine wpList_load_box _ rfl (by rfl) (b := w.heap.size) (off := 0) (n := 22) rfl H0 Try.underlying46 (by kernel_rfl) (Nat.le_of_ble_eq_true rfl) (drvC d A) rfl ?_))
    refine name_calls fun W hW => ?_
    have bW : Below w.heap.size w W := by rw [hW]; exact b0
    have h1 : W.heap[w.heap.size]? = some (.cells (drvC d A) 46 (0, 0)) := by rw [hW]; exact H0
    have h2 : W.heap[w.heap.size + 1]? = some (.cells (drvC zDrv zDrvA) 46 (0, 0)) := by rw [hW]; exact G0
    have zW : w.heap.size + 2 ≤ W.heap.size := by rw [hW]; simp
    clear hW b0 H0 G0
    refine (implDriverValid_any d A W (hm.below bW) hl).mono ?_
    rintro e w_1 ⟨rfl, b_2⟩
    have zw_1 := b_2.size
    have B_3 := bW.trans (b_2.mono bW.size)
    have H_4 := (b_2.block _ (box_lt h1)).trans h1
    have H_5 := (b_2.block _ (box_lt h2)).trans h2
    go_wp2_with (first
      | (refine wpList_load_box _ rfl (by rfl) (b := w.heap.size) (off := 0) (n := 22) rfl H_4 Try.underlying46 (by kernel_rfl) (Nat.le_of_ble_eq_true rfl) (drvC d A) rfl ?_
         skip))
    refine (driverCopy_any d A w_1 (hm.below B_3) hl (by omega) hN).mono ?_
    rintro e w_6 ⟨⟨Ap, ai, ci, ao, co⟩, rfl, DO, b_7⟩
    have zw_6 := b_7.size
    have B_8 := B_3.trans (b_7.mono B_3.size)
    have H_9 := (b_7.block _ (box_lt H_4)).trans H_4
    have H_10 := (b_7.block _ (box_lt H_5)).trans H_5
    have Ox : OwnG w_6 w_1.heap.size Ap.ax Ap.cx d.p.gs := DO.1.1
    have Oy : OwnI w_6 w_1.heap.size Ap.ay Ap.cy d.p.ys := DO.1.2.1
    have Oi : OwnI w_6 w_1.heap.size ai ci d.i := DO.1.2.2.1
    have Oo : OwnI w_6 w_1.heap.size ao co d.o := DO.1.2.2.2
    have hci := own_cap Oi
    have hcx := own_capmax Oi
    have hni := own_nilcap Oi
    have DS := DO.s
    clear DO
    have hn0 : (0 : Int) ≤ ((d.i.length : Nat) : Int) := by omega
    have hn1 : ((d.i.length : Nat) : Int) ≤ (ci : Int) := by omega
    have hn2 : (d.i.length) ≤ ci := by omega
    have hn3 : ((d.i.length : Nat) : Int) ≤ (d.i.length : Int) := by omega
    by_cases hce : ¬ ci = d.i.length
    · obtain ⟨ad, rfl⟩ : ∃ ad, ai = some ad := by
        cases ai with
        | none => exact absurd (hni rfl).2 (by have := (hni rfl).2; omega)
        | some ad => exact ⟨ad, rfl⟩
      have hcp : (d.i.length) < ci := by omega
      have HLd := Lib.hid (List.length_drop (i := d.i.length) (l := d.i))
      obtain ⟨DR, hDR⟩ : ∃ DR : List Int, DR = d.i.drop (d.i.length) := ⟨_, rfl⟩
      have HDRR := Lib.hid hDR
      have HX := Lib.hid ((congrArg List.length hDR).trans (HLd.out.trans (Nat.sub_self _)))
      clear hDR
      go_wp2_with (first
        | (refine wpList_store_any _ rfl rfl (by rfl) (b := w.heap.size) (off := 0) (n := 22) rfl rfl (vs := drvC d ⟨Ap, (some ad), ci, ao, co⟩) rfl H_9 (by kernel_rfl) rfl rfl (Nat.le_of_ble_eq_true rfl) (drvC d ⟨Ap, (some ad), ci, ao, co⟩) rfl ?_
           intro w_11 H_12 g_13
           have zw_11 := g_13.size
           have B_14 := below_only B_8 g_13 (by omega)
           have H_15 := box_only' H_10 g_13 (by omega)
           have o_16 := own_ty Ox H_9 (by decide) g_13
           have o_17 := own_ty Oy H_9 (by decide) g_13
           have o_18 := own_ty Oi H_9 (by decide) g_13
           have o_19 := own_ty Oo H_9 (by decide) g_13
           have c_20 := box_cell H_12 18 (v := .slice (some ad) d.i.length ci) rfl
           have lc_20 := box_lt H_12
           skip)
        | (at_builtin
           refine wpList_append_row w_11 rfl _ _ _ rfl w_11.heap.size 3 _ 1 8 Try.underlying27 int_info rfl (by decide) none 0 0 [] (by rfl) (World.ownsRow_nil _ _ _ _) (some ad) ((d.i.length)) (ci) ((d.i.take (d.i.length)).map (Value.int .i64)) (by rfl) (Ints.take (own_cells o_18) _) (by rw [List.length_map, List.length_take]; omega) (ints_one _) (fun e => by have := hni e; omega) (by simp only [maxLen]; omega) (by omega) (Nat.le_refl _) ?_
           intro a_21 c_22 w_23 o_24 hg
           rw [Nat.zero_add, List.nil_append] at o_24
           rw [Nat.zero_add]
           have b_25 : Below w_11.heap.size w_11 w_23 := (Below.refl _ _).grown hg (Nat.le_refl _) (fun k hk => by simp [Value.ownBlock] at hk)
           clear hg
           have zw_23 := b_25.size
           have B_26 := B_14.trans (b_25.mono B_14.size)
           have apl1 := (own_in o_17).apart (own_in o_24) (.inl (Nat.le_refl _))
           have apl2 := (own_in o_19).apart (own_in o_24) (.inl (Nat.le_refl _))
           have H_27 := (b_25.block _ (box_lt H_12)).trans H_12
           have H_28 := (b_25.block _ (box_lt H_15)).trans H_15
           have o_29 := own_below o_16 b_25
           have o_30 := own_below o_17 b_25
           have o_31 := own_below o_18 b_25
           have o_32 := own_below o_19 b_25
           have c_33 := box_cell H_27 18 (v := .slice (some ad) d.i.length ci) rfl
           have lc_33 := box_lt H_27
           skip)
        | (at_builtin
           refine wpList_append_row w_23 rfl _ _ _ rfl w_23.heap.size 3 _ 1 8 Try.underlying27 int_info rfl (by decide) none 0 0 [] (by rfl) (World.ownsRow_nil _ _ _ _) (some (ad.add (d.i.length))) (0) ((ci - (d.i.length))) ((d.i.drop (d.i.length)).map (Value.int .i64)) (by rfl) (ints_dropA (own_cells o_31) (d.i.length)) (by rw [List.length_map, List.length_drop]; omega) (ints_one _) (fun e => by cases e) (by simp only [maxLen]; omega) (by omega) (Nat.le_refl _) ?_
           intro a_34 c_35 w_36 o_37 hg
           rw [Nat.zero_add, List.nil_append] at o_37
           rw [Nat.zero_add]
           have b_38 : Below w_23.heap.size w_23 w_36 := (Below.refl _ _).grown hg (Nat.le_refl _) (fun k hk => by simp [Value.ownBlock] at hk)
           clear hg
           have zw_36 := b_38.size
           have B_39 := B_26.trans (b_38.mono B_26.size)
           have apn1 := (own_in o_30).apart (own_in o_37) (.inl (Nat.le_refl _))
           have apn2 := (own_in o_32).apart (own_in o_37) (.inl (Nat.le_refl _))
           have apn3 := (own_in o_24).apart (own_in o_37) (.inl (Nat.le_refl _))
           have H_40 := (b_38.block _ (box_lt H_27)).trans H_27
           have H_41 := (b_38.block _ (box_lt H_28)).trans H_28
           have o_42 := own_below o_29 b_38
           have o_43 := own_below o_30 b_38
           have o_44 := own_below o_31 b_38
           have o_45 := own_below o_32 b_38
           have o_46 := own_below o_24 b_38
           skip)
        | (refine wpList_store_any _ rfl rfl (by rfl) (b := w.heap.size) (off := 18) (n := 1) rfl rfl (vs := #[.slice a_34 0 c_35]) rfl H_40 (by kernel_rfl) rfl rfl (Nat.le_of_ble_eq_true rfl) (#[.int .i64 d.p.b, .int .i64 d.p.p, .int .i64 d.p.s, .int .i64 d.p.en, .int .i64 d.p.co, .int .i64 d.p.r, .int .i64 d.p.t, .slice Ap.ax d.p.gs.length Ap.cx, .bool d.p.l, .int .i64 d.p.ag, .int .i64 d.p.sr, .slice Ap.ay d.p.ys.length Ap.cy, .int .i64 d.p.sh, .int .i64 d.p.sl, .bool d.p.m1, .bool d.p.m2, .bool d.p.m3, .bool d.p.m4, .slice a_34 0 c_35, .slice ao d.o.length co, .int .i64 d.wr, .int .i64 d.lo]) rfl ?_
           intro w_47 H_48 g_49
           have zw_47 := g_49.size
           have B_50 := below_only B_39 g_49 (by omega)
           have H_51 := box_only' H_41 g_49 (by omega)
           have o_52 := own_ty o_42 H_40 (by decide) g_49
           have o_53 := own_ty o_43 H_40 (by decide) g_49
           have o_54 := own_ty o_44 H_40 (by decide) g_49
           have o_55 := own_ty o_45 H_40 (by decide) g_49
           have o_56 := own_ty o_46 H_40 (by decide) g_49
           have o_57 := own_ty o_37 H_40 (by decide) g_49
           have H_48d : w_47.heap[w.heap.size]? = some (.cells (drvC { d with i := DR } ⟨Ap, a_34, c_35, ao, co⟩) 46 (0, 0)) := (by rw [H_48]; simp only [drvC, HX.out])
           skip)
        | (refine wpList_load_box _ rfl (by rfl) (b := w.heap.size) (off := 0) (n := 22) rfl H_48d Try.underlying46 (by kernel_rfl) (Nat.le_of_ble_eq_true rfl) (drvC { d with i := DR } ⟨Ap, a_34, c_35, ao, co⟩) rfl ?_
           skip)
        | (refine wpList_store_any _ rfl rfl (by rfl) (b := w.heap.size + 1) (off := 0) (n := 22) rfl rfl (vs := drvC { d with i := DR } ⟨Ap, a_34, c_35, ao, co⟩) rfl H_51 (by kernel_rfl) rfl rfl (Nat.le_of_ble_eq_true rfl) (drvC { d with i := DR } ⟨Ap, a_34, c_35, ao, co⟩) rfl ?_
           intro w_58 H_59 g_60
           have zw_58 := g_60.size
           have B_61 := below_only B_50 g_60 (by omega)
           have H_62 := box_only' H_48d g_60 (by omega)
           have o_63 := own_ty o_52 H_51 (by decide) g_60
           have o_64 := own_ty o_53 H_51 (by decide) g_60
           have o_65 := own_ty o_54 H_51 (by decide) g_60
           have o_66 := own_ty o_55 H_51 (by decide) g_60
           have o_67 := own_ty o_56 H_51 (by decide) g_60
           have o_68 := own_ty o_57 H_51 (by decide) g_60
           skip))
      refine bodyPost_ret (results_cell3 (u := .slice a_21 (d.i.length) c_22) (u2 := .bool true) Try.results14 rfl rfl rfl (load_box (P := Try.prog) H_59 Try.underlying46 (by kernel_rfl) rfl)) rfl ?_
      have HR3 := HR2.out
      rw [← HDRR.out] at HR3
      rw [HR3]
      refine ⟨⟨Ap, a_34, c_35, ao, co⟩, a_21, c_22, ?_, ⟨own_base o_63 (by omega), own_base o_64 (by omega), ?_, own_base o_66 (by omega)⟩, ?_, ⟨⟨apn1, DS.2.1, apn2.symm⟩, apl1, apn3.symm, apl2⟩, B_61⟩
      · rw [show (d.i.take (d.i.length)).length = d.i.length by rw [List.length_take]; omega]
      · have := own_base (base' := w.heap.size) o_68 (by omega); unfold OwnI; dsimp only; rw [HX.out, HDRR.out]; exact this
      · have := own_base (base' := w.heap.size) o_67 (by omega); unfold OwnI; rw [show (d.i.take (d.i.length)).length = d.i.length by rw [List.length_take]; omega]; exact this
    · have hdl : d.i.length - (d.i.length) = 0 := by omega
      have hdr : d.i.drop (d.i.length) = [] := List.drop_of_length_le (by omega)
      have HDL := Lib.hid hdl
      have HDR := Lib.hid hdr
      have hce2 := (Decidable.not_not.1 hce).symm
      clear hce hdl hdr
      subst hce2
      have HLd := Lib.hid (List.length_drop (i := d.i.length) (l := d.i))
      obtain ⟨DR, hDR⟩ : ∃ DR : List Int, DR = d.i.drop (d.i.length) := ⟨_, rfl⟩
      have HDRR := Lib.hid hDR
      have HX := Lib.hid ((congrArg List.length hDR).trans (HLd.out.trans (Nat.sub_self _)))
      clear hDR
      go_wp2_with (first
        | (refine wpList_store_any _ rfl rfl (by rfl) (b := w.heap.size) (off := 0) (n := 22) rfl rfl (vs := drvC d ⟨Ap, ai, (d.i.length), ao, co⟩) rfl H_9 (by kernel_rfl) rfl rfl (Nat.le_of_ble_eq_true rfl) (drvC d ⟨Ap, ai, (d.i.length), ao, co⟩) rfl ?_
           intro w_69 H_70 g_71
           have zw_69 := g_71.size
           have B_72 := below_only B_8 g_71 (by omega)
           have H_73 := box_only' H_10 g_71 (by omega)
           have o_74 := own_ty Ox H_9 (by decide) g_71
           have o_75 := own_ty Oy H_9 (by decide) g_71
           have o_76 := own_ty Oi H_9 (by decide) g_71
           have o_77 := own_ty Oo H_9 (by decide) g_71
           have c_78 := box_cell H_70 18 (v := .slice ai d.i.length (d.i.length)) rfl
           have lc_78 := box_lt H_70
           skip)
        | (at_builtin
           refine wpList_append_row w_69 rfl _ _ _ rfl w_69.heap.size 3 _ 1 8 Try.underlying27 int_info rfl (by decide) none 0 0 [] (by rfl) (World.ownsRow_nil _ _ _ _) ai ((d.i.length)) ((d.i.length)) ((d.i.take (d.i.length)).map (Value.int .i64)) (by rfl) (Ints.take (own_cells o_76) _) (by rw [List.length_map, List.length_take]; omega) (ints_one _) (fun e => by have := hni e; omega) (by simp only [maxLen]; omega) (by omega) (Nat.le_refl _) ?_
           intro a_79 c_80 w_81 o_82 hg
           rw [Nat.zero_add, List.nil_append] at o_82
           rw [Nat.zero_add]
           have b_83 : Below w_69.heap.size w_69 w_81 := (Below.refl _ _).grown hg (Nat.le_refl _) (fun k hk => by simp [Value.ownBlock] at hk)
           clear hg
           have zw_81 := b_83.size
           have B_84 := B_72.trans (b_83.mono B_72.size)
           have apl1 := (own_in o_75).apart (own_in o_82) (.inl (Nat.le_refl _))
           have apl2 := (own_in o_77).apart (own_in o_82) (.inl (Nat.le_refl _))
           have H_85 := (b_83.block _ (box_lt H_70)).trans H_70
           have H_86 := (b_83.block _ (box_lt H_73)).trans H_73
           have o_87 := own_below o_74 b_83
           have o_88 := own_below o_75 b_83
           have o_89 := own_below o_76 b_83
           have o_90 := own_below o_77 b_83
           have c_91 := box_cell H_85 18 (v := .slice ai d.i.length (d.i.length)) rfl
           have lc_91 := box_lt H_85
           skip)
        | (at_builtin
           refine wpList_append_row w_81 rfl _ _ _ rfl w_81.heap.size 3 _ 1 8 Try.underlying27 int_info rfl (by decide) none 0 0 [] (by rfl) (World.ownsRow_nil _ _ _ _) ai (0) (0) ((d.i.drop (d.i.length)).map (Value.int .i64)) (by rfl) (show Ints _ ai (d.i.drop (d.i.length)) by rw [HDR.out]; exact .inl rfl) (by rw [HDR.out]; rfl) (ints_one _) (fun _ => ⟨rfl, rfl⟩) (by simp only [maxLen]; omega) (by omega) (Nat.le_refl _) ?_
           intro a_92 c_93 w_94 o_95 hg
           rw [Nat.zero_add, List.nil_append] at o_95
           rw [Nat.zero_add]
           have b_96 : Below w_81.heap.size w_81 w_94 := (Below.refl _ _).grown hg (Nat.le_refl _) (fun k hk => by simp [Value.ownBlock] at hk)
           clear hg
           have zw_94 := b_96.size
           have B_97 := B_84.trans (b_96.mono B_84.size)
           have apn1 := (own_in o_88).apart (own_in o_95) (.inl (Nat.le_refl _))
           have apn2 := (own_in o_90).apart (own_in o_95) (.inl (Nat.le_refl _))
           have apn3 := (own_in o_82).apart (own_in o_95) (.inl (Nat.le_refl _))
           have H_98 := (b_96.block _ (box_lt H_85)).trans H_85
           have H_99 := (b_96.block _ (box_lt H_86)).trans H_86
           have o_100 := own_below o_87 b_96
           have o_101 := own_below o_88 b_96
           have o_102 := own_below o_89 b_96
           have o_103 := own_below o_90 b_96
           have o_104 := own_below o_82 b_96
           skip)
        | (refine wpList_store_any _ rfl rfl (by rfl) (b := w.heap.size) (off := 18) (n := 1) rfl rfl (vs := #[.slice a_92 0 c_93]) rfl H_98 (by kernel_rfl) rfl rfl (Nat.le_of_ble_eq_true rfl) (#[.int .i64 d.p.b, .int .i64 d.p.p, .int .i64 d.p.s, .int .i64 d.p.en, .int .i64 d.p.co, .int .i64 d.p.r, .int .i64 d.p.t, .slice Ap.ax d.p.gs.length Ap.cx, .bool d.p.l, .int .i64 d.p.ag, .int .i64 d.p.sr, .slice Ap.ay d.p.ys.length Ap.cy, .int .i64 d.p.sh, .int .i64 d.p.sl, .bool d.p.m1, .bool d.p.m2, .bool d.p.m3, .bool d.p.m4, .slice a_92 0 c_93, .slice ao d.o.length co, .int .i64 d.wr, .int .i64 d.lo]) rfl ?_
           intro w_105 H_106 g_107
           have zw_105 := g_107.size
           have B_108 := below_only B_97 g_107 (by omega)
           have H_109 := box_only' H_99 g_107 (by omega)
           have o_110 := own_ty o_100 H_98 (by decide) g_107
           have o_111 := own_ty o_101 H_98 (by decide) g_107
           have o_112 := own_ty o_102 H_98 (by decide) g_107
           have o_113 := own_ty o_103 H_98 (by decide) g_107
           have o_114 := own_ty o_104 H_98 (by decide) g_107
           have o_115 := own_ty o_95 H_98 (by decide) g_107
           have H_106d : w_105.heap[w.heap.size]? = some (.cells (drvC { d with i := DR } ⟨Ap, a_92, c_93, ao, co⟩) 46 (0, 0)) := (by rw [H_106]; simp only [drvC, HX.out])
           skip)
        | (refine wpList_load_box _ rfl (by rfl) (b := w.heap.size) (off := 0) (n := 22) rfl H_106d Try.underlying46 (by kernel_rfl) (Nat.le_of_ble_eq_true rfl) (drvC { d with i := DR } ⟨Ap, a_92, c_93, ao, co⟩) rfl ?_
           skip)
        | (refine wpList_store_any _ rfl rfl (by rfl) (b := w.heap.size + 1) (off := 0) (n := 22) rfl rfl (vs := drvC { d with i := DR } ⟨Ap, a_92, c_93, ao, co⟩) rfl H_109 (by kernel_rfl) rfl rfl (Nat.le_of_ble_eq_true rfl) (drvC { d with i := DR } ⟨Ap, a_92, c_93, ao, co⟩) rfl ?_
           intro w_116 H_117 g_118
           have zw_116 := g_118.size
           have B_119 := below_only B_108 g_118 (by omega)
           have H_120 := box_only' H_106d g_118 (by omega)
           have o_121 := own_ty o_110 H_109 (by decide) g_118
           have o_122 := own_ty o_111 H_109 (by decide) g_118
           have o_123 := own_ty o_112 H_109 (by decide) g_118
           have o_124 := own_ty o_113 H_109 (by decide) g_118
           have o_125 := own_ty o_114 H_109 (by decide) g_118
           have o_126 := own_ty o_115 H_109 (by decide) g_118
           skip))
      refine bodyPost_ret (results_cell3 (u := .slice a_79 (d.i.length) c_80) (u2 := .bool true) Try.results14 rfl rfl rfl (load_box (P := Try.prog) H_117 Try.underlying46 (by kernel_rfl) rfl)) rfl ?_
      have HR3 := HR2.out
      rw [← HDRR.out] at HR3
      rw [HR3]
      refine ⟨⟨Ap, a_92, c_93, ao, co⟩, a_79, c_80, ?_, ⟨own_base o_121 (by omega), own_base o_122 (by omega), ?_, own_base o_124 (by omega)⟩, ?_, ⟨⟨apn1, DS.2.1, apn2.symm⟩, apl1, apn3.symm, apl2⟩, B_119⟩
      · rw [show (d.i.take (d.i.length)).length = d.i.length by rw [List.length_take]; omega]
      · have := own_base (base' := w.heap.size) o_126 (by omega); unfold OwnI; dsimp only; rw [HX.out, HDRR.out]; exact this
      · have := own_base (base' := w.heap.size) o_125 (by omega); unfold OwnI; rw [show (d.i.take (d.i.length)).length = d.i.length by rw [List.length_take]; omega]; exact this
  · have hN0 : takeN d (M : Int) = M := by simp [takeN]; omega
    have hmn' : M ≤ d.i.length := by omega
    have hmd : decide (d.i.length < M) = false := by simpa using hmn
    have HR2 := Lib.hid (HR.out.trans (by rw [hN0]) : takeR d (M : Int) = ⟨{ d with i := d.i.drop (M) }, d.i.take (M), true⟩)
    clear hN0
    have b0 : Below w.heap.size w ((w.alloc (.cells (drvC d A) 46)).alloc (.cells (drvC zDrv zDrvA) 46)) := ((Below.refl _ _).alloc (Nat.le_refl _) _).alloc (by simp) _
    have H0 := box_alloc (heap_new_at w (.cells (drvC d A) 46) _ rfl) (.cells (drvC zDrv zDrvA) 46)
    have G0 := heap_new_at (w.alloc (.cells (drvC d A) 46)) (.cells (drvC zDrv zDrvA) 46) (w.heap.size + 1) (by simp)
    go_enter Try.func14, Try.ntmps14
    go_wp2_with (first
      | (refine wpList_load_box _ rfl (by rfl) (b := w.heap.size) (off := 0) (n := 22) rfl H0 Try.underlying46 (by kernel_rfl) (Nat.le_of_ble_eq_true rfl) (drvC d A) rfl ?_))
    refine name_calls fun W hW => ?_
    have bW : Below w.heap.size w W := by rw [hW]; exact b0
    have h1 : W.heap[w.heap.size]? = some (.cells (drvC d A) 46 (0, 0)) := by rw [hW]; exact H0
    have h2 : W.heap[w.heap.size + 1]? = some (.cells (drvC zDrv zDrvA) 46 (0, 0)) := by rw [hW]; exact G0
    have zW : w.heap.size + 2 ≤ W.heap.size := by rw [hW]; simp
    clear hW b0 H0 G0
    refine (implDriverValid_any d A W (hm.below bW) hl).mono ?_
    rintro e w_1 ⟨rfl, b_2⟩
    have zw_1 := b_2.size
    have B_3 := bW.trans (b_2.mono bW.size)
    have H_4 := (b_2.block _ (box_lt h1)).trans h1
    have H_5 := (b_2.block _ (box_lt h2)).trans h2
    go_wp2_with (first
      | (refine wpList_load_box _ rfl (by rfl) (b := w.heap.size) (off := 0) (n := 22) rfl H_4 Try.underlying46 (by kernel_rfl) (Nat.le_of_ble_eq_true rfl) (drvC d A) rfl ?_
         skip))
    refine (driverCopy_any d A w_1 (hm.below B_3) hl (by omega) hN).mono ?_
    rintro e w_6 ⟨⟨Ap, ai, ci, ao, co⟩, rfl, DO, b_7⟩
    have zw_6 := b_7.size
    have B_8 := B_3.trans (b_7.mono B_3.size)
    have H_9 := (b_7.block _ (box_lt H_4)).trans H_4
    have H_10 := (b_7.block _ (box_lt H_5)).trans H_5
    have Ox : OwnG w_6 w_1.heap.size Ap.ax Ap.cx d.p.gs := DO.1.1
    have Oy : OwnI w_6 w_1.heap.size Ap.ay Ap.cy d.p.ys := DO.1.2.1
    have Oi : OwnI w_6 w_1.heap.size ai ci d.i := DO.1.2.2.1
    have Oo : OwnI w_6 w_1.heap.size ao co d.o := DO.1.2.2.2
    have hci := own_cap Oi
    have hcx := own_capmax Oi
    have hni := own_nilcap Oi
    have DS := DO.s
    clear DO
    have hn0 : (0 : Int) ≤ ((M : Nat) : Int) := by omega
    have hn1 : ((M : Nat) : Int) ≤ (ci : Int) := by omega
    have hn2 : (M) ≤ ci := by omega
    have hn3 : ((M : Nat) : Int) ≤ (d.i.length : Int) := by omega
    by_cases hce : ¬ ci = M
    · obtain ⟨ad, rfl⟩ : ∃ ad, ai = some ad := by
        cases ai with
        | none => exact absurd (hni rfl).2 (by have := (hni rfl).2; omega)
        | some ad => exact ⟨ad, rfl⟩
      have hcp : (M) < ci := by omega
      have HLd := Lib.hid (List.length_drop (i := M) (l := d.i))
      obtain ⟨DR, hDR⟩ : ∃ DR : List Int, DR = d.i.drop (M) := ⟨_, rfl⟩
      have HDRR := Lib.hid hDR
      have HX := Lib.hid ((congrArg List.length hDR).trans HLd.out)
      clear hDR
      go_wp2_with (first
        | (refine wpList_store_any _ rfl rfl (by rfl) (b := w.heap.size) (off := 0) (n := 22) rfl rfl (vs := drvC d ⟨Ap, (some ad), ci, ao, co⟩) rfl H_9 (by kernel_rfl) rfl rfl (Nat.le_of_ble_eq_true rfl) (drvC d ⟨Ap, (some ad), ci, ao, co⟩) rfl ?_
           intro w_11 H_12 g_13
           have zw_11 := g_13.size
           have B_14 := below_only B_8 g_13 (by omega)
           have H_15 := box_only' H_10 g_13 (by omega)
           have o_16 := own_ty Ox H_9 (by decide) g_13
           have o_17 := own_ty Oy H_9 (by decide) g_13
           have o_18 := own_ty Oi H_9 (by decide) g_13
           have o_19 := own_ty Oo H_9 (by decide) g_13
           have c_20 := box_cell H_12 18 (v := .slice (some ad) d.i.length ci) rfl
           have lc_20 := box_lt H_12
           skip)
        | (at_builtin
           refine wpList_append_row w_11 rfl _ _ _ rfl w_11.heap.size 3 _ 1 8 Try.underlying27 int_info rfl (by decide) none 0 0 [] (by rfl) (World.ownsRow_nil _ _ _ _) (some ad) ((M)) (ci) ((d.i.take (M)).map (Value.int .i64)) (by rfl) (Ints.take (own_cells o_18) _) (by rw [List.length_map, List.length_take]; omega) (ints_one _) (fun e => by have := hni e; omega) (by simp only [maxLen]; omega) (by omega) (Nat.le_refl _) ?_
           intro a_21 c_22 w_23 o_24 hg
           rw [Nat.zero_add, List.nil_append] at o_24
           rw [Nat.zero_add]
           have b_25 : Below w_11.heap.size w_11 w_23 := (Below.refl _ _).grown hg (Nat.le_refl _) (fun k hk => by simp [Value.ownBlock] at hk)
           clear hg
           have zw_23 := b_25.size
           have B_26 := B_14.trans (b_25.mono B_14.size)
           have apl1 := (own_in o_17).apart (own_in o_24) (.inl (Nat.le_refl _))
           have apl2 := (own_in o_19).apart (own_in o_24) (.inl (Nat.le_refl _))
           have H_27 := (b_25.block _ (box_lt H_12)).trans H_12
           have H_28 := (b_25.block _ (box_lt H_15)).trans H_15
           have o_29 := own_below o_16 b_25
           have o_30 := own_below o_17 b_25
           have o_31 := own_below o_18 b_25
           have o_32 := own_below o_19 b_25
           have c_33 := box_cell H_27 18 (v := .slice (some ad) d.i.length ci) rfl
           have lc_33 := box_lt H_27
           skip)
        | (at_builtin
           refine wpList_append_row w_23 rfl _ _ _ rfl w_23.heap.size 3 _ 1 8 Try.underlying27 int_info rfl (by decide) none 0 0 [] (by rfl) (World.ownsRow_nil _ _ _ _) (some (ad.add (M))) ((d.i.length - (M))) ((ci - (M))) ((d.i.drop (M)).map (Value.int .i64)) (by rfl) (ints_dropA (own_cells o_31) (M)) (by rw [List.length_map, List.length_drop]; omega) (ints_one _) (fun e => by cases e) (by simp only [maxLen]; omega) (by omega) (Nat.le_refl _) ?_
           intro a_34 c_35 w_36 o_37 hg
           rw [Nat.zero_add, List.nil_append] at o_37
           rw [Nat.zero_add]
           have b_38 : Below w_23.heap.size w_23 w_36 := (Below.refl _ _).grown hg (Nat.le_refl _) (fun k hk => by simp [Value.ownBlock] at hk)
           clear hg
           have zw_36 := b_38.size
           have B_39 := B_26.trans (b_38.mono B_26.size)
           have apn1 := (own_in o_30).apart (own_in o_37) (.inl (Nat.le_refl _))
           have apn2 := (own_in o_32).apart (own_in o_37) (.inl (Nat.le_refl _))
           have apn3 := (own_in o_24).apart (own_in o_37) (.inl (Nat.le_refl _))
           have H_40 := (b_38.block _ (box_lt H_27)).trans H_27
           have H_41 := (b_38.block _ (box_lt H_28)).trans H_28
           have o_42 := own_below o_29 b_38
           have o_43 := own_below o_30 b_38
           have o_44 := own_below o_31 b_38
           have o_45 := own_below o_32 b_38
           have o_46 := own_below o_24 b_38
           skip)
        | (refine wpList_store_any _ rfl rfl (by rfl) (b := w.heap.size) (off := 18) (n := 1) rfl rfl (vs := #[.slice a_34 (d.i.length - (M)) c_35]) rfl H_40 (by kernel_rfl) rfl rfl (Nat.le_of_ble_eq_true rfl) (#[.int .i64 d.p.b, .int .i64 d.p.p, .int .i64 d.p.s, .int .i64 d.p.en, .int .i64 d.p.co, .int .i64 d.p.r, .int .i64 d.p.t, .slice Ap.ax d.p.gs.length Ap.cx, .bool d.p.l, .int .i64 d.p.ag, .int .i64 d.p.sr, .slice Ap.ay d.p.ys.length Ap.cy, .int .i64 d.p.sh, .int .i64 d.p.sl, .bool d.p.m1, .bool d.p.m2, .bool d.p.m3, .bool d.p.m4, .slice a_34 (d.i.length - (M)) c_35, .slice ao d.o.length co, .int .i64 d.wr, .int .i64 d.lo]) rfl ?_
           intro w_47 H_48 g_49
           have zw_47 := g_49.size
           have B_50 := below_only B_39 g_49 (by omega)
           have H_51 := box_only' H_41 g_49 (by omega)
           have o_52 := own_ty o_42 H_40 (by decide) g_49
           have o_53 := own_ty o_43 H_40 (by decide) g_49
           have o_54 := own_ty o_44 H_40 (by decide) g_49
           have o_55 := own_ty o_45 H_40 (by decide) g_49
           have o_56 := own_ty o_46 H_40 (by decide) g_49
           have o_57 := own_ty o_37 H_40 (by decide) g_49
           have H_48d : w_47.heap[w.heap.size]? = some (.cells (drvC { d with i := DR } ⟨Ap, a_34, c_35, ao, co⟩) 46 (0, 0)) := (by rw [H_48]; simp only [drvC, HX.out])
           skip)
        | (refine wpList_load_box _ rfl (by rfl) (b := w.heap.size) (off := 0) (n := 22) rfl H_48d Try.underlying46 (by kernel_rfl) (Nat.le_of_ble_eq_true rfl) (drvC { d with i := DR } ⟨Ap, a_34, c_35, ao, co⟩) rfl ?_
           skip)
        | (refine wpList_store_any _ rfl rfl (by rfl) (b := w.heap.size + 1) (off := 0) (n := 22) rfl rfl (vs := drvC { d with i := DR } ⟨Ap, a_34, c_35, ao, co⟩) rfl H_51 (by kernel_rfl) rfl rfl (Nat.le_of_ble_eq_true rfl) (drvC { d with i := DR } ⟨Ap, a_34, c_35, ao, co⟩) rfl ?_
           intro w_58 H_59 g_60
           have zw_58 := g_60.size
           have B_61 := below_only B_50 g_60 (by omega)
           have H_62 := box_only' H_48d g_60 (by omega)
           have o_63 := own_ty o_52 H_51 (by decide) g_60
           have o_64 := own_ty o_53 H_51 (by decide) g_60
           have o_65 := own_ty o_54 H_51 (by decide) g_60
           have o_66 := own_ty o_55 H_51 (by decide) g_60
           have o_67 := own_ty o_56 H_51 (by decide) g_60
           have o_68 := own_ty o_57 H_51 (by decide) g_60
           skip))
      refine bodyPost_ret (results_cell3 (u := .slice a_21 (M) c_22) (u2 := .bool true) Try.results14 rfl rfl rfl (load_box (P := Try.prog) H_59 Try.underlying46 (by kernel_rfl) rfl)) rfl ?_
      have HR3 := HR2.out
      rw [← HDRR.out] at HR3
      rw [HR3]
      refine ⟨⟨Ap, a_34, c_35, ao, co⟩, a_21, c_22, ?_, ⟨own_base o_63 (by omega), own_base o_64 (by omega), ?_, own_base o_66 (by omega)⟩, ?_, ⟨⟨apn1, DS.2.1, apn2.symm⟩, apl1, apn3.symm, apl2⟩, B_61⟩
      · rw [show (d.i.take (M)).length = M by rw [List.length_take]; omega]
      · have := own_base (base' := w.heap.size) o_68 (by omega); unfold OwnI; dsimp only; rw [HX.out, HDRR.out]; exact this
      · have := own_base (base' := w.heap.size) o_67 (by omega); unfold OwnI; rw [show (d.i.take (M)).length = M by rw [List.length_take]; omega]; exact this
    · have hMl : d.i.length = M := by have := Decidable.not_not.1 hce; omega
      subst hMl
      have hdl : d.i.length - (d.i.length) = 0 := by omega
      have hdr : d.i.drop (d.i.length) = [] := List.drop_of_length_le (by omega)
      have HDL := Lib.hid hdl
      have HDR := Lib.hid hdr
      have hce2 := (Decidable.not_not.1 hce).symm
      clear hce hdl hdr
      subst hce2
      have HLd := Lib.hid (List.length_drop (i := d.i.length) (l := d.i))
      obtain ⟨DR, hDR⟩ : ∃ DR : List Int, DR = d.i.drop (d.i.length) := ⟨_, rfl⟩
      have HDRR := Lib.hid hDR
      have HX := Lib.hid ((congrArg List.length hDR).trans (HLd.out.trans (Nat.sub_self _)))
      clear hDR
      go_wp2_with (first
        | (refine wpList_store_any _ rfl rfl (by rfl) (b := w.heap.size) (off := 0) (n := 22) rfl rfl (vs := drvC d ⟨Ap, ai, (d.i.length), ao, co⟩) rfl H_9 (by kernel_rfl) rfl rfl (Nat.le_of_ble_eq_true rfl) (drvC d ⟨Ap, ai, (d.i.length), ao, co⟩) rfl ?_
           intro w_69 H_70 g_71
           have zw_69 := g_71.size
           have B_72 := below_only B_8 g_71 (by omega)
           have H_73 := box_only' H_10 g_71 (by omega)
           have o_74 := own_ty Ox H_9 (by decide) g_71
           have o_75 := own_ty Oy H_9 (by decide) g_71
           have o_76 := own_ty Oi H_9 (by decide) g_71
           have o_77 := own_ty Oo H_9 (by decide) g_71
           have c_78 := box_cell H_70 18 (v := .slice ai d.i.length (d.i.length)) rfl
           have lc_78 := box_lt H_70
           skip)
        | (at_builtin
           refine wpList_append_row w_69 rfl _ _ _ rfl w_69.heap.size 3 _ 1 8 Try.underlying27 int_info rfl (by decide) none 0 0 [] (by rfl) (World.ownsRow_nil _ _ _ _) ai ((d.i.length)) ((d.i.length)) ((d.i.take (d.i.length)).map (Value.int .i64)) (by rfl) (Ints.take (own_cells o_76) _) (by rw [List.length_map, List.length_take]; omega) (ints_one _) (fun e => by have := hni e; omega) (by simp only [maxLen]; omega) (by omega) (Nat.le_refl _) ?_
           intro a_79 c_80 w_81 o_82 hg
           rw [Nat.zero_add, List.nil_append] at o_82
           rw [Nat.zero_add]
           have b_83 : Below w_69.heap.size w_69 w_81 := (Below.refl _ _).grown hg (Nat.le_refl _) (fun k hk => by simp [Value.ownBlock] at hk)
           clear hg
           have zw_81 := b_83.size
           have B_84 := B_72.trans (b_83.mono B_72.size)
           have apl1 := (own_in o_75).apart (own_in o_82) (.inl (Nat.le_refl _))
           have apl2 := (own_in o_77).apart (own_in o_82) (.inl (Nat.le_refl _))
           have H_85 := (b_83.block _ (box_lt H_70)).trans H_70
           have H_86 := (b_83.block _ (box_lt H_73)).trans H_73
           have o_87 := own_below o_74 b_83
           have o_88 := own_below o_75 b_83
           have o_89 := own_below o_76 b_83
           have o_90 := own_below o_77 b_83
           have c_91 := box_cell H_85 18 (v := .slice ai d.i.length (d.i.length)) rfl
           have lc_91 := box_lt H_85
           skip)
        | (at_builtin
           refine wpList_append_row w_81 rfl _ _ _ rfl w_81.heap.size 3 _ 1 8 Try.underlying27 int_info rfl (by decide) none 0 0 [] (by rfl) (World.ownsRow_nil _ _ _ _) ai (0) (0) ((d.i.drop (d.i.length)).map (Value.int .i64)) (by rfl) (show Ints _ ai (d.i.drop (d.i.length)) by rw [HDR.out]; exact .inl rfl) (by rw [HDR.out]; rfl) (ints_one _) (fun _ => ⟨rfl, rfl⟩) (by simp only [maxLen]; omega) (by omega) (Nat.le_refl _) ?_
           intro a_92 c_93 w_94 o_95 hg
           rw [Nat.zero_add, List.nil_append] at o_95
           rw [Nat.zero_add]
           have b_96 : Below w_81.heap.size w_81 w_94 := (Below.refl _ _).grown hg (Nat.le_refl _) (fun k hk => by simp [Value.ownBlock] at hk)
           clear hg
           have zw_94 := b_96.size
           have B_97 := B_84.trans (b_96.mono B_84.size)
           have apn1 := (own_in o_88).apart (own_in o_95) (.inl (Nat.le_refl _))
           have apn2 := (own_in o_90).apart (own_in o_95) (.inl (Nat.le_refl _))
           have apn3 := (own_in o_82).apart (own_in o_95) (.inl (Nat.le_refl _))
           have H_98 := (b_96.block _ (box_lt H_85)).trans H_85
           have H_99 := (b_96.block _ (box_lt H_86)).trans H_86
           have o_100 := own_below o_87 b_96
           have o_101 := own_below o_88 b_96
           have o_102 := own_below o_89 b_96
           have o_103 := own_below o_90 b_96
           have o_104 := own_below o_82 b_96
           skip)
        | (refine wpList_store_any _ rfl rfl (by rfl) (b := w.heap.size) (off := 18) (n := 1) rfl rfl (vs := #[.slice a_92 0 c_93]) rfl H_98 (by kernel_rfl) rfl rfl (Nat.le_of_ble_eq_true rfl) (#[.int .i64 d.p.b, .int .i64 d.p.p, .int .i64 d.p.s, .int .i64 d.p.en, .int .i64 d.p.co, .int .i64 d.p.r, .int .i64 d.p.t, .slice Ap.ax d.p.gs.length Ap.cx, .bool d.p.l, .int .i64 d.p.ag, .int .i64 d.p.sr, .slice Ap.ay d.p.ys.length Ap.cy, .int .i64 d.p.sh, .int .i64 d.p.sl, .bool d.p.m1, .bool d.p.m2, .bool d.p.m3, .bool d.p.m4, .slice a_92 0 c_93, .slice ao d.o.length co, .int .i64 d.wr, .int .i64 d.lo]) rfl ?_
           intro w_105 H_106 g_107
           have zw_105 := g_107.size
           have B_108 := below_only B_97 g_107 (by omega)
           have H_109 := box_only' H_99 g_107 (by omega)
           have o_110 := own_ty o_100 H_98 (by decide) g_107
           have o_111 := own_ty o_101 H_98 (by decide) g_107
           have o_112 := own_ty o_102 H_98 (by decide) g_107
           have o_113 := own_ty o_103 H_98 (by decide) g_107
           have o_114 := own_ty o_104 H_98 (by decide) g_107
           have o_115 := own_ty o_95 H_98 (by decide) g_107
           have H_106d : w_105.heap[w.heap.size]? = some (.cells (drvC { d with i := DR } ⟨Ap, a_92, c_93, ao, co⟩) 46 (0, 0)) := (by rw [H_106]; simp only [drvC, HX.out])
           skip)
        | (refine wpList_load_box _ rfl (by rfl) (b := w.heap.size) (off := 0) (n := 22) rfl H_106d Try.underlying46 (by kernel_rfl) (Nat.le_of_ble_eq_true rfl) (drvC { d with i := DR } ⟨Ap, a_92, c_93, ao, co⟩) rfl ?_
           skip)
        | (refine wpList_store_any _ rfl rfl (by rfl) (b := w.heap.size + 1) (off := 0) (n := 22) rfl rfl (vs := drvC { d with i := DR } ⟨Ap, a_92, c_93, ao, co⟩) rfl H_109 (by kernel_rfl) rfl rfl (Nat.le_of_ble_eq_true rfl) (drvC { d with i := DR } ⟨Ap, a_92, c_93, ao, co⟩) rfl ?_
           intro w_116 H_117 g_118
           have zw_116 := g_118.size
           have B_119 := below_only B_108 g_118 (by omega)
           have H_120 := box_only' H_106d g_118 (by omega)
           have o_121 := own_ty o_110 H_109 (by decide) g_118
           have o_122 := own_ty o_111 H_109 (by decide) g_118
           have o_123 := own_ty o_112 H_109 (by decide) g_118
           have o_124 := own_ty o_113 H_109 (by decide) g_118
           have o_125 := own_ty o_114 H_109 (by decide) g_118
           have o_126 := own_ty o_115 H_109 (by decide) g_118
           skip))
      refine bodyPost_ret (results_cell3 (u := .slice a_79 (d.i.length) c_80) (u2 := .bool true) Try.results14 rfl rfl rfl (load_box (P := Try.prog) H_117 Try.underlying46 (by kernel_rfl) rfl)) rfl ?_
      have HR3 := HR2.out
      rw [← HDRR.out] at HR3
      rw [HR3]
      refine ⟨⟨Ap, a_92, c_93, ao, co⟩, a_79, c_80, ?_, ⟨own_base o_121 (by omega), own_base o_122 (by omega), ?_, own_base o_124 (by omega)⟩, ?_, ⟨⟨apn1, DS.2.1, apn2.symm⟩, apl1, apn3.symm, apl2⟩, B_119⟩
      · rw [show (d.i.take (d.i.length)).length = d.i.length by rw [List.length_take]; omega]
      · have := own_base (base' := w.heap.size) o_126 (by omega); unfold OwnI; dsimp only; rw [HX.out, HDRR.out]; exact this
      · have := own_base (base' := w.heap.size) o_125 (by omega); unfold OwnI; rw [show (d.i.take (d.i.length)).length = d.i.length by rw [List.length_take]; omega]; exact this
set_option maxHeartbeats 4000000 in
set_option maxRecDepth 100000 in
theorem specDriverTake_any (d : DrvD) (A : DrvA) (m : Int) (w : World) (hm : DrvM w d A) (hl : DrvL d) (hN : DrvN d A) :
    Calls Try.prog 12 #[.agg (drvC d A), .int .i64 m] w (TakeP w (takeR d m)) := by
  cases hv : drvB d
  · have HR := Lib.hid (takeR_no (d := d) (m := m) (by simp [takeB, hv]))
    rw [HR.out]
    have b0 : Below w.heap.size w ((w.alloc (.cells (drvC d A) 46)).alloc (.cells (drvC zDrv zDrvA) 46)) := ((Below.refl _ _).alloc (Nat.le_refl _) _).alloc (by simp) _
    have H0 := box_alloc (heap_new_at w (.cells (drvC d A) 46) _ rfl) (.cells (drvC zDrv zDrvA) 46)
    have G0 := heap_new_at (w.alloc (.cells (drvC d A) 46)) (.cells (drvC zDrv zDrvA) 46) (w.heap.size + 1) (by simp)
    go_enter Try.func12, Try.ntmps12
    go_wp2_with (first
      | (refine wpList_load_box _ rfl (by rfl) (b := w.heap.size) (off := 0) (n := 22) rfl H0 Try.underlying46 (by kernel_rfl) (Nat.le_of_ble_eq_true rfl) (drvC d A) rfl ?_))
    refine name_calls fun W hW => ?_
    have bW : Below w.heap.size w W := by rw [hW]; exact b0
    have h1 : W.heap[w.heap.size]? = some (.cells (drvC d A) 46 (0, 0)) := by rw [hW]; exact H0
    have h2 : W.heap[w.heap.size + 1]? = some (.cells (drvC zDrv zDrvA) 46 (0, 0)) := by rw [hW]; exact G0
    have zW : w.heap.size + 2 ≤ W.heap.size := by rw [hW]; simp
    clear hW b0 H0 G0
    refine (specDriverValid_any d A W (hm.below bW) hl).mono ?_
    rintro e w_1 ⟨rfl, b_2⟩
    have zw_1 := b_2.size
    have B_3 := bW.trans (b_2.mono bW.size)
    have H_4 := (b_2.block _ (box_lt h1)).trans h1
    have H_5 := (b_2.block _ (box_lt h2)).trans h2
    go_wp2_with (first
      | (refine name_list fun Wq hq => ?_
         have Kq : Wq.heap[w.heap.size + 1]? = some (.cells (drvC zDrv zDrvA) 46 (0, 0)) := (by rw [hq]; exact box_alloc H_5 _)
         have oq : Wq.ownsRow w_1.heap.size 3 1 (.slice (some ⟨w_1.heap.size, 0, none⟩) 0 0) 0 [] := (by rw [hq]; exact own_made_at w_1 #[] _ _ 0 _ _ rfl (Nat.le_refl _) (by simp) rfl)
         have Bq : Below w.heap.size w Wq := (by rw [hq]; exact B_3.alloc B_3.size _)
         refine wpList_store_any _ rfl rfl (by rfl) (b := w.heap.size + 1) (off := 0) (n := 22) rfl rfl (vs := (drvC zDrv zDrvA)) rfl Kq (by kernel_rfl) rfl rfl (Nat.le_of_ble_eq_true rfl) ((drvC zDrv zDrvA)) rfl ?_
         intro wz Kz gz
         have Bz := below_only Bq gz (by omega)
         have oz := own_low oq gz (by omega)
         clear hq
         skip))
    refine bodyPost_ret (results_cell3 Try.results12 rfl rfl rfl (load_box (P := Try.prog) Kz Try.underlying46 (by kernel_rfl) rfl)) rfl ?_
    exact ⟨zDrvA, _, 0, rfl, zDrvO _ _, own_base oz (by omega), zTakeS _, Bz⟩
  cases hbm : inB m 0 32
  · have HR := Lib.hid (takeR_no (d := d) (m := m) (by simp [takeB, hbm]))
    rw [HR.out]
    have b0 : Below w.heap.size w ((w.alloc (.cells (drvC d A) 46)).alloc (.cells (drvC zDrv zDrvA) 46)) := ((Below.refl _ _).alloc (Nat.le_refl _) _).alloc (by simp) _
    have H0 := box_alloc (heap_new_at w (.cells (drvC d A) 46) _ rfl) (.cells (drvC zDrv zDrvA) 46)
    have G0 := heap_new_at (w.alloc (.cells (drvC d A) 46)) (.cells (drvC zDrv zDrvA) 46) (w.heap.size + 1) (by simp)
    go_enter Try.func12, Try.ntmps12
    go_wp2_with (first
      | (refine wpList_load_box _ rfl (by rfl) (b := w.heap.size) (off := 0) (n := 22) rfl H0 Try.underlying46 (by kernel_rfl) (Nat.le_of_ble_eq_true rfl) (drvC d A) rfl ?_))
    refine name_calls fun W hW => ?_
    have bW : Below w.heap.size w W := by rw [hW]; exact b0
    have h1 : W.heap[w.heap.size]? = some (.cells (drvC d A) 46 (0, 0)) := by rw [hW]; exact H0
    have h2 : W.heap[w.heap.size + 1]? = some (.cells (drvC zDrv zDrvA) 46 (0, 0)) := by rw [hW]; exact G0
    have zW : w.heap.size + 2 ≤ W.heap.size := by rw [hW]; simp
    clear hW b0 H0 G0
    refine (specDriverValid_any d A W (hm.below bW) hl).mono ?_
    rintro e w_1 ⟨rfl, b_2⟩
    have zw_1 := b_2.size
    have B_3 := bW.trans (b_2.mono bW.size)
    have H_4 := (b_2.block _ (box_lt h1)).trans h1
    have H_5 := (b_2.block _ (box_lt h2)).trans h2
    go_wp2_with fail
    refine (l6In_any m 0 32 _).mono ?_
    rintro e wl ⟨rfl, rfl⟩
    go_wp2_with (first
      | (refine name_list fun Wq hq => ?_
         have Kq : Wq.heap[w.heap.size + 1]? = some (.cells (drvC zDrv zDrvA) 46 (0, 0)) := (by rw [hq]; exact box_alloc H_5 _)
         have oq : Wq.ownsRow w_1.heap.size 3 1 (.slice (some ⟨w_1.heap.size, 0, none⟩) 0 0) 0 [] := (by rw [hq]; exact own_made_at w_1 #[] _ _ 0 _ _ rfl (Nat.le_refl _) (by simp) rfl)
         have Bq : Below w.heap.size w Wq := (by rw [hq]; exact B_3.alloc B_3.size _)
         refine wpList_store_any _ rfl rfl (by rfl) (b := w.heap.size + 1) (off := 0) (n := 22) rfl rfl (vs := (drvC zDrv zDrvA)) rfl Kq (by kernel_rfl) rfl rfl (Nat.le_of_ble_eq_true rfl) ((drvC zDrv zDrvA)) rfl ?_
         intro wz Kz gz
         have Bz := below_only Bq gz (by omega)
         have oz := own_low oq gz (by omega)
         clear hq
         skip))
    refine bodyPost_ret (results_cell3 Try.results12 rfl rfl rfl (load_box (P := Try.prog) Kz Try.underlying46 (by kernel_rfl) rfl)) rfl ?_
    exact ⟨zDrvA, _, 0, rfl, zDrvO _ _, own_base oz (by omega), zTakeS _, Bz⟩
  have hbm' := hbm
  simp only [inB, decide_eq_true_eq] at hbm'
  have h0' := hbm'.1
  have h1' := hbm'.2
  obtain ⟨M, rfl⟩ : ∃ M : Nat, m = (M : Int) := Int.eq_ofNat_of_zero_le (by omega)
  have HR := Lib.hid (takeR_yes (d := d) (m := (M : Int)) (by simp [takeB, hv, hbm]))
  have hlen := drvB_len hv
  have hlg := hlen.1
  have hli := hlen.2.2.1
  by_cases hmn : d.i.length < M
  · have hN0 : takeN d (M : Int) = d.i.length := by simp [takeN]; omega
    have HR2 := Lib.hid (HR.out.trans (by rw [hN0]) : takeR d (M : Int) = ⟨{ d with i := d.i.drop (d.i.length) }, d.i.take (d.i.length), true⟩)
    clear hN0
    have b0 : Below w.heap.size w ((w.alloc (.cells (drvC d A) 46)).alloc (.cells (drvC zDrv zDrvA) 46)) := ((Below.refl _ _).alloc (Nat.le_refl _) _).alloc (by simp) _
    have H0 := box_alloc (heap_new_at w (.cells (drvC d A) 46) _ rfl) (.cells (drvC zDrv zDrvA) 46)
    have G0 := heap_new_at (w.alloc (.cells (drvC d A) 46)) (.cells (drvC zDrv zDrvA) 46) (w.heap.size + 1) (by simp)
    go_enter Try.func12, Try.ntmps12
    go_wp2_with (first
      | (refine wpList_load_box _ rfl (by rfl) (b := w.heap.size) (off := 0) (n := 22) rfl H0 Try.underlying46 (by kernel_rfl) (Nat.le_of_ble_eq_true rfl) (drvC d A) rfl ?_))
    refine name_calls fun W hW => ?_
    have bW : Below w.heap.size w W := by rw [hW]; exact b0
    have h1 : W.heap[w.heap.size]? = some (.cells (drvC d A) 46 (0, 0)) := by rw [hW]; exact H0
    have h2 : W.heap[w.heap.size + 1]? = some (.cells (drvC zDrv zDrvA) 46 (0, 0)) := by rw [hW]; exact G0
    have zW : w.heap.size + 2 ≤ W.heap.size := by rw [hW]; simp
    clear hW b0 H0 G0
    refine (specDriverValid_any d A W (hm.below bW) hl).mono ?_
    rintro e w_1 ⟨rfl, b_2⟩
    have zw_1 := b_2.size
    have B_3 := bW.trans (b_2.mono bW.size)
    have H_4 := (b_2.block _ (box_lt h1)).trans h1
    have H_5 := (b_2.block _ (box_lt h2)).trans h2
    go_wp2_with fail
    refine (l6In_any (M : Int) 0 32 _).mono ?_
    rintro e wl ⟨rfl, rfl⟩
    go_wp2_with (first
      | (refine wpList_load_box _ rfl (by rfl) (b := w.heap.size) (off := 0) (n := 22) rfl H_4 Try.underlying46 (by kernel_rfl) (Nat.le_of_ble_eq_true rfl) (drvC d A) rfl ?_
         skip))
    refine (l21Copy_any d A w_1 (hm.below B_3) hl (by omega) hN).mono ?_
    rintro e w_6 ⟨⟨Ap, ai, ci, ao, co⟩, rfl, DO, b_7⟩
    have zw_6 := b_7.size
    have B_8 := B_3.trans (b_7.mono B_3.size)
    have H_9 := (b_7.block _ (box_lt H_4)).trans H_4
    have H_10 := (b_7.block _ (box_lt H_5)).trans H_5
    have Ox : OwnG w_6 w_1.heap.size Ap.ax Ap.cx d.p.gs := DO.1.1
    have Oy : OwnI w_6 w_1.heap.size Ap.ay Ap.cy d.p.ys := DO.1.2.1
    have Oi : OwnI w_6 w_1.heap.size ai ci d.i := DO.1.2.2.1
    have Oo : OwnI w_6 w_1.heap.size ao co d.o := DO.1.2.2.2
    have hci := own_cap Oi
    have hcx := own_capmax Oi
    have hni := own_nilcap Oi
    have DS := DO.s
    clear DO
    have hn0 : (0 : Int) ≤ ((d.i.length : Nat) : Int) := by omega
    have hn1 : ((d.i.length : Nat) : Int) ≤ (ci : Int) := by omega
    have hn2 : (d.i.length) ≤ ci := by omega
    have hn3 : ((d.i.length : Nat) : Int) ≤ (d.i.length : Int) := by omega
    by_cases hce : ¬ ci = d.i.length
    · obtain ⟨ad, rfl⟩ : ∃ ad, ai = some ad := by
        cases ai with
        | none => exact absurd (hni rfl).2 (by have := (hni rfl).2; omega)
        | some ad => exact ⟨ad, rfl⟩
      have hcp : (d.i.length) < ci := by omega
      have HLd := Lib.hid (List.length_drop (i := d.i.length) (l := d.i))
      obtain ⟨DR, hDR⟩ : ∃ DR : List Int, DR = d.i.drop (d.i.length) := ⟨_, rfl⟩
      have HDRR := Lib.hid hDR
      have HX := Lib.hid ((congrArg List.length hDR).trans (HLd.out.trans (Nat.sub_self _)))
      clear hDR
      go_wp2_with (first
        | (refine wpList_store_any _ rfl rfl (by rfl) (b := w_6.heap.size) (off := 0) (n := 22) rfl rfl (vs := (drvC d ⟨Ap, (some ad), ci, ao, co⟩)) rfl (heap_new_at w_6 (.cells (drvC zDrv zDrvA) 46) _ rfl) (by kernel_rfl) rfl rfl (Nat.le_of_ble_eq_true rfl) ((drvC d ⟨Ap, (some ad), ci, ao, co⟩)) rfl ?_
           intro w_11 H_12 g_13
           have b_14 : Below w_6.heap.size w_6 w_11 := below_only ((Below.refl _ _).alloc (Nat.le_refl _) _) g_13 (Nat.le_refl _)
           have zw_11 := b_14.size
           have B_15 := B_8.trans (b_14.mono B_8.size)
           have lH_12 := box_lt H_12
           have H_16 := (b_14.block _ (box_lt H_9)).trans H_9
           have H_17 := (b_14.block _ (box_lt H_10)).trans H_10
           have o_18 := own_below Ox b_14
           have o_19 := own_below Oy b_14
           have o_20 := own_below Oi b_14
           have o_21 := own_below Oo b_14
           have c_22 := box_cell H_12 18 (v := .slice (some ad) d.i.length ci) rfl
           have lc_22 := box_lt H_12
           skip)
        | (at_builtin
           refine name_list fun Wq hq => ?_
           have bq : Below w_11.heap.size w_11 Wq := (by rw [hq]; exact (Below.refl _ _).alloc (Nat.le_refl _) _)
           have oq : Wq.ownsRow w_11.heap.size 3 1 (.slice (some ⟨w_11.heap.size, 0, none⟩) 0 0) 0 [] := (by rw [hq]; exact own_made_at w_11 #[] _ _ 0 _ _ rfl (Nat.le_refl _) (by simp) rfl)
           have Bq := B_15.trans (bq.mono B_15.size)
           refine wpList_append_row Wq rfl _ _ _ rfl w_11.heap.size 3 _ 1 8 Try.underlying27 int_info rfl (by decide) (some ⟨w_11.heap.size, 0, none⟩) 0 0 [] (by rfl) oq (some ad) ((d.i.length)) (ci) ((d.i.take (d.i.length)).map (Value.int .i64)) (by rfl) (Ints.take (ints_al (own_cells o_20) hq) _) (by rw [List.length_map, List.length_take]; omega) (ints_one _) (fun e => by have := hni e; omega) (by simp only [maxLen]; omega) (by omega) bq.size ?_
           intro a_23 c_24 w_25 o_26 hg
           rw [Nat.zero_add, List.nil_append] at o_26
           rw [Nat.zero_add]
           have b_27 := below_append bq oq hg bq.size
           clear hq bq oq Bq
           clear hg
           have zw_25 := b_27.size
           have B_28 := B_15.trans (b_27.mono B_15.size)
           have apl1 := (own_in o_19).apart (own_in o_26) (.inl (Nat.le_refl _))
           have apl2 := (own_in o_21).apart (own_in o_26) (.inl (Nat.le_refl _))
           have H_29 := (b_27.block _ (box_lt H_16)).trans H_16
           have H_30 := (b_27.block _ (box_lt H_17)).trans H_17
           have H_31 := (b_27.block _ (box_lt H_12)).trans H_12
           have o_32 := own_below o_18 b_27
           have o_33 := own_below o_19 b_27
           have o_34 := own_below o_20 b_27
           have o_35 := own_below o_21 b_27
           have c_36 := box_cell H_31 18 (v := .slice (some ad) d.i.length ci) rfl
           have lc_36 := box_lt H_31
           skip)
        | (at_builtin
           refine name_list fun Wq hq => ?_
           have bq : Below w_25.heap.size w_25 Wq := (by rw [hq]; exact (Below.refl _ _).alloc (Nat.le_refl _) _)
           have oq : Wq.ownsRow w_25.heap.size 3 1 (.slice (some ⟨w_25.heap.size, 0, none⟩) 0 0) 0 [] := (by rw [hq]; exact own_made_at w_25 #[] _ _ 0 _ _ rfl (Nat.le_refl _) (by simp) rfl)
           have Bq := B_28.trans (bq.mono B_28.size)
           refine wpList_append_row Wq rfl _ _ _ rfl w_25.heap.size 3 _ 1 8 Try.underlying27 int_info rfl (by decide) (some ⟨w_25.heap.size, 0, none⟩) 0 0 [] (by rfl) oq (some (ad.add (d.i.length))) (0) ((ci - (d.i.length))) ((d.i.drop (d.i.length)).map (Value.int .i64)) (by rfl) (ints_dropA (ints_al (own_cells o_34) hq) (d.i.length)) (by rw [List.length_map, List.length_drop]; omega) (ints_one _) (fun e => by cases e) (by simp only [maxLen]; omega) (by omega) bq.size ?_
           intro a_37 c_38 w_39 o_40 hg
           rw [Nat.zero_add, List.nil_append] at o_40
           rw [Nat.zero_add]
           have b_41 := below_append bq oq hg bq.size
           clear hq bq oq Bq
           clear hg
           have zw_39 := b_41.size
           have B_42 := B_28.trans (b_41.mono B_28.size)
           have apn1 := (own_in o_33).apart (own_in o_40) (.inl (Nat.le_refl _))
           have apn2 := (own_in o_35).apart (own_in o_40) (.inl (Nat.le_refl _))
           have apn3 := (own_in o_26).apart (own_in o_40) (.inl (Nat.le_refl _))
           have H_43 := (b_41.block _ (box_lt H_29)).trans H_29
           have H_44 := (b_41.block _ (box_lt H_30)).trans H_30
           have H_45 := (b_41.block _ (box_lt H_31)).trans H_31
           have o_46 := own_below o_32 b_41
           have o_47 := own_below o_33 b_41
           have o_48 := own_below o_34 b_41
           have o_49 := own_below o_35 b_41
           have o_50 := own_below o_26 b_41
           skip)
        | (refine wpList_store_any _ rfl rfl (by rfl) (b := w_6.heap.size) (off := 18) (n := 1) rfl rfl (vs := #[.slice a_37 0 c_38]) rfl H_45 (by kernel_rfl) rfl rfl (Nat.le_of_ble_eq_true rfl) (#[.int .i64 d.p.b, .int .i64 d.p.p, .int .i64 d.p.s, .int .i64 d.p.en, .int .i64 d.p.co, .int .i64 d.p.r, .int .i64 d.p.t, .slice Ap.ax d.p.gs.length Ap.cx, .bool d.p.l, .int .i64 d.p.ag, .int .i64 d.p.sr, .slice Ap.ay d.p.ys.length Ap.cy, .int .i64 d.p.sh, .int .i64 d.p.sl, .bool d.p.m1, .bool d.p.m2, .bool d.p.m3, .bool d.p.m4, .slice a_37 0 c_38, .slice ao d.o.length co, .int .i64 d.wr, .int .i64 d.lo]) rfl ?_
           intro w_51 H_52 g_53
           have zw_51 := g_53.size
           have B_54 := below_only B_42 g_53 (by omega)
           have H_55 := box_only' H_43 g_53 (by omega)
           have H_56 := box_only' H_44 g_53 (by omega)
           have o_57 := own_ty o_46 H_45 (by decide) g_53
           have o_58 := own_ty o_47 H_45 (by decide) g_53
           have o_59 := own_ty o_48 H_45 (by decide) g_53
           have o_60 := own_ty o_49 H_45 (by decide) g_53
           have o_61 := own_ty o_50 H_45 (by decide) g_53
           have o_62 := own_ty o_40 H_45 (by decide) g_53
           have H_52d : w_51.heap[w_6.heap.size]? = some (.cells (drvC { d with i := DR } ⟨Ap, a_37, c_38, ao, co⟩) 46 (0, 0)) := (by rw [H_52]; simp only [drvC, HX.out])
           skip)
        | (refine wpList_load_box _ rfl (by rfl) (b := w_6.heap.size) (off := 0) (n := 22) rfl H_52d Try.underlying46 (by kernel_rfl) (Nat.le_of_ble_eq_true rfl) (drvC { d with i := DR } ⟨Ap, a_37, c_38, ao, co⟩) rfl ?_
           skip)
        | (refine wpList_store_any _ rfl rfl (by rfl) (b := w.heap.size + 1) (off := 0) (n := 22) rfl rfl (vs := drvC { d with i := DR } ⟨Ap, a_37, c_38, ao, co⟩) rfl H_56 (by kernel_rfl) rfl rfl (Nat.le_of_ble_eq_true rfl) (drvC { d with i := DR } ⟨Ap, a_37, c_38, ao, co⟩) rfl ?_
           intro w_63 H_64 g_65
           have zw_63 := g_65.size
           have B_66 := below_only B_54 g_65 (by omega)
           have H_67 := box_only' H_55 g_65 (by omega)
           have H_68 := box_only' H_52d g_65 (by omega)
           have o_69 := own_ty o_57 H_56 (by decide) g_65
           have o_70 := own_ty o_58 H_56 (by decide) g_65
           have o_71 := own_ty o_59 H_56 (by decide) g_65
           have o_72 := own_ty o_60 H_56 (by decide) g_65
           have o_73 := own_ty o_61 H_56 (by decide) g_65
           have o_74 := own_ty o_62 H_56 (by decide) g_65
           skip))
      refine bodyPost_ret (results_cell3 (u := .slice a_23 (d.i.length) c_24) (u2 := .bool true) Try.results12 rfl rfl rfl (load_box (P := Try.prog) H_64 Try.underlying46 (by kernel_rfl) rfl)) rfl ?_
      have HR3 := HR2.out
      rw [← HDRR.out] at HR3
      rw [HR3]
      refine ⟨⟨Ap, a_37, c_38, ao, co⟩, a_23, c_24, ?_, ⟨own_base o_69 (by omega), own_base o_70 (by omega), ?_, own_base o_72 (by omega)⟩, ?_, ⟨⟨apn1, DS.2.1, apn2.symm⟩, apl1, apn3.symm, apl2⟩, B_66⟩
      · rw [show (d.i.take (d.i.length)).length = d.i.length by rw [List.length_take]; omega]
      · have := own_base (base' := w.heap.size) o_74 (by omega); unfold OwnI; dsimp only; rw [HX.out, HDRR.out]; exact this
      · have := own_base (base' := w.heap.size) o_73 (by omega); unfold OwnI; rw [show (d.i.take (d.i.length)).length = d.i.length by rw [List.length_take]; omega]; exact this
    · have hdl : d.i.length - (d.i.length) = 0 := by omega
      have hdr : d.i.drop (d.i.length) = [] := List.drop_of_length_le (by omega)
      have HDL := Lib.hid hdl
      have HDR := Lib.hid hdr
      have hce2 := (Decidable.not_not.1 hce).symm
      clear hce hdl hdr
      subst hce2
      have HLd := Lib.hid (List.length_drop (i := d.i.length) (l := d.i))
      obtain ⟨DR, hDR⟩ : ∃ DR : List Int, DR = d.i.drop (d.i.length) := ⟨_, rfl⟩
      have HDRR := Lib.hid hDR
      have HX := Lib.hid ((congrArg List.length hDR).trans (HLd.out.trans (Nat.sub_self _)))
      clear hDR
      go_wp2_with (first
        | (refine wpList_store_any _ rfl rfl (by rfl) (b := w_6.heap.size) (off := 0) (n := 22) rfl rfl (vs := (drvC d ⟨Ap, ai, (d.i.length), ao, co⟩)) rfl (heap_new_at w_6 (.cells (drvC zDrv zDrvA) 46) _ rfl) (by kernel_rfl) rfl rfl (Nat.le_of_ble_eq_true rfl) ((drvC d ⟨Ap, ai, (d.i.length), ao, co⟩)) rfl ?_
           intro w_75 H_76 g_77
           have b_78 : Below w_6.heap.size w_6 w_75 := below_only ((Below.refl _ _).alloc (Nat.le_refl _) _) g_77 (Nat.le_refl _)
           have zw_75 := b_78.size
           have B_79 := B_8.trans (b_78.mono B_8.size)
           have lH_76 := box_lt H_76
           have H_80 := (b_78.block _ (box_lt H_9)).trans H_9
           have H_81 := (b_78.block _ (box_lt H_10)).trans H_10
           have o_82 := own_below Ox b_78
           have o_83 := own_below Oy b_78
           have o_84 := own_below Oi b_78
           have o_85 := own_below Oo b_78
           have c_86 := box_cell H_76 18 (v := .slice ai d.i.length (d.i.length)) rfl
           have lc_86 := box_lt H_76
           skip)
        | (at_builtin
           refine name_list fun Wq hq => ?_
           have bq : Below w_75.heap.size w_75 Wq := (by rw [hq]; exact (Below.refl _ _).alloc (Nat.le_refl _) _)
           have oq : Wq.ownsRow w_75.heap.size 3 1 (.slice (some ⟨w_75.heap.size, 0, none⟩) 0 0) 0 [] := (by rw [hq]; exact own_made_at w_75 #[] _ _ 0 _ _ rfl (Nat.le_refl _) (by simp) rfl)
           have Bq := B_79.trans (bq.mono B_79.size)
           refine wpList_append_row Wq rfl _ _ _ rfl w_75.heap.size 3 _ 1 8 Try.underlying27 int_info rfl (by decide) (some ⟨w_75.heap.size, 0, none⟩) 0 0 [] (by rfl) oq ai ((d.i.length)) ((d.i.length)) ((d.i.take (d.i.length)).map (Value.int .i64)) (by rfl) (Ints.take (ints_al (own_cells o_84) hq) _) (by rw [List.length_map, List.length_take]; omega) (ints_one _) (fun e => by have := hni e; omega) (by simp only [maxLen]; omega) (by omega) bq.size ?_
           intro a_87 c_88 w_89 o_90 hg
           rw [Nat.zero_add, List.nil_append] at o_90
           rw [Nat.zero_add]
           have b_91 := below_append bq oq hg bq.size
           clear hq bq oq Bq
           clear hg
           have zw_89 := b_91.size
           have B_92 := B_79.trans (b_91.mono B_79.size)
           have apl1 := (own_in o_83).apart (own_in o_90) (.inl (Nat.le_refl _))
           have apl2 := (own_in o_85).apart (own_in o_90) (.inl (Nat.le_refl _))
           have H_93 := (b_91.block _ (box_lt H_80)).trans H_80
           have H_94 := (b_91.block _ (box_lt H_81)).trans H_81
           have H_95 := (b_91.block _ (box_lt H_76)).trans H_76
           have o_96 := own_below o_82 b_91
           have o_97 := own_below o_83 b_91
           have o_98 := own_below o_84 b_91
           have o_99 := own_below o_85 b_91
           have c_100 := box_cell H_95 18 (v := .slice ai d.i.length (d.i.length)) rfl
           have lc_100 := box_lt H_95
           skip)
        | (at_builtin
           refine name_list fun Wq hq => ?_
           have bq : Below w_89.heap.size w_89 Wq := (by rw [hq]; exact (Below.refl _ _).alloc (Nat.le_refl _) _)
           have oq : Wq.ownsRow w_89.heap.size 3 1 (.slice (some ⟨w_89.heap.size, 0, none⟩) 0 0) 0 [] := (by rw [hq]; exact own_made_at w_89 #[] _ _ 0 _ _ rfl (Nat.le_refl _) (by simp) rfl)
           have Bq := B_92.trans (bq.mono B_92.size)
           refine wpList_append_row Wq rfl _ _ _ rfl w_89.heap.size 3 _ 1 8 Try.underlying27 int_info rfl (by decide) (some ⟨w_89.heap.size, 0, none⟩) 0 0 [] (by rfl) oq ai (0) (0) ((d.i.drop (d.i.length)).map (Value.int .i64)) (by rfl) (show Ints _ ai (d.i.drop (d.i.length)) by rw [HDR.out]; exact .inl rfl) (by rw [HDR.out]; rfl) (ints_one _) (fun _ => ⟨rfl, rfl⟩) (by simp only [maxLen]; omega) (by omega) bq.size ?_
           intro a_101 c_102 w_103 o_104 hg
           rw [Nat.zero_add, List.nil_append] at o_104
           rw [Nat.zero_add]
           have b_105 := below_append bq oq hg bq.size
           clear hq bq oq Bq
           clear hg
           have zw_103 := b_105.size
           have B_106 := B_92.trans (b_105.mono B_92.size)
           have apn1 := (own_in o_97).apart (own_in o_104) (.inl (Nat.le_refl _))
           have apn2 := (own_in o_99).apart (own_in o_104) (.inl (Nat.le_refl _))
           have apn3 := (own_in o_90).apart (own_in o_104) (.inl (Nat.le_refl _))
           have H_107 := (b_105.block _ (box_lt H_93)).trans H_93
           have H_108 := (b_105.block _ (box_lt H_94)).trans H_94
           have H_109 := (b_105.block _ (box_lt H_95)).trans H_95
           have o_110 := own_below o_96 b_105
           have o_111 := own_below o_97 b_105
           have o_112 := own_below o_98 b_105
           have o_113 := own_below o_99 b_105
           have o_114 := own_below o_90 b_105
           skip)
        | (refine wpList_store_any _ rfl rfl (by rfl) (b := w_6.heap.size) (off := 18) (n := 1) rfl rfl (vs := #[.slice a_101 0 c_102]) rfl H_109 (by kernel_rfl) rfl rfl (Nat.le_of_ble_eq_true rfl) (#[.int .i64 d.p.b, .int .i64 d.p.p, .int .i64 d.p.s, .int .i64 d.p.en, .int .i64 d.p.co, .int .i64 d.p.r, .int .i64 d.p.t, .slice Ap.ax d.p.gs.length Ap.cx, .bool d.p.l, .int .i64 d.p.ag, .int .i64 d.p.sr, .slice Ap.ay d.p.ys.length Ap.cy, .int .i64 d.p.sh, .int .i64 d.p.sl, .bool d.p.m1, .bool d.p.m2, .bool d.p.m3, .bool d.p.m4, .slice a_101 0 c_102, .slice ao d.o.length co, .int .i64 d.wr, .int .i64 d.lo]) rfl ?_
           intro w_115 H_116 g_117
           have zw_115 := g_117.size
           have B_118 := below_only B_106 g_117 (by omega)
           have H_119 := box_only' H_107 g_117 (by omega)
           have H_120 := box_only' H_108 g_117 (by omega)
           have o_121 := own_ty o_110 H_109 (by decide) g_117
           have o_122 := own_ty o_111 H_109 (by decide) g_117
           have o_123 := own_ty o_112 H_109 (by decide) g_117
           have o_124 := own_ty o_113 H_109 (by decide) g_117
           have o_125 := own_ty o_114 H_109 (by decide) g_117
           have o_126 := own_ty o_104 H_109 (by decide) g_117
           have H_116d : w_115.heap[w_6.heap.size]? = some (.cells (drvC { d with i := DR } ⟨Ap, a_101, c_102, ao, co⟩) 46 (0, 0)) := (by rw [H_116]; simp only [drvC, HX.out])
           skip)
        | (refine wpList_load_box _ rfl (by rfl) (b := w_6.heap.size) (off := 0) (n := 22) rfl H_116d Try.underlying46 (by kernel_rfl) (Nat.le_of_ble_eq_true rfl) (drvC { d with i := DR } ⟨Ap, a_101, c_102, ao, co⟩) rfl ?_
           skip)
        | (refine wpList_store_any _ rfl rfl (by rfl) (b := w.heap.size + 1) (off := 0) (n := 22) rfl rfl (vs := drvC { d with i := DR } ⟨Ap, a_101, c_102, ao, co⟩) rfl H_120 (by kernel_rfl) rfl rfl (Nat.le_of_ble_eq_true rfl) (drvC { d with i := DR } ⟨Ap, a_101, c_102, ao, co⟩) rfl ?_
           intro w_127 H_128 g_129
           have zw_127 := g_129.size
           have B_130 := below_only B_118 g_129 (by omega)
           have H_131 := box_only' H_119 g_129 (by omega)
           have H_132 := box_only' H_116d g_129 (by omega)
           have o_133 := own_ty o_121 H_120 (by decide) g_129
           have o_134 := own_ty o_122 H_120 (by decide) g_129
           have o_135 := own_ty o_123 H_120 (by decide) g_129
           have o_136 := own_ty o_124 H_120 (by decide) g_129
           have o_137 := own_ty o_125 H_120 (by decide) g_129
           have o_138 := own_ty o_126 H_120 (by decide) g_129
           skip))
      refine bodyPost_ret (results_cell3 (u := .slice a_87 (d.i.length) c_88) (u2 := .bool true) Try.results12 rfl rfl rfl (load_box (P := Try.prog) H_128 Try.underlying46 (by kernel_rfl) rfl)) rfl ?_
      have HR3 := HR2.out
      rw [← HDRR.out] at HR3
      rw [HR3]
      refine ⟨⟨Ap, a_101, c_102, ao, co⟩, a_87, c_88, ?_, ⟨own_base o_133 (by omega), own_base o_134 (by omega), ?_, own_base o_136 (by omega)⟩, ?_, ⟨⟨apn1, DS.2.1, apn2.symm⟩, apl1, apn3.symm, apl2⟩, B_130⟩
      · rw [show (d.i.take (d.i.length)).length = d.i.length by rw [List.length_take]; omega]
      · have := own_base (base' := w.heap.size) o_138 (by omega); unfold OwnI; dsimp only; rw [HX.out, HDRR.out]; exact this
      · have := own_base (base' := w.heap.size) o_137 (by omega); unfold OwnI; rw [show (d.i.take (d.i.length)).length = d.i.length by rw [List.length_take]; omega]; exact this
  · have hN0 : takeN d (M : Int) = M := by simp [takeN]; omega
    have hmn' : M ≤ d.i.length := by omega
    have hmd : decide (d.i.length < M) = false := by simpa using hmn
    have HR2 := Lib.hid (HR.out.trans (by rw [hN0]) : takeR d (M : Int) = ⟨{ d with i := d.i.drop (M) }, d.i.take (M), true⟩)
    clear hN0
    have b0 : Below w.heap.size w ((w.alloc (.cells (drvC d A) 46)).alloc (.cells (drvC zDrv zDrvA) 46)) := ((Below.refl _ _).alloc (Nat.le_refl _) _).alloc (by simp) _
    have H0 := box_alloc (heap_new_at w (.cells (drvC d A) 46) _ rfl) (.cells (drvC zDrv zDrvA) 46)
    have G0 := heap_new_at (w.alloc (.cells (drvC d A) 46)) (.cells (drvC zDrv zDrvA) 46) (w.heap.size + 1) (by simp)
    go_enter Try.func12, Try.ntmps12
    go_wp2_with (first
      | (refine wpList_load_box _ rfl (by rfl) (b := w.heap.size) (off := 0) (n := 22) rfl H0 Try.underlying46 (by kernel_rfl) (Nat.le_of_ble_eq_true rfl) (drvC d A) rfl ?_))
    refine name_calls fun W hW => ?_
    have bW : Below w.heap.size w W := by rw [hW]; exact b0
    have h1 : W.heap[w.heap.size]? = some (.cells (drvC d A) 46 (0, 0)) := by rw [hW]; exact H0
    have h2 : W.heap[w.heap.size + 1]? = some (.cells (drvC zDrv zDrvA) 46 (0, 0)) := by rw [hW]; exact G0
    have zW : w.heap.size + 2 ≤ W.heap.size := by rw [hW]; simp
    clear hW b0 H0 G0
    refine (specDriverValid_any d A W (hm.below bW) hl).mono ?_
    rintro e w_1 ⟨rfl, b_2⟩
    have zw_1 := b_2.size
    have B_3 := bW.trans (b_2.mono bW.size)
    have H_4 := (b_2.block _ (box_lt h1)).trans h1
    have H_5 := (b_2.block _ (box_lt h2)).trans h2
    go_wp2_with fail
    refine (l6In_any (M : Int) 0 32 _).mono ?_
    rintro e wl ⟨rfl, rfl⟩
    go_wp2_with (first
      | (refine wpList_load_box _ rfl (by rfl) (b := w.heap.size) (off := 0) (n := 22) rfl H_4 Try.underlying46 (by kernel_rfl) (Nat.le_of_ble_eq_true rfl) (drvC d A) rfl ?_
         skip))
    refine (l21Copy_any d A w_1 (hm.below B_3) hl (by omega) hN).mono ?_
    rintro e w_6 ⟨⟨Ap, ai, ci, ao, co⟩, rfl, DO, b_7⟩
    have zw_6 := b_7.size
    have B_8 := B_3.trans (b_7.mono B_3.size)
    have H_9 := (b_7.block _ (box_lt H_4)).trans H_4
    have H_10 := (b_7.block _ (box_lt H_5)).trans H_5
    have Ox : OwnG w_6 w_1.heap.size Ap.ax Ap.cx d.p.gs := DO.1.1
    have Oy : OwnI w_6 w_1.heap.size Ap.ay Ap.cy d.p.ys := DO.1.2.1
    have Oi : OwnI w_6 w_1.heap.size ai ci d.i := DO.1.2.2.1
    have Oo : OwnI w_6 w_1.heap.size ao co d.o := DO.1.2.2.2
    have hci := own_cap Oi
    have hcx := own_capmax Oi
    have hni := own_nilcap Oi
    have DS := DO.s
    clear DO
    have hn0 : (0 : Int) ≤ ((M : Nat) : Int) := by omega
    have hn1 : ((M : Nat) : Int) ≤ (ci : Int) := by omega
    have hn2 : (M) ≤ ci := by omega
    have hn3 : ((M : Nat) : Int) ≤ (d.i.length : Int) := by omega
    by_cases hce : ¬ ci = M
    · obtain ⟨ad, rfl⟩ : ∃ ad, ai = some ad := by
        cases ai with
        | none => exact absurd (hni rfl).2 (by have := (hni rfl).2; omega)
        | some ad => exact ⟨ad, rfl⟩
      have hcp : (M) < ci := by omega
      have HLd := Lib.hid (List.length_drop (i := M) (l := d.i))
      obtain ⟨DR, hDR⟩ : ∃ DR : List Int, DR = d.i.drop (M) := ⟨_, rfl⟩
      have HDRR := Lib.hid hDR
      have HX := Lib.hid ((congrArg List.length hDR).trans HLd.out)
      clear hDR
      go_wp2_with (first
        | (refine wpList_store_any _ rfl rfl (by rfl) (b := w_6.heap.size) (off := 0) (n := 22) rfl rfl (vs := (drvC d ⟨Ap, (some ad), ci, ao, co⟩)) rfl (heap_new_at w_6 (.cells (drvC zDrv zDrvA) 46) _ rfl) (by kernel_rfl) rfl rfl (Nat.le_of_ble_eq_true rfl) ((drvC d ⟨Ap, (some ad), ci, ao, co⟩)) rfl ?_
           intro w_11 H_12 g_13
           have b_14 : Below w_6.heap.size w_6 w_11 := below_only ((Below.refl _ _).alloc (Nat.le_refl _) _) g_13 (Nat.le_refl _)
           have zw_11 := b_14.size
           have B_15 := B_8.trans (b_14.mono B_8.size)
           have lH_12 := box_lt H_12
           have H_16 := (b_14.block _ (box_lt H_9)).trans H_9
           have H_17 := (b_14.block _ (box_lt H_10)).trans H_10
           have o_18 := own_below Ox b_14
           have o_19 := own_below Oy b_14
           have o_20 := own_below Oi b_14
           have o_21 := own_below Oo b_14
           have c_22 := box_cell H_12 18 (v := .slice (some ad) d.i.length ci) rfl
           have lc_22 := box_lt H_12
           skip)
        | (at_builtin
           refine name_list fun Wq hq => ?_
           have bq : Below w_11.heap.size w_11 Wq := (by rw [hq]; exact (Below.refl _ _).alloc (Nat.le_refl _) _)
           have oq : Wq.ownsRow w_11.heap.size 3 1 (.slice (some ⟨w_11.heap.size, 0, none⟩) 0 0) 0 [] := (by rw [hq]; exact own_made_at w_11 #[] _ _ 0 _ _ rfl (Nat.le_refl _) (by simp) rfl)
           have Bq := B_15.trans (bq.mono B_15.size)
           refine wpList_append_row Wq rfl _ _ _ rfl w_11.heap.size 3 _ 1 8 Try.underlying27 int_info rfl (by decide) (some ⟨w_11.heap.size, 0, none⟩) 0 0 [] (by rfl) oq (some ad) ((M)) (ci) ((d.i.take (M)).map (Value.int .i64)) (by rfl) (Ints.take (ints_al (own_cells o_20) hq) _) (by rw [List.length_map, List.length_take]; omega) (ints_one _) (fun e => by have := hni e; omega) (by simp only [maxLen]; omega) (by omega) bq.size ?_
           intro a_23 c_24 w_25 o_26 hg
           rw [Nat.zero_add, List.nil_append] at o_26
           rw [Nat.zero_add]
           have b_27 := below_append bq oq hg bq.size
           clear hq bq oq Bq
           clear hg
           have zw_25 := b_27.size
           have B_28 := B_15.trans (b_27.mono B_15.size)
           have apl1 := (own_in o_19).apart (own_in o_26) (.inl (Nat.le_refl _))
           have apl2 := (own_in o_21).apart (own_in o_26) (.inl (Nat.le_refl _))
           have H_29 := (b_27.block _ (box_lt H_16)).trans H_16
           have H_30 := (b_27.block _ (box_lt H_17)).trans H_17
           have H_31 := (b_27.block _ (box_lt H_12)).trans H_12
           have o_32 := own_below o_18 b_27
           have o_33 := own_below o_19 b_27
           have o_34 := own_below o_20 b_27
           have o_35 := own_below o_21 b_27
           have c_36 := box_cell H_31 18 (v := .slice (some ad) d.i.length ci) rfl
           have lc_36 := box_lt H_31
           skip)
        | (at_builtin
           refine name_list fun Wq hq => ?_
           have bq : Below w_25.heap.size w_25 Wq := (by rw [hq]; exact (Below.refl _ _).alloc (Nat.le_refl _) _)
           have oq : Wq.ownsRow w_25.heap.size 3 1 (.slice (some ⟨w_25.heap.size, 0, none⟩) 0 0) 0 [] := (by rw [hq]; exact own_made_at w_25 #[] _ _ 0 _ _ rfl (Nat.le_refl _) (by simp) rfl)
           have Bq := B_28.trans (bq.mono B_28.size)
           refine wpList_append_row Wq rfl _ _ _ rfl w_25.heap.size 3 _ 1 8 Try.underlying27 int_info rfl (by decide) (some ⟨w_25.heap.size, 0, none⟩) 0 0 [] (by rfl) oq (some (ad.add (M))) ((d.i.length - (M))) ((ci - (M))) ((d.i.drop (M)).map (Value.int .i64)) (by rfl) (ints_dropA (ints_al (own_cells o_34) hq) (M)) (by rw [List.length_map, List.length_drop]; omega) (ints_one _) (fun e => by cases e) (by simp only [maxLen]; omega) (by omega) bq.size ?_
           intro a_37 c_38 w_39 o_40 hg
           rw [Nat.zero_add, List.nil_append] at o_40
           rw [Nat.zero_add]
           have b_41 := below_append bq oq hg bq.size
           clear hq bq oq Bq
           clear hg
           have zw_39 := b_41.size
           have B_42 := B_28.trans (b_41.mono B_28.size)
           have apn1 := (own_in o_33).apart (own_in o_40) (.inl (Nat.le_refl _))
           have apn2 := (own_in o_35).apart (own_in o_40) (.inl (Nat.le_refl _))
           have apn3 := (own_in o_26).apart (own_in o_40) (.inl (Nat.le_refl _))
           have H_43 := (b_41.block _ (box_lt H_29)).trans H_29
           have H_44 := (b_41.block _ (box_lt H_30)).trans H_30
           have H_45 := (b_41.block _ (box_lt H_31)).trans H_31
           have o_46 := own_below o_32 b_41
           have o_47 := own_below o_33 b_41
           have o_48 := own_below o_34 b_41
           have o_49 := own_below o_35 b_41
           have o_50 := own_below o_26 b_41
           skip)
        | (refine wpList_store_any _ rfl rfl (by rfl) (b := w_6.heap.size) (off := 18) (n := 1) rfl rfl (vs := #[.slice a_37 (d.i.length - (M)) c_38]) rfl H_45 (by kernel_rfl) rfl rfl (Nat.le_of_ble_eq_true rfl) (#[.int .i64 d.p.b, .int .i64 d.p.p, .int .i64 d.p.s, .int .i64 d.p.en, .int .i64 d.p.co, .int .i64 d.p.r, .int .i64 d.p.t, .slice Ap.ax d.p.gs.length Ap.cx, .bool d.p.l, .int .i64 d.p.ag, .int .i64 d.p.sr, .slice Ap.ay d.p.ys.length Ap.cy, .int .i64 d.p.sh, .int .i64 d.p.sl, .bool d.p.m1, .bool d.p.m2, .bool d.p.m3, .bool d.p.m4, .slice a_37 (d.i.length - (M)) c_38, .slice ao d.o.length co, .int .i64 d.wr, .int .i64 d.lo]) rfl ?_
           intro w_51 H_52 g_53
           have zw_51 := g_53.size
           have B_54 := below_only B_42 g_53 (by omega)
           have H_55 := box_only' H_43 g_53 (by omega)
           have H_56 := box_only' H_44 g_53 (by omega)
           have o_57 := own_ty o_46 H_45 (by decide) g_53
           have o_58 := own_ty o_47 H_45 (by decide) g_53
           have o_59 := own_ty o_48 H_45 (by decide) g_53
           have o_60 := own_ty o_49 H_45 (by decide) g_53
           have o_61 := own_ty o_50 H_45 (by decide) g_53
           have o_62 := own_ty o_40 H_45 (by decide) g_53
           have H_52d : w_51.heap[w_6.heap.size]? = some (.cells (drvC { d with i := DR } ⟨Ap, a_37, c_38, ao, co⟩) 46 (0, 0)) := (by rw [H_52]; simp only [drvC, HX.out])
           skip)
        | (refine wpList_load_box _ rfl (by rfl) (b := w_6.heap.size) (off := 0) (n := 22) rfl H_52d Try.underlying46 (by kernel_rfl) (Nat.le_of_ble_eq_true rfl) (drvC { d with i := DR } ⟨Ap, a_37, c_38, ao, co⟩) rfl ?_
           skip)
        | (refine wpList_store_any _ rfl rfl (by rfl) (b := w.heap.size + 1) (off := 0) (n := 22) rfl rfl (vs := drvC { d with i := DR } ⟨Ap, a_37, c_38, ao, co⟩) rfl H_56 (by kernel_rfl) rfl rfl (Nat.le_of_ble_eq_true rfl) (drvC { d with i := DR } ⟨Ap, a_37, c_38, ao, co⟩) rfl ?_
           intro w_63 H_64 g_65
           have zw_63 := g_65.size
           have B_66 := below_only B_54 g_65 (by omega)
           have H_67 := box_only' H_55 g_65 (by omega)
           have H_68 := box_only' H_52d g_65 (by omega)
           have o_69 := own_ty o_57 H_56 (by decide) g_65
           have o_70 := own_ty o_58 H_56 (by decide) g_65
           have o_71 := own_ty o_59 H_56 (by decide) g_65
           have o_72 := own_ty o_60 H_56 (by decide) g_65
           have o_73 := own_ty o_61 H_56 (by decide) g_65
           have o_74 := own_ty o_62 H_56 (by decide) g_65
           skip))
      refine bodyPost_ret (results_cell3 (u := .slice a_23 (M) c_24) (u2 := .bool true) Try.results12 rfl rfl rfl (load_box (P := Try.prog) H_64 Try.underlying46 (by kernel_rfl) rfl)) rfl ?_
      have HR3 := HR2.out
      rw [← HDRR.out] at HR3
      rw [HR3]
      refine ⟨⟨Ap, a_37, c_38, ao, co⟩, a_23, c_24, ?_, ⟨own_base o_69 (by omega), own_base o_70 (by omega), ?_, own_base o_72 (by omega)⟩, ?_, ⟨⟨apn1, DS.2.1, apn2.symm⟩, apl1, apn3.symm, apl2⟩, B_66⟩
      · rw [show (d.i.take (M)).length = M by rw [List.length_take]; omega]
      · have := own_base (base' := w.heap.size) o_74 (by omega); unfold OwnI; dsimp only; rw [HX.out, HDRR.out]; exact this
      · have := own_base (base' := w.heap.size) o_73 (by omega); unfold OwnI; rw [show (d.i.take (M)).length = M by rw [List.length_take]; omega]; exact this
    · have hMl : d.i.length = M := by have := Decidable.not_not.1 hce; omega
      subst hMl
      have hdl : d.i.length - (d.i.length) = 0 := by omega
      have hdr : d.i.drop (d.i.length) = [] := List.drop_of_length_le (by omega)
      have HDL := Lib.hid hdl
      have HDR := Lib.hid hdr
      have hce2 := (Decidable.not_not.1 hce).symm
      clear hce hdl hdr
      subst hce2
      have HLd := Lib.hid (List.length_drop (i := d.i.length) (l := d.i))
      obtain ⟨DR, hDR⟩ : ∃ DR : List Int, DR = d.i.drop (d.i.length) := ⟨_, rfl⟩
      have HDRR := Lib.hid hDR
      have HX := Lib.hid ((congrArg List.length hDR).trans (HLd.out.trans (Nat.sub_self _)))
      clear hDR
      go_wp2_with (first
        | (refine wpList_store_any _ rfl rfl (by rfl) (b := w_6.heap.size) (off := 0) (n := 22) rfl rfl (vs := (drvC d ⟨Ap, ai, (d.i.length), ao, co⟩)) rfl (heap_new_at w_6 (.cells (drvC zDrv zDrvA) 46) _ rfl) (by kernel_rfl) rfl rfl (Nat.le_of_ble_eq_true rfl) ((drvC d ⟨Ap, ai, (d.i.length), ao, co⟩)) rfl ?_
           intro w_75 H_76 g_77
           have b_78 : Below w_6.heap.size w_6 w_75 := below_only ((Below.refl _ _).alloc (Nat.le_refl _) _) g_77 (Nat.le_refl _)
           have zw_75 := b_78.size
           have B_79 := B_8.trans (b_78.mono B_8.size)
           have lH_76 := box_lt H_76
           have H_80 := (b_78.block _ (box_lt H_9)).trans H_9
           have H_81 := (b_78.block _ (box_lt H_10)).trans H_10
           have o_82 := own_below Ox b_78
           have o_83 := own_below Oy b_78
           have o_84 := own_below Oi b_78
           have o_85 := own_below Oo b_78
           have c_86 := box_cell H_76 18 (v := .slice ai d.i.length (d.i.length)) rfl
           have lc_86 := box_lt H_76
           skip)
        | (at_builtin
           refine name_list fun Wq hq => ?_
           have bq : Below w_75.heap.size w_75 Wq := (by rw [hq]; exact (Below.refl _ _).alloc (Nat.le_refl _) _)
           have oq : Wq.ownsRow w_75.heap.size 3 1 (.slice (some ⟨w_75.heap.size, 0, none⟩) 0 0) 0 [] := (by rw [hq]; exact own_made_at w_75 #[] _ _ 0 _ _ rfl (Nat.le_refl _) (by simp) rfl)
           have Bq := B_79.trans (bq.mono B_79.size)
           refine wpList_append_row Wq rfl _ _ _ rfl w_75.heap.size 3 _ 1 8 Try.underlying27 int_info rfl (by decide) (some ⟨w_75.heap.size, 0, none⟩) 0 0 [] (by rfl) oq ai ((d.i.length)) ((d.i.length)) ((d.i.take (d.i.length)).map (Value.int .i64)) (by rfl) (Ints.take (ints_al (own_cells o_84) hq) _) (by rw [List.length_map, List.length_take]; omega) (ints_one _) (fun e => by have := hni e; omega) (by simp only [maxLen]; omega) (by omega) bq.size ?_
           intro a_87 c_88 w_89 o_90 hg
           rw [Nat.zero_add, List.nil_append] at o_90
           rw [Nat.zero_add]
           have b_91 := below_append bq oq hg bq.size
           clear hq bq oq Bq
           clear hg
           have zw_89 := b_91.size
           have B_92 := B_79.trans (b_91.mono B_79.size)
           have apl1 := (own_in o_83).apart (own_in o_90) (.inl (Nat.le_refl _))
           have apl2 := (own_in o_85).apart (own_in o_90) (.inl (Nat.le_refl _))
           have H_93 := (b_91.block _ (box_lt H_80)).trans H_80
           have H_94 := (b_91.block _ (box_lt H_81)).trans H_81
           have H_95 := (b_91.block _ (box_lt H_76)).trans H_76
           have o_96 := own_below o_82 b_91
           have o_97 := own_below o_83 b_91
           have o_98 := own_below o_84 b_91
           have o_99 := own_below o_85 b_91
           have c_100 := box_cell H_95 18 (v := .slice ai d.i.length (d.i.length)) rfl
           have lc_100 := box_lt H_95
           skip)
        | (at_builtin
           refine name_list fun Wq hq => ?_
           have bq : Below w_89.heap.size w_89 Wq := (by rw [hq]; exact (Below.refl _ _).alloc (Nat.le_refl _) _)
           have oq : Wq.ownsRow w_89.heap.size 3 1 (.slice (some ⟨w_89.heap.size, 0, none⟩) 0 0) 0 [] := (by rw [hq]; exact own_made_at w_89 #[] _ _ 0 _ _ rfl (Nat.le_refl _) (by simp) rfl)
           have Bq := B_92.trans (bq.mono B_92.size)
           refine wpList_append_row Wq rfl _ _ _ rfl w_89.heap.size 3 _ 1 8 Try.underlying27 int_info rfl (by decide) (some ⟨w_89.heap.size, 0, none⟩) 0 0 [] (by rfl) oq ai (0) (0) ((d.i.drop (d.i.length)).map (Value.int .i64)) (by rfl) (show Ints _ ai (d.i.drop (d.i.length)) by rw [HDR.out]; exact .inl rfl) (by rw [HDR.out]; rfl) (ints_one _) (fun _ => ⟨rfl, rfl⟩) (by simp only [maxLen]; omega) (by omega) bq.size ?_
           intro a_101 c_102 w_103 o_104 hg
           rw [Nat.zero_add, List.nil_append] at o_104
           rw [Nat.zero_add]
           have b_105 := below_append bq oq hg bq.size
           clear hq bq oq Bq
           clear hg
           have zw_103 := b_105.size
           have B_106 := B_92.trans (b_105.mono B_92.size)
           have apn1 := (own_in o_97).apart (own_in o_104) (.inl (Nat.le_refl _))
           have apn2 := (own_in o_99).apart (own_in o_104) (.inl (Nat.le_refl _))
           have apn3 := (own_in o_90).apart (own_in o_104) (.inl (Nat.le_refl _))
           have H_107 := (b_105.block _ (box_lt H_93)).trans H_93
           have H_108 := (b_105.block _ (box_lt H_94)).trans H_94
           have H_109 := (b_105.block _ (box_lt H_95)).trans H_95
           have o_110 := own_below o_96 b_105
           have o_111 := own_below o_97 b_105
           have o_112 := own_below o_98 b_105
           have o_113 := own_below o_99 b_105
           have o_114 := own_below o_90 b_105
           skip)
        | (refine wpList_store_any _ rfl rfl (by rfl) (b := w_6.heap.size) (off := 18) (n := 1) rfl rfl (vs := #[.slice a_101 0 c_102]) rfl H_109 (by kernel_rfl) rfl rfl (Nat.le_of_ble_eq_true rfl) (#[.int .i64 d.p.b, .int .i64 d.p.p, .int .i64 d.p.s, .int .i64 d.p.en, .int .i64 d.p.co, .int .i64 d.p.r, .int .i64 d.p.t, .slice Ap.ax d.p.gs.length Ap.cx, .bool d.p.l, .int .i64 d.p.ag, .int .i64 d.p.sr, .slice Ap.ay d.p.ys.length Ap.cy, .int .i64 d.p.sh, .int .i64 d.p.sl, .bool d.p.m1, .bool d.p.m2, .bool d.p.m3, .bool d.p.m4, .slice a_101 0 c_102, .slice ao d.o.length co, .int .i64 d.wr, .int .i64 d.lo]) rfl ?_
           intro w_115 H_116 g_117
           have zw_115 := g_117.size
           have B_118 := below_only B_106 g_117 (by omega)
           have H_119 := box_only' H_107 g_117 (by omega)
           have H_120 := box_only' H_108 g_117 (by omega)
           have o_121 := own_ty o_110 H_109 (by decide) g_117
           have o_122 := own_ty o_111 H_109 (by decide) g_117
           have o_123 := own_ty o_112 H_109 (by decide) g_117
           have o_124 := own_ty o_113 H_109 (by decide) g_117
           have o_125 := own_ty o_114 H_109 (by decide) g_117
           have o_126 := own_ty o_104 H_109 (by decide) g_117
           have H_116d : w_115.heap[w_6.heap.size]? = some (.cells (drvC { d with i := DR } ⟨Ap, a_101, c_102, ao, co⟩) 46 (0, 0)) := (by rw [H_116]; simp only [drvC, HX.out])
           skip)
        | (refine wpList_load_box _ rfl (by rfl) (b := w_6.heap.size) (off := 0) (n := 22) rfl H_116d Try.underlying46 (by kernel_rfl) (Nat.le_of_ble_eq_true rfl) (drvC { d with i := DR } ⟨Ap, a_101, c_102, ao, co⟩) rfl ?_
           skip)
        | (refine wpList_store_any _ rfl rfl (by rfl) (b := w.heap.size + 1) (off := 0) (n := 22) rfl rfl (vs := drvC { d with i := DR } ⟨Ap, a_101, c_102, ao, co⟩) rfl H_120 (by kernel_rfl) rfl rfl (Nat.le_of_ble_eq_true rfl) (drvC { d with i := DR } ⟨Ap, a_101, c_102, ao, co⟩) rfl ?_
           intro w_127 H_128 g_129
           have zw_127 := g_129.size
           have B_130 := below_only B_118 g_129 (by omega)
           have H_131 := box_only' H_119 g_129 (by omega)
           have H_132 := box_only' H_116d g_129 (by omega)
           have o_133 := own_ty o_121 H_120 (by decide) g_129
           have o_134 := own_ty o_122 H_120 (by decide) g_129
           have o_135 := own_ty o_123 H_120 (by decide) g_129
           have o_136 := own_ty o_124 H_120 (by decide) g_129
           have o_137 := own_ty o_125 H_120 (by decide) g_129
           have o_138 := own_ty o_126 H_120 (by decide) g_129
           skip))
      refine bodyPost_ret (results_cell3 (u := .slice a_87 (d.i.length) c_88) (u2 := .bool true) Try.results12 rfl rfl rfl (load_box (P := Try.prog) H_128 Try.underlying46 (by kernel_rfl) rfl)) rfl ?_
      have HR3 := HR2.out
      rw [← HDRR.out] at HR3
      rw [HR3]
      refine ⟨⟨Ap, a_101, c_102, ao, co⟩, a_87, c_88, ?_, ⟨own_base o_133 (by omega), own_base o_134 (by omega), ?_, own_base o_136 (by omega)⟩, ?_, ⟨⟨apn1, DS.2.1, apn2.symm⟩, apl1, apn3.symm, apl2⟩, B_130⟩
      · rw [show (d.i.take (d.i.length)).length = d.i.length by rw [List.length_take]; omega]
      · have := own_base (base' := w.heap.size) o_138 (by omega); unfold OwnI; dsimp only; rw [HX.out, HDRR.out]; exact this
      · have := own_base (base' := w.heap.size) o_137 (by omega); unfold OwnI; rw [show (d.i.take (d.i.length)).length = d.i.length by rw [List.length_take]; omega]; exact this
end Go.Proofs.Ytkmampichfbppaa
