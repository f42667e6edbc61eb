/- Drivers: bytes are to be sent. -/
import Derived.Test.YtkmampichfbppaaDriver4
namespace Go.Proofs.Ytkmampichfbppaa
open Go.RowKit

structure SdR where
  d : DrvD
  ok : Bool
def sendB (d : DrvD) (ls : List Int) : Bool := drvB d && (bytesB ls && decide ((d.o.length : Int) + (ls.length : Int) ≤ 32))
def enP (en : Int) : Int := if en / 2 % 2 = 1 then en else en + 2
def sendE (d : DrvD) (ls : List Int) : Int := if d.o.length + ls.length = 0 then d.p.en else enP d.p.en
def sendR (d : DrvD) (ls : List Int) : SdR := if sendB d ls then ⟨{ d with p := { d.p with en := sendE d ls }, o := d.o ++ ls }, true⟩ else ⟨zDrv, false⟩
theorem sendR_no {d : DrvD} {ls : List Int} (h : sendB d ls = false) : sendR d ls = ⟨zDrv, false⟩ := by simp [sendR, h]
theorem sendR_yes {d : DrvD} {ls : List Int} {en : Int} (h : sendB d ls = true) (he : sendE d ls = en) : sendR d ls = ⟨{ d with p := { d.p with en := en }, o := d.o ++ ls }, true⟩ := by simp [sendR, h, he]
def SendP (w : World) (R : SdR) (e : Ending) (w' : World) : Prop := ∃ (A1 : DrvA), e = .returned (.tuple #[.agg (drvC R.d A1), .bool R.ok]) ∧ DrvO w' w.heap.size R.d A1 ∧ DrvS A1 ∧ Below w.heap.size w w'
theorem zDrvS : DrvS zDrvA := ⟨apart_none _, apart_none _, apart_none _⟩
theorem drvB_en {d : DrvD} (h : drvB d = true) : 0 ≤ d.p.en ∧ d.p.en ≤ 15 ∧ 0 ≤ d.p.co ∧ d.p.co ≤ 3 := by
  simp only [drvB, portB, inB, Bool.and_eq_true, decide_eq_true_eq] at h
  omega
theorem or_two {en : Int} (h0 : 0 ≤ en) (h1 : en ≤ 15) : bits .or .i64 en 2 = enP en := by
  have : en = 0 ∨ en = 1 ∨ en = 2 ∨ en = 3 ∨ en = 4 ∨ en = 5 ∨ en = 6 ∨ en = 7 ∨ en = 8 ∨ en = 9 ∨ en = 10 ∨ en = 11 ∨ en = 12 ∨ en = 13 ∨ en = 14 ∨ en = 15 := by omega
  rcases this with h | h | h | h | h | h | h | h | h | h | h | h | h | h | h | h <;> subst h <;> decide
theorem l13Bit2_any (n : Int) (w : World) (h0 : 0 ≤ n) (h1 : n ≤ 1000) : Calls Try.prog 44 #[.int .i64 n, .int .i64 2] w fun e w' => e = .returned (.bool (decide (n / 2 % 2 = 1))) ∧ w = w' := by
  have e1 : IntKind.i64.wrap (n.tdiv 2) = n / 2 := by rw [Int.tdiv_eq_ediv_of_nonneg h0]; exact IntWalk.i64_in _ (by omega)
  have e2 : (n / 2).tmod 2 = n / 2 % 2 := Int.tmod_eq_emod_of_nonneg (by omega)
  go_enter Try.func44, Try.ntmps44
  go_wp2
  go_ret
  exact ⟨ret_bool (by rw [Bool.eq_iff_iff]; simp), rfl⟩

set_option maxHeartbeats 4000000 in
set_option maxRecDepth 100000 in
theorem implDriverSend_any (d : DrvD) (A : DrvA) (al : Option Addr) (ls : List Int) (cl : Nat) (w : World) (hm : DrvM w d A) (hl : DrvL d) (hN : DrvN d A) (hs : Ints w al ls) (ll : ls.length ≤ 1048576) (hcl : al = none → ls.length = 0 ∧ cl = 0) :
    Calls Try.prog 23 #[.agg (drvC d A), .slice al ls.length cl] w (SendP w (sendR d ls)) := by
  have hlo := hl.2.2.2
  have hwr : IntKind.i64.wrap ((d.o.length : Int) + (ls.length : Int)) = (d.o.length : Int) + (ls.length : Int) := IntWalk.i64_in _ (by omega)
  have HWR := Lib.hid hwr
  cases hv : drvB d
  · have HR := Lib.hid (sendR_no (d := d) (ls := ls) (by simp [sendB, hv]))
    rw [HR.out]
    have b0 : Below w.heap.size w ((w.alloc (.cells (drvC d A) 46)).alloc (.cells (drvC zDrv zDrvA) 46)) := ((Below.refl _ _).alloc (Nat.le_refl _) _).alloc (by simp) _
    have H0 := box_alloc (heap_new_at w (.cells (drvC d A) 46) _ rfl) (.cells (drvC zDrv zDrvA) 46)
    have G0 := heap_new_at (w.alloc (.cells (drvC d A) 46)) (.cells (drvC zDrv zDrvA) 46) (w.heap.size + 1) (by simp)
    go_enter Try.func23, Try.ntmps23
    go_wp2_with (first
      | (refine wpList_load_box _ rfl (by rfl) (b := w.heap.size) (off := 0) (n := 22) rfl H0 Try.underlying46 (by kernel_rfl) (Nat.le_of_ble_eq_true rfl) (drvC d A) rfl ?_))
    refine name_calls fun W hW => ?_
    have bW : Below w.heap.size w W := by rw [hW]; exact b0
    have h1 : W.heap[w.heap.size]? = some (.cells (drvC d A) 46 (0, 0)) := by rw [hW]; exact H0
    have h2 : W.heap[w.heap.size + 1]? = some (.cells (drvC zDrv zDrvA) 46 (0, 0)) := by rw [hW]; exact G0
    have zW : w.heap.size + 2 ≤ W.heap.size := by rw [hW]; simp
    clear hW b0 H0 G0
    refine (implDriverValid_any d A W (hm.below bW) hl).mono ?_
    rintro e w_1 ⟨rfl, b_2⟩
    have zw_1 := b_2.size
    have B_3 := bW.trans (b_2.mono bW.size)
    have H_4 := (b_2.block _ (box_lt h1)).trans h1
    have H_5 := (b_2.block _ (box_lt h2)).trans h2
    go_wp2_with (first
      | (refine wpList_store_any _ rfl rfl (by rfl) (b := w.heap.size + 1) (off := 0) (n := 22) rfl rfl (vs := (drvC zDrv zDrvA)) rfl H_5 (by kernel_rfl) rfl rfl (Nat.le_of_ble_eq_true rfl) ((drvC zDrv zDrvA)) rfl ?_
         intro w_6 H_7 g_8
         have zw_6 := g_8.size
         have B_9 := below_only B_3 g_8 (by omega)
         have H_10 := box_only' H_4 g_8 (by omega)
         skip))
    refine bodyPost_ret (results_cell2 Try.results23 rfl rfl (load_box (P := Try.prog) H_7 Try.underlying46 (by kernel_rfl) rfl)) rfl ?_
    exact ⟨zDrvA, rfl, zDrvO _ _, zDrvS, B_9⟩
  cases hby : bytesB ls
  · have HR := Lib.hid (sendR_no (d := d) (ls := ls) (by simp [sendB, hby]))
    rw [HR.out]
    have b0 : Below w.heap.size w ((w.alloc (.cells (drvC d A) 46)).alloc (.cells (drvC zDrv zDrvA) 46)) := ((Below.refl _ _).alloc (Nat.le_refl _) _).alloc (by simp) _
    have H0 := box_alloc (heap_new_at w (.cells (drvC d A) 46) _ rfl) (.cells (drvC zDrv zDrvA) 46)
    have G0 := heap_new_at (w.alloc (.cells (drvC d A) 46)) (.cells (drvC zDrv zDrvA) 46) (w.heap.size + 1) (by simp)
    go_enter Try.func23, Try.ntmps23
    go_wp2_with (first
      | (refine wpList_load_box _ rfl (by rfl) (b := w.heap.size) (off := 0) (n := 22) rfl H0 Try.underlying46 (by kernel_rfl) (Nat.le_of_ble_eq_true rfl) (drvC d A) rfl ?_))
    refine name_calls fun W hW => ?_
    have bW : Below w.heap.size w W := by rw [hW]; exact b0
    have h1 : W.heap[w.heap.size]? = some (.cells (drvC d A) 46 (0, 0)) := by rw [hW]; exact H0
    have h2 : W.heap[w.heap.size + 1]? = some (.cells (drvC zDrv zDrvA) 46 (0, 0)) := by rw [hW]; exact G0
    have zW : w.heap.size + 2 ≤ W.heap.size := by rw [hW]; simp
    clear hW b0 H0 G0
    refine (implDriverValid_any d A W (hm.below bW) hl).mono ?_
    rintro e w_1 ⟨rfl, b_2⟩
    have zw_1 := b_2.size
    have B_3 := bW.trans (b_2.mono bW.size)
    have H_4 := (b_2.block _ (box_lt h1)).trans h1
    have H_5 := (b_2.block _ (box_lt h2)).trans h2
    go_wp2_with fail
    refine (allBytes_any al ls cl w_1 (Ints.below hs B_3) (by omega)).mono ?_
    rintro e w_6 ⟨rfl, b_7⟩
    have zw_6 := b_7.size
    have B_8 := B_3.trans (b_7.mono B_3.size)
    have H_9 := (b_7.block _ (box_lt H_4)).trans H_4
    have H_10 := (b_7.block _ (box_lt H_5)).trans H_5
    have c_11 := box_cell H_9 19 (v := .slice A.ao d.o.length A.co) rfl
    have lc_11 := box_lt H_9
    go_wp2_with (first
      | (refine wpList_store_any _ rfl rfl (by rfl) (b := w.heap.size + 1) (off := 0) (n := 22) rfl rfl (vs := (drvC zDrv zDrvA)) rfl H_10 (by kernel_rfl) rfl rfl (Nat.le_of_ble_eq_true rfl) ((drvC zDrv zDrvA)) rfl ?_
         intro w_12 H_13 g_14
         have zw_12 := g_14.size
         have B_15 := below_only B_8 g_14 (by omega)
         have H_16 := box_only' H_9 g_14 (by omega)
         skip))
    refine bodyPost_ret (results_cell2 Try.results23 rfl rfl (load_box (P := Try.prog) H_13 Try.underlying46 (by kernel_rfl) rfl)) rfl ?_
    exact ⟨zDrvA, rfl, zDrvO _ _, zDrvS, B_15⟩
  by_cases hn : (32 : Int) < (d.o.length : Int) + (ls.length : Int)
  · have HR := Lib.hid (sendR_no (d := d) (ls := ls) (by simp only [sendB, decide_eq_false (show ¬ (d.o.length : Int) + (ls.length : Int) ≤ 32 by omega), Bool.and_false]))
    rw [HR.out]
    have b0 : Below w.heap.size w ((w.alloc (.cells (drvC d A) 46)).alloc (.cells (drvC zDrv zDrvA) 46)) := ((Below.refl _ _).alloc (Nat.le_refl _) _).alloc (by simp) _
    have H0 := box_alloc (heap_new_at w (.cells (drvC d A) 46) _ rfl) (.cells (drvC zDrv zDrvA) 46)
    have G0 := heap_new_at (w.alloc (.cells (drvC d A) 46)) (.cells (drvC zDrv zDrvA) 46) (w.heap.size + 1) (by simp)
    go_enter Try.func23, Try.ntmps23
    go_wp2_with (first
      | (refine wpList_load_box _ rfl (by rfl) (b := w.heap.size) (off := 0) (n := 22) rfl H0 Try.underlying46 (by kernel_rfl) (Nat.le_of_ble_eq_true rfl) (drvC d A) rfl ?_))
    refine name_calls fun W hW => ?_
    have bW : Below w.heap.size w W := by rw [hW]; exact b0
    have h1 : W.heap[w.heap.size]? = some (.cells (drvC d A) 46 (0, 0)) := by rw [hW]; exact H0
    have h2 : W.heap[w.heap.size + 1]? = some (.cells (drvC zDrv zDrvA) 46 (0, 0)) := by rw [hW]; exact G0
    have zW : w.heap.size + 2 ≤ W.heap.size := by rw [hW]; simp
    clear hW b0 H0 G0
    refine (implDriverValid_any d A W (hm.below bW) hl).mono ?_
    rintro e w_1 ⟨rfl, b_2⟩
    have zw_1 := b_2.size
    have B_3 := bW.trans (b_2.mono bW.size)
    have H_4 := (b_2.block _ (box_lt h1)).trans h1
    have H_5 := (b_2.block _ (box_lt h2)).trans h2
    go_wp2_with fail
    refine (allBytes_any al ls cl w_1 (Ints.below hs B_3) (by omega)).mono ?_
    rintro e w_6 ⟨rfl, b_7⟩
    have zw_6 := b_7.size
    have B_8 := B_3.trans (b_7.mono B_3.size)
    have H_9 := (b_7.block _ (box_lt H_4)).trans H_4
    have H_10 := (b_7.block _ (box_lt H_5)).trans H_5
    have c_11 := box_cell H_9 19 (v := .slice A.ao d.o.length A.co) rfl
    have lc_11 := box_lt H_9
    go_wp2_with (first
      | (refine wpList_store_any _ rfl rfl (by rfl) (b := w.heap.size + 1) (off := 0) (n := 22) rfl rfl (vs := (drvC zDrv zDrvA)) rfl H_10 (by kernel_rfl) rfl rfl (Nat.le_of_ble_eq_true rfl) ((drvC zDrv zDrvA)) rfl ?_
         intro w_12 H_13 g_14
         have zw_12 := g_14.size
         have B_15 := below_only B_8 g_14 (by omega)
         have H_16 := box_only' H_9 g_14 (by omega)
         skip))
    refine bodyPost_ret (results_cell2 Try.results23 rfl rfl (load_box (P := Try.prog) H_13 Try.underlying46 (by kernel_rfl) rfl)) rfl ?_
    exact ⟨zDrvA, rfl, zDrvO _ _, zDrvS, B_15⟩
  have hnd : decide ((32 : Int) < (d.o.length : Int) + (ls.length : Int)) = false := by simpa using hn
  have hn' : (d.o.length : Int) + (ls.length : Int) ≤ 32 := by omega
  clear hn
  have hsb : sendB d ls = true := by simp only [sendB, hv, hby, decide_eq_true hn', Bool.and_true]
  have hlen := drvB_len hv
  have hlg := hlen.1
  have hen := drvB_en hv
  have he0 := hen.1
  have he1 := hen.2.1
  have HLA := Lib.hid (show (d.o ++ ls).length = d.o.length + ls.length from List.length_append)
  obtain ⟨OL, hOL⟩ : ∃ OL : List Int, OL = d.o ++ ls := ⟨_, rfl⟩
  have HOL := Lib.hid hOL
  have HX := Lib.hid ((congrArg List.length hOL).trans HLA.out)
  clear hOL hen
  by_cases hz : d.o.length + ls.length = 0
  · have HR := Lib.hid (sendR_yes (en := d.p.en) hsb (by simp only [sendE, if_pos hz]))
    have hpz : decide (0 < OL.length) = false := decide_eq_false (by have := HX.out; omega)
    replace hz := Lib.hid hz
    have b0 : Below w.heap.size w ((w.alloc (.cells (drvC d A) 46)).alloc (.cells (drvC zDrv zDrvA) 46)) := ((Below.refl _ _).alloc (Nat.le_refl _) _).alloc (by simp) _
    have H0 := box_alloc (heap_new_at w (.cells (drvC d A) 46) _ rfl) (.cells (drvC zDrv zDrvA) 46)
    have G0 := heap_new_at (w.alloc (.cells (drvC d A) 46)) (.cells (drvC zDrv zDrvA) 46) (w.heap.size + 1) (by simp)
    go_enter Try.func23, Try.ntmps23
    go_wp2_with (first
      | (refine wpList_load_box _ rfl (by rfl) (b := w.heap.size) (off := 0) (n := 22) rfl H0 Try.underlying46 (by kernel_rfl) (Nat.le_of_ble_eq_true rfl) (drvC d A) rfl ?_))
    refine name_calls fun W hW => ?_
    have bW : Below w.heap.size w W := by rw [hW]; exact b0
    have h1 : W.heap[w.heap.size]? = some (.cells (drvC d A) 46 (0, 0)) := by rw [hW]; exact H0
    have h2 : W.heap[w.heap.size + 1]? = some (.cells (drvC zDrv zDrvA) 46 (0, 0)) := by rw [hW]; exact G0
    have zW : w.heap.size + 2 ≤ W.heap.size := by rw [hW]; simp
    clear hW b0 H0 G0
    refine (implDriverValid_any d A W (hm.below bW) hl).mono ?_
    rintro e w_1 ⟨rfl, b_2⟩
    have zw_1 := b_2.size
    have B_3 := bW.trans (b_2.mono bW.size)
    have H_4 := (b_2.block _ (box_lt h1)).trans h1
    have H_5 := (b_2.block _ (box_lt h2)).trans h2
    go_wp2_with fail
    refine (allBytes_any al ls cl w_1 (Ints.below hs B_3) (by omega)).mono ?_
    rintro e w_6 ⟨rfl, b_7⟩
    have zw_6 := b_7.size
    have B_8 := B_3.trans (b_7.mono B_3.size)
    have H_9 := (b_7.block _ (box_lt H_4)).trans H_4
    have H_10 := (b_7.block _ (box_lt H_5)).trans H_5
    have c_11 := box_cell H_9 19 (v := .slice A.ao d.o.length A.co) rfl
    have lc_11 := box_lt H_9
    go_wp2_with (first
      | (refine wpList_load_box _ rfl (by rfl) (b := w.heap.size) (off := 0) (n := 22) rfl H_9 Try.underlying46 (by kernel_rfl) (Nat.le_of_ble_eq_true rfl) (drvC d A) rfl ?_
         skip))
    refine (driverCopy_any d A w_6 (hm.below B_8) hl (by omega) hN).mono ?_
    rintro e w_12 ⟨⟨⟨ax, cx, ay, cy⟩, ai, ci, ao, co⟩, rfl, DO, b_13⟩
    have zw_12 := b_13.size
    have B_14 := B_8.trans (b_13.mono B_8.size)
    have H_15 := (b_13.block _ (box_lt H_9)).trans H_9
    have H_16 := (b_13.block _ (box_lt H_10)).trans H_10
    obtain ⟨⟨Ox, Oy, Oi, _⟩, apyi, B2, hB1, hB2, inX, inY, inI, Oo⟩ := DO
    dsimp only at Ox Oy Oi apyi inX inY inI Oo
    go_wp2_with (first
      | (refine wpList_store_any _ rfl rfl (by rfl) (b := w.heap.size) (off := 0) (n := 22) rfl rfl (vs := drvC d ⟨⟨ax, cx, ay, cy⟩, ai, ci, ao, co⟩) rfl H_15 (by kernel_rfl) rfl rfl (Nat.le_of_ble_eq_true rfl) (drvC d ⟨⟨ax, cx, ay, cy⟩, ai, ci, ao, co⟩) rfl ?_
         intro w_17 H_18 g_19
         have zw_17 := g_19.size
         have B_20 := below_only B_14 g_19 (by omega)
         have H_21 := box_only' H_16 g_19 (by omega)
         have o_22 := own_ty Ox H_15 (by decide) g_19
         have o_23 := own_ty Oy H_15 (by decide) g_19
         have o_24 := own_ty Oi H_15 (by decide) g_19
         have o_25 := own_ty Oo H_15 (by decide) g_19
         have c_26 := box_cell H_18 19 (v := .slice ao d.o.length co) rfl
         have lc_26 := box_lt H_18
         skip)
      | (at_builtin
         refine wpList_append_row w_17 rfl _ _ _ rfl B2 3 _ 1 8 Try.underlying27 int_info rfl (by decide) ao (d.o.length) co (d.o.map (Value.int .i64)) (by rfl) o_25 al (ls.length) cl (ls.map (Value.int .i64)) (by rfl) (Ints.below hs B_20) (by simp) (ints_one _) hcl (by simp only [maxLen]; omega) (by omega) (by omega) ?_
         intro a_27 c_28 w_29 o_30 hg
         have H_32 := box_grow H_18 hg (own_block_of (own_box_ne o_25 H_18 (by decide)))
         have H_33 := box_grow H_21 hg (own_block_of (own_box_ne o_25 H_21 (by decide)))
         have o_34 := own_apart o_22 inX (own_in o_25) (.inl (Nat.le_refl _)) hg
         have o_35 := own_apart o_23 inY (own_in o_25) (.inl (Nat.le_refl _)) hg
         have o_36 := own_apart o_24 inI (own_in o_25) (.inl (Nat.le_refl _)) hg
         have B_31 := below_append (B := w.heap.size) B_20 (own_base o_25 (by omega)) hg B_20.size
         have zw_29 := hg.size
         clear hg
         skip)
      | (refine wpList_store_any _ rfl rfl (by rfl) (b := w.heap.size) (off := 19) (n := 1) rfl rfl (vs := #[.slice a_27 (d.o.length + ls.length) c_28]) rfl H_32 (by kernel_rfl) rfl rfl (Nat.le_of_ble_eq_true rfl) (#[.int .i64 d.p.b, .int .i64 d.p.p, .int .i64 d.p.s, .int .i64 d.p.en, .int .i64 d.p.co, .int .i64 d.p.r, .int .i64 d.p.t, .slice ax d.p.gs.length cx, .bool d.p.l, .int .i64 d.p.ag, .int .i64 d.p.sr, .slice ay d.p.ys.length cy, .int .i64 d.p.sh, .int .i64 d.p.sl, .bool d.p.m1, .bool d.p.m2, .bool d.p.m3, .bool d.p.m4, .slice ai d.i.length ci, .slice a_27 (d.o.length + ls.length) c_28, .int .i64 d.wr, .int .i64 d.lo]) rfl ?_
         intro w_37 H_38 g_39
         have zw_37 := g_39.size
         have B_40 := below_only B_31 g_39 (by omega)
         have H_41 := box_only' H_33 g_39 (by omega)
         have o_42 := own_ty o_34 H_32 (by decide) g_39
         have o_43 := own_ty o_35 H_32 (by decide) g_39
         have o_44 := own_ty o_36 H_32 (by decide) g_39
         have o_45 := own_ty o_30 H_32 (by decide) g_39
         have H_38d : w_37.heap[w.heap.size]? = some (.cells (drvC { d with o := OL } ⟨⟨ax, cx, ay, cy⟩, ai, ci, a_27, c_28⟩) 46 (0, 0)) := (by rw [H_38]; simp only [drvC, HX.out])
         have c_46 := box_cell H_38d 19 (v := .slice a_27 OL.length c_28) rfl
         have lc_46 := box_lt H_38d
         skip)
      | (refine wpList_load_box _ rfl (by rfl) (b := w.heap.size) (off := 0) (n := 22) rfl H_38d Try.underlying46 (by kernel_rfl) (Nat.le_of_ble_eq_true rfl) (drvC { d with o := OL } ⟨⟨ax, cx, ay, cy⟩, ai, ci, a_27, c_28⟩) rfl ?_
         skip)
      | (refine wpList_store_any _ rfl rfl (by rfl) (b := w.heap.size + 1) (off := 0) (n := 22) rfl rfl (vs := drvC { d with o := OL } ⟨⟨ax, cx, ay, cy⟩, ai, ci, a_27, c_28⟩) rfl H_41 (by kernel_rfl) rfl rfl (Nat.le_of_ble_eq_true rfl) (drvC { d with o := OL } ⟨⟨ax, cx, ay, cy⟩, ai, ci, a_27, c_28⟩) rfl ?_
         intro w_47 H_48 g_49
         have zw_47 := g_49.size
         have B_50 := below_only B_40 g_49 (by omega)
         have H_51 := box_only' H_38d g_49 (by omega)
         have o_52 := own_ty o_42 H_41 (by decide) g_49
         have o_53 := own_ty o_43 H_41 (by decide) g_49
         have o_54 := own_ty o_44 H_41 (by decide) g_49
         have o_55 := own_ty o_45 H_41 (by decide) g_49
         skip))
    refine bodyPost_ret (results_cell2 (u := .bool true) Try.results23 rfl rfl (load_box (P := Try.prog) H_48 Try.underlying46 (by kernel_rfl) rfl)) rfl ?_
    have HR3 := HR.out
    rw [← HOL.out] at HR3
    rw [HR3]
    refine ⟨⟨⟨ax, cx, ay, cy⟩, ai, ci, a_27, c_28⟩, rfl, ⟨own_base o_52 (by omega), own_base o_53 (by omega), own_base o_54 (by omega), ?_⟩, ⟨apyi, inY.apart (own_in o_55) (.inl (Nat.le_refl _)), inI.apart (own_in o_55) (.inl (Nat.le_refl _))⟩, B_50⟩
    have := own_base (base' := w.heap.size) o_55 (by omega); unfold OwnI; dsimp only; rw [HX.out, HOL.out, List.map_append]; exact this
  have hpos : (0 : Int) < (OL.length : Int) := by rw [HX.out]; omega
  have HR := Lib.hid (sendR_yes (en := bits .or .i64 d.p.en 2) hsb (by rw [or_two he0 he1]; simp only [sendE, if_neg hz]))
  have b0 : Below w.heap.size w ((w.alloc (.cells (drvC d A) 46)).alloc (.cells (drvC zDrv zDrvA) 46)) := ((Below.refl _ _).alloc (Nat.le_refl _) _).alloc (by simp) _
  have H0 := box_alloc (heap_new_at w (.cells (drvC d A) 46) _ rfl) (.cells (drvC zDrv zDrvA) 46)
  have G0 := heap_new_at (w.alloc (.cells (drvC d A) 46)) (.cells (drvC zDrv zDrvA) 46) (w.heap.size + 1) (by simp)
  go_enter Try.func23, Try.ntmps23
  go_wp2_with (first
    | (refine wpList_load_box _ rfl (by rfl) (b := w.heap.size) (off := 0) (n := 22) rfl H0 Try.underlying46 (by kernel_rfl) (Nat.le_of_ble_eq_true rfl) (drvC d A) rfl ?_))
  refine name_calls fun W hW => ?_
  have bW : Below w.heap.size w W := by rw [hW]; exact b0
  have h1 : W.heap[w.heap.size]? = some (.cells (drvC d A) 46 (0, 0)) := by rw [hW]; exact H0
  have h2 : W.heap[w.heap.size + 1]? = some (.cells (drvC zDrv zDrvA) 46 (0, 0)) := by rw [hW]; exact G0
  have zW : w.heap.size + 2 ≤ W.heap.size := by rw [hW]; simp
  clear hW b0 H0 G0
  refine (implDriverValid_any d A W (hm.below bW) hl).mono ?_
  rintro e w_1 ⟨rfl, b_2⟩
  have zw_1 := b_2.size
  have B_3 := bW.trans (b_2.mono bW.size)
  have H_4 := (b_2.block _ (box_lt h1)).trans h1
  have H_5 := (b_2.block _ (box_lt h2)).trans h2
  go_wp2_with fail
  refine (allBytes_any al ls cl w_1 (Ints.below hs B_3) (by omega)).mono ?_
  rintro e w_6 ⟨rfl, b_7⟩
  have zw_6 := b_7.size
  have B_8 := B_3.trans (b_7.mono B_3.size)
  have H_9 := (b_7.block _ (box_lt H_4)).trans H_4
  have H_10 := (b_7.block _ (box_lt H_5)).trans H_5
  have c_11 := box_cell H_9 19 (v := .slice A.ao d.o.length A.co) rfl
  have lc_11 := box_lt H_9
  go_wp2_with (first
    | (refine wpList_load_box _ rfl (by rfl) (b := w.heap.size) (off := 0) (n := 22) rfl H_9 Try.underlying46 (by kernel_rfl) (Nat.le_of_ble_eq_true rfl) (drvC d A) rfl ?_
       skip))
  refine (driverCopy_any d A w_6 (hm.below B_8) hl (by omega) hN).mono ?_
  rintro e w_12 ⟨⟨⟨ax, cx, ay, cy⟩, ai, ci, ao, co⟩, rfl, DO, b_13⟩
  have zw_12 := b_13.size
  have B_14 := B_8.trans (b_13.mono B_8.size)
  have H_15 := (b_13.block _ (box_lt H_9)).trans H_9
  have H_16 := (b_13.block _ (box_lt H_10)).trans H_10
  obtain ⟨⟨Ox, Oy, Oi, _⟩, apyi, B2, hB1, hB2, inX, inY, inI, Oo⟩ := DO
  dsimp only at Ox Oy Oi apyi inX inY inI Oo
  go_wp2_with (first
    | (refine wpList_store_any _ rfl rfl (by rfl) (b := w.heap.size) (off := 0) (n := 22) rfl rfl (vs := drvC d ⟨⟨ax, cx, ay, cy⟩, ai, ci, ao, co⟩) rfl H_15 (by kernel_rfl) rfl rfl (Nat.le_of_ble_eq_true rfl) (drvC d ⟨⟨ax, cx, ay, cy⟩, ai, ci, ao, co⟩) rfl ?_
       intro w_17 H_18 g_19
       have zw_17 := g_19.size
       have B_20 := below_only B_14 g_19 (by omega)
       have H_21 := box_only' H_16 g_19 (by omega)
       have o_22 := own_ty Ox H_15 (by decide) g_19
       have o_23 := own_ty Oy H_15 (by decide) g_19
       have o_24 := own_ty Oi H_15 (by decide) g_19
       have o_25 := own_ty Oo H_15 (by decide) g_19
       have c_26 := box_cell H_18 19 (v := .slice ao d.o.length co) rfl
       have lc_26 := box_lt H_18
       skip)
    | (at_builtin
       refine wpList_append_row w_17 rfl _ _ _ rfl B2 3 _ 1 8 Try.underlying27 int_info rfl (by decide) ao (d.o.length) co (d.o.map (Value.int .i64)) (by rfl) o_25 al (ls.length) cl (ls.map (Value.int .i64)) (by rfl) (Ints.below hs B_20) (by simp) (ints_one _) hcl (by simp only [maxLen]; omega) (by omega) (by omega) ?_
       intro a_27 c_28 w_29 o_30 hg
       have H_32 := box_grow H_18 hg (own_block_of (own_box_ne o_25 H_18 (by decide)))
       have H_33 := box_grow H_21 hg (own_block_of (own_box_ne o_25 H_21 (by decide)))
       have o_34 := own_apart o_22 inX (own_in o_25) (.inl (Nat.le_refl _)) hg
       have o_35 := own_apart o_23 inY (own_in o_25) (.inl (Nat.le_refl _)) hg
       have o_36 := own_apart o_24 inI (own_in o_25) (.inl (Nat.le_refl _)) hg
       have B_31 := below_append (B := w.heap.size) B_20 (own_base o_25 (by omega)) hg B_20.size
       have zw_29 := hg.size
       clear hg
       skip)
    | (refine wpList_store_any _ rfl rfl (by rfl) (b := w.heap.size) (off := 19) (n := 1) rfl rfl (vs := #[.slice a_27 (d.o.length + ls.length) c_28]) rfl H_32 (by kernel_rfl) rfl rfl (Nat.le_of_ble_eq_true rfl) (#[.int .i64 d.p.b, .int .i64 d.p.p, .int .i64 d.p.s, .int .i64 d.p.en, .int .i64 d.p.co, .int .i64 d.p.r, .int .i64 d.p.t, .slice ax d.p.gs.length cx, .bool d.p.l, .int .i64 d.p.ag, .int .i64 d.p.sr, .slice ay d.p.ys.length cy, .int .i64 d.p.sh, .int .i64 d.p.sl, .bool d.p.m1, .bool d.p.m2, .bool d.p.m3, .bool d.p.m4, .slice ai d.i.length ci, .slice a_27 (d.o.length + ls.length) c_28, .int .i64 d.wr, .int .i64 d.lo]) rfl ?_
       intro w_37 H_38 g_39
       have zw_37 := g_39.size
       have B_40 := below_only B_31 g_39 (by omega)
       have H_41 := box_only' H_33 g_39 (by omega)
       have o_42 := own_ty o_34 H_32 (by decide) g_39
       have o_43 := own_ty o_35 H_32 (by decide) g_39
       have o_44 := own_ty o_36 H_32 (by decide) g_39
       have o_45 := own_ty o_30 H_32 (by decide) g_39
       have H_38d : w_37.heap[w.heap.size]? = some (.cells (drvC { d with o := OL } ⟨⟨ax, cx, ay, cy⟩, ai, ci, a_27, c_28⟩) 46 (0, 0)) := (by rw [H_38]; simp only [drvC, HX.out])
       have c_46 := box_cell H_38d 19 (v := .slice a_27 OL.length c_28) rfl
       have lc_46 := box_lt H_38d
       have c_47 := box_cell H_38d 3 (v := .int .i64 d.p.en) rfl
       have lc_47 := box_lt H_38d
       skip)
    | (refine wpList_store_any _ rfl rfl (by rfl) (b := w.heap.size) (off := 3) (n := 1) rfl rfl (vs := #[.int .i64 (bits .or .i64 d.p.en 2)]) rfl H_38d (by kernel_rfl) rfl rfl (Nat.le_of_ble_eq_true rfl) (drvC { d with p := { d.p with en := (bits .or .i64 d.p.en 2) }, o := OL } ⟨⟨ax, cx, ay, cy⟩, ai, ci, a_27, c_28⟩) rfl ?_
       intro w_48 H_49 g_50
       have zw_48 := g_50.size
       have B_51 := below_only B_40 g_50 (by omega)
       have H_52 := box_only' H_41 g_50 (by omega)
       have o_53 := own_ty o_42 H_38d (by decide) g_50
       have o_54 := own_ty o_43 H_38d (by decide) g_50
       have o_55 := own_ty o_44 H_38d (by decide) g_50
       have o_56 := own_ty o_45 H_38d (by decide) g_50
       skip)
    | (refine wpList_load_box _ rfl (by rfl) (b := w.heap.size) (off := 0) (n := 22) rfl H_49 Try.underlying46 (by kernel_rfl) (Nat.le_of_ble_eq_true rfl) (drvC { d with p := { d.p with en := (bits .or .i64 d.p.en 2) }, o := OL } ⟨⟨ax, cx, ay, cy⟩, ai, ci, a_27, c_28⟩) rfl ?_
       skip)
    | (refine wpList_store_any _ rfl rfl (by rfl) (b := w.heap.size + 1) (off := 0) (n := 22) rfl rfl (vs := drvC { d with p := { d.p with en := (bits .or .i64 d.p.en 2) }, o := OL } ⟨⟨ax, cx, ay, cy⟩, ai, ci, a_27, c_28⟩) rfl H_52 (by kernel_rfl) rfl rfl (Nat.le_of_ble_eq_true rfl) (drvC { d with p := { d.p with en := (bits .or .i64 d.p.en 2) }, o := OL } ⟨⟨ax, cx, ay, cy⟩, ai, ci, a_27, c_28⟩) rfl ?_
       intro w_57 H_58 g_59
       have zw_57 := g_59.size
       have B_60 := below_only B_51 g_59 (by omega)
       have H_61 := box_only' H_49 g_59 (by omega)
       have o_62 := own_ty o_53 H_52 (by decide) g_59
       have o_63 := own_ty o_54 H_52 (by decide) g_59
       have o_64 := own_ty o_55 H_52 (by decide) g_59
       have o_65 := own_ty o_56 H_52 (by decide) g_59
       skip))
  refine bodyPost_ret (results_cell2 (u := .bool true) Try.results23 rfl rfl (load_box (P := Try.prog) H_58 Try.underlying46 (by kernel_rfl) rfl)) rfl ?_
  have HR3 := HR.out
  rw [← HOL.out] at HR3
  rw [HR3]
  refine ⟨⟨⟨ax, cx, ay, cy⟩, ai, ci, a_27, c_28⟩, rfl, ⟨own_base o_62 (by omega), own_base o_63 (by omega), own_base o_64 (by omega), ?_⟩, ⟨apyi, inY.apart (own_in o_65) (.inl (Nat.le_refl _)), inI.apart (own_in o_65) (.inl (Nat.le_refl _))⟩, B_60⟩
  have := own_base (base' := w.heap.size) o_65 (by omega); unfold OwnI; dsimp only; rw [HX.out, HOL.out, List.map_append]; exact this
set_option maxHeartbeats 4000000 in
set_option maxRecDepth 100000 in
theorem specDriverSend_any (d : DrvD) (A : DrvA) (al : Option Addr) (ls : List Int) (cl : Nat) (w : World) (hm : DrvM w d A) (hl : DrvL d) (hN : DrvN d A) (hs : Ints w al ls) (ll : ls.length ≤ 1048576) (hcl : al = none → ls.length = 0 ∧ cl = 0) :
    Calls Try.prog 21 #[.agg (drvC d A), .slice al ls.length cl] w (SendP w (sendR d ls)) := by
  have hlo := hl.2.2.2
  have hwr : IntKind.i64.wrap ((d.o.length : Int) + (ls.length : Int)) = (d.o.length : Int) + (ls.length : Int) := IntWalk.i64_in _ (by omega)
  have HWR := Lib.hid hwr
  cases hv : drvB d
  · have HR := Lib.hid (sendR_no (d := d) (ls := ls) (by simp [sendB, hv]))
    rw [HR.out]
    have b0 : Below w.heap.size w ((w.alloc (.cells (drvC d A) 46)).alloc (.cells (drvC zDrv zDrvA) 46)) := ((Below.refl _ _).alloc (Nat.le_refl _) _).alloc (by simp) _
    have H0 := box_alloc (heap_new_at w (.cells (drvC d A) 46) _ rfl) (.cells (drvC zDrv zDrvA) 46)
    have G0 := heap_new_at (w.alloc (.cells (drvC d A) 46)) (.cells (drvC zDrv zDrvA) 46) (w.heap.size + 1) (by simp)
    go_enter Try.func21, Try.ntmps21
    go_wp2_with (first
      | (refine wpList_load_box _ rfl (by rfl) (b := w.heap.size) (off := 0) (n := 22) rfl H0 Try.underlying46 (by kernel_rfl) (Nat.le_of_ble_eq_true rfl) (drvC d A) rfl ?_))
    refine name_calls fun W hW => ?_
    have bW : Below w.heap.size w W := by rw [hW]; exact b0
    have h1 : W.heap[w.heap.size]? = some (.cells (drvC d A) 46 (0, 0)) := by rw [hW]; exact H0
    have h2 : W.heap[w.heap.size + 1]? = some (.cells (drvC zDrv zDrvA) 46 (0, 0)) := by rw [hW]; exact G0
    have zW : w.heap.size + 2 ≤ W.heap.size := by rw [hW]; simp
    clear hW b0 H0 G0
    refine (specDriverValid_any d A W (hm.below bW) hl).mono ?_
    rintro e w_1 ⟨rfl, b_2⟩
    have zw_1 := b_2.size
    have B_3 := bW.trans (b_2.mono bW.size)
    have H_4 := (b_2.block _ (box_lt h1)).trans h1
    have H_5 := (b_2.block _ (box_lt h2)).trans h2
    go_wp2_with (first
      | (refine wpList_store_any _ rfl rfl (by rfl) (b := w.heap.size + 1) (off := 0) (n := 22) rfl rfl (vs := (drvC zDrv zDrvA)) rfl H_5 (by kernel_rfl) rfl rfl (Nat.le_of_ble_eq_true rfl) ((drvC zDrv zDrvA)) rfl ?_
         intro w_6 H_7 g_8
         have zw_6 := g_8.size
         have B_9 := below_only B_3 g_8 (by omega)
         have H_10 := box_only' H_4 g_8 (by omega)
         skip))
    refine bodyPost_ret (results_cell2 Try.results21 rfl rfl (load_box (P := Try.prog) H_7 Try.underlying46 (by kernel_rfl) rfl)) rfl ?_
    exact ⟨zDrvA, rfl, zDrvO _ _, zDrvS, B_9⟩
  cases hby : bytesB ls
  · have HR := Lib.hid (sendR_no (d := d) (ls := ls) (by simp [sendB, hby]))
    rw [HR.out]
    have b0 : Below w.heap.size w ((w.alloc (.cells (drvC d A) 46)).alloc (.cells (drvC zDrv zDrvA) 46)) := ((Below.refl _ _).alloc (Nat.le_refl _) _).alloc (by simp) _
    have H0 := box_alloc (heap_new_at w (.cells (drvC d A) 46) _ rfl) (.cells (drvC zDrv zDrvA) 46)
    have G0 := heap_new_at (w.alloc (.cells (drvC d A) 46)) (.cells (drvC zDrv zDrvA) 46) (w.heap.size + 1) (by simp)
    go_enter Try.func21, Try.ntmps21
    go_wp2_with (first
      | (refine wpList_load_box _ rfl (by rfl) (b := w.heap.size) (off := 0) (n := 22) rfl H0 Try.underlying46 (by kernel_rfl) (Nat.le_of_ble_eq_true rfl) (drvC d A) rfl ?_))
    refine name_calls fun W hW => ?_
    have bW : Below w.heap.size w W := by rw [hW]; exact b0
    have h1 : W.heap[w.heap.size]? = some (.cells (drvC d A) 46 (0, 0)) := by rw [hW]; exact H0
    have h2 : W.heap[w.heap.size + 1]? = some (.cells (drvC zDrv zDrvA) 46 (0, 0)) := by rw [hW]; exact G0
    have zW : w.heap.size + 2 ≤ W.heap.size := by rw [hW]; simp
    clear hW b0 H0 G0
    refine (specDriverValid_any d A W (hm.below bW) hl).mono ?_
    rintro e w_1 ⟨rfl, b_2⟩
    have zw_1 := b_2.size
    have B_3 := bW.trans (b_2.mono bW.size)
    have H_4 := (b_2.block _ (box_lt h1)).trans h1
    have H_5 := (b_2.block _ (box_lt h2)).trans h2
    go_wp2_with fail
    refine (l4Bytes_any al ls cl w_1 (Ints.below hs B_3) (by omega)).mono ?_
    rintro e w_6 ⟨rfl, b_7⟩
    have zw_6 := b_7.size
    have B_8 := B_3.trans (b_7.mono B_3.size)
    have H_9 := (b_7.block _ (box_lt H_4)).trans H_4
    have H_10 := (b_7.block _ (box_lt H_5)).trans H_5
    have c_11 := box_cell H_9 19 (v := .slice A.ao d.o.length A.co) rfl
    have lc_11 := box_lt H_9
    go_wp2_with (first
      | (refine wpList_store_any _ rfl rfl (by rfl) (b := w.heap.size + 1) (off := 0) (n := 22) rfl rfl (vs := (drvC zDrv zDrvA)) rfl H_10 (by kernel_rfl) rfl rfl (Nat.le_of_ble_eq_true rfl) ((drvC zDrv zDrvA)) rfl ?_
         intro w_12 H_13 g_14
         have zw_12 := g_14.size
         have B_15 := below_only B_8 g_14 (by omega)
         have H_16 := box_only' H_9 g_14 (by omega)
         skip))
    refine bodyPost_ret (results_cell2 Try.results21 rfl rfl (load_box (P := Try.prog) H_13 Try.underlying46 (by kernel_rfl) rfl)) rfl ?_
    exact ⟨zDrvA, rfl, zDrvO _ _, zDrvS, B_15⟩
  by_cases hn : (32 : Int) < (d.o.length : Int) + (ls.length : Int)
  · have HR := Lib.hid (sendR_no (d := d) (ls := ls) (by simp only [sendB, decide_eq_false (show ¬ (d.o.length : Int) + (ls.length : Int) ≤ 32 by omega), Bool.and_false]))
    rw [HR.out]
    have b0 : Below w.heap.size w ((w.alloc (.cells (drvC d A) 46)).alloc (.cells (drvC zDrv zDrvA) 46)) := ((Below.refl _ _).alloc (Nat.le_refl _) _).alloc (by simp) _
    have H0 := box_alloc (heap_new_at w (.cells (drvC d A) 46) _ rfl) (.cells (drvC zDrv zDrvA) 46)
    have G0 := heap_new_at (w.alloc (.cells (drvC d A) 46)) (.cells (drvC zDrv zDrvA) 46) (w.heap.size + 1) (by simp)
    go_enter Try.func21, Try.ntmps21
    go_wp2_with (first
      | (refine wpList_load_box _ rfl (by rfl) (b := w.heap.size) (off := 0) (n := 22) rfl H0 Try.underlying46 (by kernel_rfl) (Nat.le_of_ble_eq_true rfl) (drvC d A) rfl ?_))
    refine name_calls fun W hW => ?_
    have bW : Below w.heap.size w W := by rw [hW]; exact b0
    have h1 : W.heap[w.heap.size]? = some (.cells (drvC d A) 46 (0, 0)) := by rw [hW]; exact H0
    have h2 : W.heap[w.heap.size + 1]? = some (.cells (drvC zDrv zDrvA) 46 (0, 0)) := by rw [hW]; exact G0
    have zW : w.heap.size + 2 ≤ W.heap.size := by rw [hW]; simp
    clear hW b0 H0 G0
    refine (specDriverValid_any d A W (hm.below bW) hl).mono ?_
    rintro e w_1 ⟨rfl, b_2⟩
    have zw_1 := b_2.size
    have B_3 := bW.trans (b_2.mono bW.size)
    have H_4 := (b_2.block _ (box_lt h1)).trans h1
    have H_5 := (b_2.block _ (box_lt h2)).trans h2
    go_wp2_with fail
    refine (l4Bytes_any al ls cl w_1 (Ints.below hs B_3) (by omega)).mono ?_
    rintro e w_6 ⟨rfl, b_7⟩
    have zw_6 := b_7.size
    have B_8 := B_3.trans (b_7.mono B_3.size)
    have H_9 := (b_7.block _ (box_lt H_4)).trans H_4
    have H_10 := (b_7.block _ (box_lt H_5)).trans H_5
    have c_11 := box_cell H_9 19 (v := .slice A.ao d.o.length A.co) rfl
    have lc_11 := box_lt H_9
    go_wp2_with (first
      | (refine wpList_store_any _ rfl rfl (by rfl) (b := w.heap.size + 1) (off := 0) (n := 22) rfl rfl (vs := (drvC zDrv zDrvA)) rfl H_10 (by kernel_rfl) rfl rfl (Nat.le_of_ble_eq_true rfl) ((drvC zDrv zDrvA)) rfl ?_
         intro w_12 H_13 g_14
         have zw_12 := g_14.size
         have B_15 := below_only B_8 g_14 (by omega)
         have H_16 := box_only' H_9 g_14 (by omega)
         skip))
    refine bodyPost_ret (results_cell2 Try.results21 rfl rfl (load_box (P := Try.prog) H_13 Try.underlying46 (by kernel_rfl) rfl)) rfl ?_
    exact ⟨zDrvA, rfl, zDrvO _ _, zDrvS, B_15⟩
  have hnd : decide ((32 : Int) < (d.o.length : Int) + (ls.length : Int)) = false := by simpa using hn
  have hn' : (d.o.length : Int) + (ls.length : Int) ≤ 32 := by omega
  clear hn
  have hsb : sendB d ls = true := by simp only [sendB, hv, hby, decide_eq_true hn', Bool.and_true]
  have hlen := drvB_len hv
  have hlg := hlen.1
  have hen := drvB_en hv
  have he0 := hen.1
  have he1 := hen.2.1
  have HLA := Lib.hid (show (d.o ++ ls).length = d.o.length + ls.length from List.length_append)
  obtain ⟨OL, hOL⟩ : ∃ OL : List Int, OL = d.o ++ ls := ⟨_, rfl⟩
  have HOL := Lib.hid hOL
  have HX := Lib.hid ((congrArg List.length hOL).trans HLA.out)
  clear hOL hen
  by_cases hz : d.o.length + ls.length = 0
  · have HR := Lib.hid (sendR_yes (en := d.p.en) hsb (by simp only [sendE, if_pos hz]))
    have hpz : decide (0 < OL.length) = false := decide_eq_false (by have := HX.out; omega)
    replace hz := Lib.hid hz
    have b0 : Below w.heap.size w ((w.alloc (.cells (drvC d A) 46)).alloc (.cells (drvC zDrv zDrvA) 46)) := ((Below.refl _ _).alloc (Nat.le_refl _) _).alloc (by simp) _
    have H0 := box_alloc (heap_new_at w (.cells (drvC d A) 46) _ rfl) (.cells (drvC zDrv zDrvA) 46)
    have G0 := heap_new_at (w.alloc (.cells (drvC d A) 46)) (.cells (drvC zDrv zDrvA) 46) (w.heap.size + 1) (by simp)
    go_enter Try.func21, Try.ntmps21
    go_wp2_with (first
      | (refine wpList_load_box _ rfl (by rfl) (b := w.heap.size) (off := 0) (n := 22) rfl H0 Try.underlying46 (by kernel_rfl) (Nat.le_of_ble_eq_true rfl) (drvC d A) rfl ?_))
    refine name_calls fun W hW => ?_
    have bW : Below w.heap.size w W := by rw [hW]; exact b0
    have h1 : W.heap[w.heap.size]? = some (.cells (drvC d A) 46 (0, 0)) := by rw [hW]; exact H0
    have h2 : W.heap[w.heap.size + 1]? = some (.cells (drvC zDrv zDrvA) 46 (0, 0)) := by rw [hW]; exact G0
    have zW : w.heap.size + 2 ≤ W.heap.size := by rw [hW]; simp
    clear hW b0 H0 G0
    refine (specDriverValid_any d A W (hm.below bW) hl).mono ?_
    rintro e w_1 ⟨rfl, b_2⟩
    have zw_1 := b_2.size
    have B_3 := bW.trans (b_2.mono bW.size)
    have H_4 := (b_2.block _ (box_lt h1)).trans h1
    have H_5 := (b_2.block _ (box_lt h2)).trans h2
    go_wp2_with fail
    refine (l4Bytes_any al ls cl w_1 (Ints.below hs B_3) (by omega)).mono ?_
    rintro e w_6 ⟨rfl, b_7⟩
    have zw_6 := b_7.size
    have B_8 := B_3.trans (b_7.mono B_3.size)
    have H_9 := (b_7.block _ (box_lt H_4)).trans H_4
    have H_10 := (b_7.block _ (box_lt H_5)).trans H_5
    have c_11 := box_cell H_9 19 (v := .slice A.ao d.o.length A.co) rfl
    have lc_11 := box_lt H_9
    go_wp2_with (first
      | (refine wpList_load_box _ rfl (by rfl) (b := w.heap.size) (off := 0) (n := 22) rfl H_9 Try.underlying46 (by kernel_rfl) (Nat.le_of_ble_eq_true rfl) (drvC d A) rfl ?_
         skip))
    refine (l21Copy_any d A w_6 (hm.below B_8) hl (by omega) hN).mono ?_
    rintro e w_12 ⟨⟨⟨ax, cx, ay, cy⟩, ai, ci, ao, co⟩, rfl, DO, b_13⟩
    have zw_12 := b_13.size
    have B_14 := B_8.trans (b_13.mono B_8.size)
    have H_15 := (b_13.block _ (box_lt H_9)).trans H_9
    have H_16 := (b_13.block _ (box_lt H_10)).trans H_10
    obtain ⟨⟨Ox, Oy, Oi, _⟩, apyi, B2, hB1, hB2, inX, inY, inI, Oo⟩ := DO
    dsimp only at Ox Oy Oi apyi inX inY inI Oo
    go_wp2_with (first
      | (refine wpList_store_any _ rfl rfl (by rfl) (b := w_12.heap.size) (off := 0) (n := 22) rfl rfl (vs := (drvC d ⟨⟨ax, cx, ay, cy⟩, ai, ci, ao, co⟩)) rfl (heap_new_at w_12 (.cells (drvC zDrv zDrvA) 46) _ rfl) (by kernel_rfl) rfl rfl (Nat.le_of_ble_eq_true rfl) ((drvC d ⟨⟨ax, cx, ay, cy⟩, ai, ci, ao, co⟩)) rfl ?_
         intro w_17 H_18 g_19
         have b_20 : Below w_12.heap.size w_12 w_17 := below_only ((Below.refl _ _).alloc (Nat.le_refl _) _) g_19 (Nat.le_refl _)
         have zw_17 := b_20.size
         have B_21 := B_14.trans (b_20.mono B_14.size)
         have lH_18 := box_lt H_18
         have H_22 := (b_20.block _ (box_lt H_15)).trans H_15
         have H_23 := (b_20.block _ (box_lt H_16)).trans H_16
         have o_24 := own_below Ox b_20
         have o_25 := own_below Oy b_20
         have o_26 := own_below Oi b_20
         have o_27 := own_below Oo b_20
         have c_28 := box_cell H_18 19 (v := .slice ao d.o.length co) rfl
         have lc_28 := box_lt H_18
         skip)
      | (at_builtin
         refine wpList_append_row w_17 rfl _ _ _ rfl B2 3 _ 1 8 Try.underlying27 int_info rfl (by decide) ao (d.o.length) co (d.o.map (Value.int .i64)) (by rfl) o_27 al (ls.length) cl (ls.map (Value.int .i64)) (by rfl) (Ints.below hs B_21) (by simp) (ints_one _) hcl (by simp only [maxLen]; omega) (by omega) (by omega) ?_
         intro a_29 c_30 w_31 o_32 hg
         have H_34 := box_grow H_22 hg (own_block_of (own_box_ne o_27 H_22 (by decide)))
         have H_35 := box_grow H_23 hg (own_block_of (own_box_ne o_27 H_23 (by decide)))
         have H_36 := box_grow H_18 hg (own_block_of (own_box_ne o_27 H_18 (by decide)))
         have o_37 := own_apart o_24 inX (own_in o_27) (.inl (Nat.le_refl _)) hg
         have o_38 := own_apart o_25 inY (own_in o_27) (.inl (Nat.le_refl _)) hg
         have o_39 := own_apart o_26 inI (own_in o_27) (.inl (Nat.le_refl _)) hg
         have B_33 := below_append (B := w.heap.size) B_21 (own_base o_27 (by omega)) hg B_21.size
         have zw_31 := hg.size
         clear hg
         skip)
      | (refine wpList_store_any _ rfl rfl (by rfl) (b := w_12.heap.size) (off := 19) (n := 1) rfl rfl (vs := #[.slice a_29 (d.o.length + ls.length) c_30]) rfl H_36 (by kernel_rfl) rfl rfl (Nat.le_of_ble_eq_true rfl) (#[.int .i64 d.p.b, .int .i64 d.p.p, .int .i64 d.p.s, .int .i64 d.p.en, .int .i64 d.p.co, .int .i64 d.p.r, .int .i64 d.p.t, .slice ax d.p.gs.length cx, .bool d.p.l, .int .i64 d.p.ag, .int .i64 d.p.sr, .slice ay d.p.ys.length cy, .int .i64 d.p.sh, .int .i64 d.p.sl, .bool d.p.m1, .bool d.p.m2, .bool d.p.m3, .bool d.p.m4, .slice ai d.i.length ci, .slice a_29 (d.o.length + ls.length) c_30, .int .i64 d.wr, .int .i64 d.lo]) rfl ?_
         intro w_40 H_41 g_42
         have zw_40 := g_42.size
         have B_43 := below_only B_33 g_42 (by omega)
         have H_44 := box_only' H_34 g_42 (by omega)
         have H_45 := box_only' H_35 g_42 (by omega)
         have o_46 := own_ty o_37 H_36 (by decide) g_42
         have o_47 := own_ty o_38 H_36 (by decide) g_42
         have o_48 := own_ty o_39 H_36 (by decide) g_42
         have o_49 := own_ty o_32 H_36 (by decide) g_42
         have H_41d : w_40.heap[w_12.heap.size]? = some (.cells (drvC { d with o := OL } ⟨⟨ax, cx, ay, cy⟩, ai, ci, a_29, c_30⟩) 46 (0, 0)) := (by rw [H_41]; simp only [drvC, HX.out])
         have c_50 := box_cell H_41d 19 (v := .slice a_29 OL.length c_30) rfl
         have lc_50 := box_lt H_41d
         skip)
      | (refine wpList_load_box _ rfl (by rfl) (b := w_12.heap.size) (off := 0) (n := 22) rfl H_41d Try.underlying46 (by kernel_rfl) (Nat.le_of_ble_eq_true rfl) (drvC { d with o := OL } ⟨⟨ax, cx, ay, cy⟩, ai, ci, a_29, c_30⟩) rfl ?_
         skip)
      | (refine wpList_store_any _ rfl rfl (by rfl) (b := w.heap.size + 1) (off := 0) (n := 22) rfl rfl (vs := drvC { d with o := OL } ⟨⟨ax, cx, ay, cy⟩, ai, ci, a_29, c_30⟩) rfl H_45 (by kernel_rfl) rfl rfl (Nat.le_of_ble_eq_true rfl) (drvC { d with o := OL } ⟨⟨ax, cx, ay, cy⟩, ai, ci, a_29, c_30⟩) rfl ?_
         intro w_51 H_52 g_53
         have zw_51 := g_53.size
         have B_54 := below_only B_43 g_53 (by omega)
         have H_55 := box_only' H_44 g_53 (by omega)
         have H_56 := box_only' H_41d g_53 (by omega)
         have o_57 := own_ty o_46 H_45 (by decide) g_53
         have o_58 := own_ty o_47 H_45 (by decide) g_53
         have o_59 := own_ty o_48 H_45 (by decide) g_53
         have o_60 := own_ty o_49 H_45 (by decide) g_53
         skip))
    refine bodyPost_ret (results_cell2 (u := .bool true) Try.results21 rfl rfl (load_box (P := Try.prog) H_52 Try.underlying46 (by kernel_rfl) rfl)) rfl ?_
    have HR3 := HR.out
    rw [← HOL.out] at HR3
    rw [HR3]
    refine ⟨⟨⟨ax, cx, ay, cy⟩, ai, ci, a_29, c_30⟩, rfl, ⟨own_base o_57 (by omega), own_base o_58 (by omega), own_base o_59 (by omega), ?_⟩, ⟨apyi, inY.apart (own_in o_60) (.inl (Nat.le_refl _)), inI.apart (own_in o_60) (.inl (Nat.le_refl _))⟩, B_54⟩
    have := own_base (base' := w.heap.size) o_60 (by omega); unfold OwnI; dsimp only; rw [HX.out, HOL.out, List.map_append]; exact this
  have hpos : (0 : Int) < (OL.length : Int) := by rw [HX.out]; omega
  by_cases hbit : d.p.en / 2 % 2 = 1
  · have HR := Lib.hid (sendR_yes (en := d.p.en) hsb (by simp only [sendE, if_neg hz, enP, if_pos hbit]))
    have b0 : Below w.heap.size w ((w.alloc (.cells (drvC d A) 46)).alloc (.cells (drvC zDrv zDrvA) 46)) := ((Below.refl _ _).alloc (Nat.le_refl _) _).alloc (by simp) _
    have H0 := box_alloc (heap_new_at w (.cells (drvC d A) 46) _ rfl) (.cells (drvC zDrv zDrvA) 46)
    have G0 := heap_new_at (w.alloc (.cells (drvC d A) 46)) (.cells (drvC zDrv zDrvA) 46) (w.heap.size + 1) (by simp)
    go_enter Try.func21, Try.ntmps21
    go_wp2_with (first
      | (refine wpList_load_box _ rfl (by rfl) (b := w.heap.size) (off := 0) (n := 22) rfl H0 Try.underlying46 (by kernel_rfl) (Nat.le_of_ble_eq_true rfl) (drvC d A) rfl ?_))
    refine name_calls fun W hW => ?_
    have bW : Below w.heap.size w W := by rw [hW]; exact b0
    have h1 : W.heap[w.heap.size]? = some (.cells (drvC d A) 46 (0, 0)) := by rw [hW]; exact H0
    have h2 : W.heap[w.heap.size + 1]? = some (.cells (drvC zDrv zDrvA) 46 (0, 0)) := by rw [hW]; exact G0
    have zW : w.heap.size + 2 ≤ W.heap.size := by rw [hW]; simp
    clear hW b0 H0 G0
    refine (specDriverValid_any d A W (hm.below bW) hl).mono ?_
    rintro e w_1 ⟨rfl, b_2⟩
    have zw_1 := b_2.size
    have B_3 := bW.trans (b_2.mono bW.size)
    have H_4 := (b_2.block _ (box_lt h1)).trans h1
    have H_5 := (b_2.block _ (box_lt h2)).trans h2
    go_wp2_with fail
    refine (l4Bytes_any al ls cl w_1 (Ints.below hs B_3) (by omega)).mono ?_
    rintro e w_6 ⟨rfl, b_7⟩
    have zw_6 := b_7.size
    have B_8 := B_3.trans (b_7.mono B_3.size)
    have H_9 := (b_7.block _ (box_lt H_4)).trans H_4
    have H_10 := (b_7.block _ (box_lt H_5)).trans H_5
    have c_11 := box_cell H_9 19 (v := .slice A.ao d.o.length A.co) rfl
    have lc_11 := box_lt H_9
    go_wp2_with (first
      | (refine wpList_load_box _ rfl (by rfl) (b := w.heap.size) (off := 0) (n := 22) rfl H_9 Try.underlying46 (by kernel_rfl) (Nat.le_of_ble_eq_true rfl) (drvC d A) rfl ?_
         skip))
    refine (l21Copy_any d A w_6 (hm.below B_8) hl (by omega) hN).mono ?_
    rintro e w_12 ⟨⟨⟨ax, cx, ay, cy⟩, ai, ci, ao, co⟩, rfl, DO, b_13⟩
    have zw_12 := b_13.size
    have B_14 := B_8.trans (b_13.mono B_8.size)
    have H_15 := (b_13.block _ (box_lt H_9)).trans H_9
    have H_16 := (b_13.block _ (box_lt H_10)).trans H_10
    obtain ⟨⟨Ox, Oy, Oi, _⟩, apyi, B2, hB1, hB2, inX, inY, inI, Oo⟩ := DO
    dsimp only at Ox Oy Oi apyi inX inY inI Oo
    go_wp2_with (first
      | (refine wpList_store_any _ rfl rfl (by rfl) (b := w_12.heap.size) (off := 0) (n := 22) rfl rfl (vs := (drvC d ⟨⟨ax, cx, ay, cy⟩, ai, ci, ao, co⟩)) rfl (heap_new_at w_12 (.cells (drvC zDrv zDrvA) 46) _ rfl) (by kernel_rfl) rfl rfl (Nat.le_of_ble_eq_true rfl) ((drvC d ⟨⟨ax, cx, ay, cy⟩, ai, ci, ao, co⟩)) rfl ?_
         intro w_17 H_18 g_19
         have b_20 : Below w_12.heap.size w_12 w_17 := below_only ((Below.refl _ _).alloc (Nat.le_refl _) _) g_19 (Nat.le_refl _)
         have zw_17 := b_20.size
         have B_21 := B_14.trans (b_20.mono B_14.size)
         have lH_18 := box_lt H_18
         have H_22 := (b_20.block _ (box_lt H_15)).trans H_15
         have H_23 := (b_20.block _ (box_lt H_16)).trans H_16
         have o_24 := own_below Ox b_20
         have o_25 := own_below Oy b_20
         have o_26 := own_below Oi b_20
         have o_27 := own_below Oo b_20
         have c_28 := box_cell H_18 19 (v := .slice ao d.o.length co) rfl
         have lc_28 := box_lt H_18
         skip)
      | (at_builtin
         refine wpList_append_row w_17 rfl _ _ _ rfl B2 3 _ 1 8 Try.underlying27 int_info rfl (by decide) ao (d.o.length) co (d.o.map (Value.int .i64)) (by rfl) o_27 al (ls.length) cl (ls.map (Value.int .i64)) (by rfl) (Ints.below hs B_21) (by simp) (ints_one _) hcl (by simp only [maxLen]; omega) (by omega) (by omega) ?_
         intro a_29 c_30 w_31 o_32 hg
         have H_34 := box_grow H_22 hg (own_block_of (own_box_ne o_27 H_22 (by decide)))
         have H_35 := box_grow H_23 hg (own_block_of (own_box_ne o_27 H_23 (by decide)))
         have H_36 := box_grow H_18 hg (own_block_of (own_box_ne o_27 H_18 (by decide)))
         have o_37 := own_apart o_24 inX (own_in o_27) (.inl (Nat.le_refl _)) hg
         have o_38 := own_apart o_25 inY (own_in o_27) (.inl (Nat.le_refl _)) hg
         have o_39 := own_apart o_26 inI (own_in o_27) (.inl (Nat.le_refl _)) hg
         have B_33 := below_append (B := w.heap.size) B_21 (own_base o_27 (by omega)) hg B_21.size
         have zw_31 := hg.size
         clear hg
         skip)
      | (refine wpList_store_any _ rfl rfl (by rfl) (b := w_12.heap.size) (off := 19) (n := 1) rfl rfl (vs := #[.slice a_29 (d.o.length + ls.length) c_30]) rfl H_36 (by kernel_rfl) rfl rfl (Nat.le_of_ble_eq_true rfl) (#[.int .i64 d.p.b, .int .i64 d.p.p, .int .i64 d.p.s, .int .i64 d.p.en, .int .i64 d.p.co, .int .i64 d.p.r, .int .i64 d.p.t, .slice ax d.p.gs.length cx, .bool d.p.l, .int .i64 d.p.ag, .int .i64 d.p.sr, .slice ay d.p.ys.length cy, .int .i64 d.p.sh, .int .i64 d.p.sl, .bool d.p.m1, .bool d.p.m2, .bool d.p.m3, .bool d.p.m4, .slice ai d.i.length ci, .slice a_29 (d.o.length + ls.length) c_30, .int .i64 d.wr, .int .i64 d.lo]) rfl ?_
         intro w_40 H_41 g_42
         have zw_40 := g_42.size
         have B_43 := below_only B_33 g_42 (by omega)
         have H_44 := box_only' H_34 g_42 (by omega)
         have H_45 := box_only' H_35 g_42 (by omega)
         have o_46 := own_ty o_37 H_36 (by decide) g_42
         have o_47 := own_ty o_38 H_36 (by decide) g_42
         have o_48 := own_ty o_39 H_36 (by decide) g_42
         have o_49 := own_ty o_32 H_36 (by decide) g_42
         have H_41d : w_40.heap[w_12.heap.size]? = some (.cells (drvC { d with o := OL } ⟨⟨ax, cx, ay, cy⟩, ai, ci, a_29, c_30⟩) 46 (0, 0)) := (by rw [H_41]; simp only [drvC, HX.out])
         have c_50 := box_cell H_41d 19 (v := .slice a_29 OL.length c_30) rfl
         have lc_50 := box_lt H_41d
         have c_51 := box_cell H_41d 3 (v := .int .i64 d.p.en) rfl
         have lc_51 := box_lt H_41d
         skip))
    refine (l13Bit2_any d.p.en _ he0 (by omega)).mono ?_
    rintro e wl ⟨rfl, rfl⟩
    go_wp2_with (first
      | (refine wpList_load_box _ rfl (by rfl) (b := w_12.heap.size) (off := 0) (n := 22) rfl H_41d Try.underlying46 (by kernel_rfl) (Nat.le_of_ble_eq_true rfl) (drvC { d with p := { d.p with en := d.p.en }, o := OL } ⟨⟨ax, cx, ay, cy⟩, ai, ci, a_29, c_30⟩) rfl ?_
         skip)
      | (refine wpList_store_any _ rfl rfl (by rfl) (b := w.heap.size + 1) (off := 0) (n := 22) rfl rfl (vs := drvC { d with p := { d.p with en := d.p.en }, o := OL } ⟨⟨ax, cx, ay, cy⟩, ai, ci, a_29, c_30⟩) rfl H_45 (by kernel_rfl) rfl rfl (Nat.le_of_ble_eq_true rfl) (drvC { d with p := { d.p with en := d.p.en }, o := OL } ⟨⟨ax, cx, ay, cy⟩, ai, ci, a_29, c_30⟩) rfl ?_
         intro w_52 H_53 g_54
         have zw_52 := g_54.size
         have B_55 := below_only B_43 g_54 (by omega)
         have H_56 := box_only' H_44 g_54 (by omega)
         have H_57 := box_only' H_41d g_54 (by omega)
         have o_58 := own_ty o_46 H_45 (by decide) g_54
         have o_59 := own_ty o_47 H_45 (by decide) g_54
         have o_60 := own_ty o_48 H_45 (by decide) g_54
         have o_61 := own_ty o_49 H_45 (by decide) g_54
         skip))
    refine bodyPost_ret (results_cell2 (u := .bool true) Try.results21 rfl rfl (load_box (P := Try.prog) H_53 Try.underlying46 (by kernel_rfl) rfl)) rfl ?_
    have HR3 := HR.out
    rw [← HOL.out] at HR3
    rw [HR3]
    refine ⟨⟨⟨ax, cx, ay, cy⟩, ai, ci, a_29, c_30⟩, rfl, ⟨own_base o_58 (by omega), own_base o_59 (by omega), own_base o_60 (by omega), ?_⟩, ⟨apyi, inY.apart (own_in o_61) (.inl (Nat.le_refl _)), inI.apart (own_in o_61) (.inl (Nat.le_refl _))⟩, B_55⟩
    have := own_base (base' := w.heap.size) o_61 (by omega); unfold OwnI; dsimp only; rw [HX.out, HOL.out, List.map_append]; exact this
  have HR := Lib.hid (sendR_yes (en := d.p.en + 2) hsb (by simp only [sendE, if_neg hz, enP, if_neg hbit]))
  have hbd : decide (d.p.en / 2 % 2 = 1) = false := by simpa using hbit
  have hen2 : IntKind.i64.wrap (d.p.en + 2) = d.p.en + 2 := IntWalk.i64_in _ (by omega)
  clear hbit
  have b0 : Below w.heap.size w ((w.alloc (.cells (drvC d A) 46)).alloc (.cells (drvC zDrv zDrvA) 46)) := ((Below.refl _ _).alloc (Nat.le_refl _) _).alloc (by simp) _
  have H0 := box_alloc (heap_new_at w (.cells (drvC d A) 46) _ rfl) (.cells (drvC zDrv zDrvA) 46)
  have G0 := heap_new_at (w.alloc (.cells (drvC d A) 46)) (.cells (drvC zDrv zDrvA) 46) (w.heap.size + 1) (by simp)
  go_enter Try.func21, Try.ntmps21
  go_wp2_with (first
    | (refine wpList_load_box _ rfl (by rfl) (b := w.heap.size) (off := 0) (n := 22) rfl H0 Try.underlying46 (by kernel_rfl) (Nat.le_of_ble_eq_true rfl) (drvC d A) rfl ?_))
  refine name_calls fun W hW => ?_
  have bW : Below w.heap.size w W := by rw [hW]; exact b0
  have h1 : W.heap[w.heap.size]? = some (.cells (drvC d A) 46 (0, 0)) := by rw [hW]; exact H0
  have h2 : W.heap[w.heap.size + 1]? = some (.cells (drvC zDrv zDrvA) 46 (0, 0)) := by rw [hW]; exact G0
  have zW : w.heap.size + 2 ≤ W.heap.size := by rw [hW]; simp
  clear hW b0 H0 G0
  refine (specDriverValid_any d A W (hm.below bW) hl).mono ?_
  rintro e w_1 ⟨rfl, b_2⟩
  have zw_1 := b_2.size
  have B_3 := bW.trans (b_2.mono bW.size)
  have H_4 := (b_2.block _ (box_lt h1)).trans h1
  have H_5 := (b_2.block _ (box_lt h2)).trans h2
  go_wp2_with fail
  refine (l4Bytes_any al ls cl w_1 (Ints.below hs B_3) (by omega)).mono ?_
  rintro e w_6 ⟨rfl, b_7⟩
  have zw_6 := b_7.size
  have B_8 := B_3.trans (b_7.mono B_3.size)
  have H_9 := (b_7.block _ (box_lt H_4)).trans H_4
  have H_10 := (b_7.block _ (box_lt H_5)).trans H_5
  have c_11 := box_cell H_9 19 (v := .slice A.ao d.o.length A.co) rfl
  have lc_11 := box_lt H_9
  go_wp2_with (first
    | (refine wpList_load_box _ rfl (by rfl) (b := w.heap.size) (off := 0) (n := 22) rfl H_9 Try.underlying46 (by kernel_rfl) (Nat.le_of_ble_eq_true rfl) (drvC d A) rfl ?_
       skip))
  refine (l21Copy_any d A w_6 (hm.below B_8) hl (by omega) hN).mono ?_
  rintro e w_12 ⟨⟨⟨ax, cx, ay, cy⟩, ai, ci, ao, co⟩, rfl, DO, b_13⟩
  have zw_12 := b_13.size
  have B_14 := B_8.trans (b_13.mono B_8.size)
  have H_15 := (b_13.block _ (box_lt H_9)).trans H_9
  have H_16 := (b_13.block _ (box_lt H_10)).trans H_10
  obtain ⟨⟨Ox, Oy, Oi, _⟩, apyi, B2, hB1, hB2, inX, inY, inI, Oo⟩ := DO
  dsimp only at Ox Oy Oi apyi inX inY inI Oo
  go_wp2_with (first
    | (refine wpList_store_any _ rfl rfl (by rfl) (b := w_12.heap.size) (off := 0) (n := 22) rfl rfl (vs := (drvC d ⟨⟨ax, cx, ay, cy⟩, ai, ci, ao, co⟩)) rfl (heap_new_at w_12 (.cells (drvC zDrv zDrvA) 46) _ rfl) (by kernel_rfl) rfl rfl (Nat.le_of_ble_eq_true rfl) ((drvC d ⟨⟨ax, cx, ay, cy⟩, ai, ci, ao, co⟩)) rfl ?_
       intro w_17 H_18 g_19
       have b_20 : Below w_12.heap.size w_12 w_17 := below_only ((Below.refl _ _).alloc (Nat.le_refl _) _) g_19 (Nat.le_refl _)
       have zw_17 := b_20.size
       have B_21 := B_14.trans (b_20.mono B_14.size)
       have lH_18 := box_lt H_18
       have H_22 := (b_20.block _ (box_lt H_15)).trans H_15
       have H_23 := (b_20.block _ (box_lt H_16)).trans H_16
       have o_24 := own_below Ox b_20
       have o_25 := own_below Oy b_20
       have o_26 := own_below Oi b_20
       have o_27 := own_below Oo b_20
       have c_28 := box_cell H_18 19 (v := .slice ao d.o.length co) rfl
       have lc_28 := box_lt H_18
       skip)
    | (at_builtin
       refine wpList_append_row w_17 rfl _ _ _ rfl B2 3 _ 1 8 Try.underlying27 int_info rfl (by decide) ao (d.o.length) co (d.o.map (Value.int .i64)) (by rfl) o_27 al (ls.length) cl (ls.map (Value.int .i64)) (by rfl) (Ints.below hs B_21) (by simp) (ints_one _) hcl (by simp only [maxLen]; omega) (by omega) (by omega) ?_
       intro a_29 c_30 w_31 o_32 hg
       have H_34 := box_grow H_22 hg (own_block_of (own_box_ne o_27 H_22 (by decide)))
       have H_35 := box_grow H_23 hg (own_block_of (own_box_ne o_27 H_23 (by decide)))
       have H_36 := box_grow H_18 hg (own_block_of (own_box_ne o_27 H_18 (by decide)))
       have o_37 := own_apart o_24 inX (own_in o_27) (.inl (Nat.le_refl _)) hg
       have o_38 := own_apart o_25 inY (own_in o_27) (.inl (Nat.le_refl _)) hg
       have o_39 := own_apart o_26 inI (own_in o_27) (.inl (Nat.le_refl _)) hg
       have B_33 := below_append (B := w.heap.size) B_21 (own_base o_27 (by omega)) hg B_21.size
       have zw_31 := hg.size
       clear hg
       skip)
    | (refine wpList_store_any _ rfl rfl (by rfl) (b := w_12.heap.size) (off := 19) (n := 1) rfl rfl (vs := #[.slice a_29 (d.o.length + ls.length) c_30]) rfl H_36 (by kernel_rfl) rfl rfl (Nat.le_of_ble_eq_true rfl) (#[.int .i64 d.p.b, .int .i64 d.p.p, .int .i64 d.p.s, .int .i64 d.p.en, .int .i64 d.p.co, .int .i64 d.p.r, .int .i64 d.p.t, .slice ax d.p.gs.length cx, .bool d.p.l, .int .i64 d.p.ag, .int .i64 d.p.sr, .slice ay d.p.ys.length cy, .int .i64 d.p.sh, .int .i64 d.p.sl, .bool d.p.m1, .bool d.p.m2, .bool d.p.m3, .bool d.p.m4, .slice ai d.i.length ci, .slice a_29 (d.o.length + ls.length) c_30, .int .i64 d.wr, .int .i64 d.lo]) rfl ?_
       intro w_40 H_41 g_42
       have zw_40 := g_42.size
       have B_43 := below_only B_33 g_42 (by omega)
       have H_44 := box_only' H_34 g_42 (by omega)
       have H_45 := box_only' H_35 g_42 (by omega)
       have o_46 := own_ty o_37 H_36 (by decide) g_42
       have o_47 := own_ty o_38 H_36 (by decide) g_42
       have o_48 := own_ty o_39 H_36 (by decide) g_42
       have o_49 := own_ty o_32 H_36 (by decide) g_42
       have H_41d : w_40.heap[w_12.heap.size]? = some (.cells (drvC { d with o := OL } ⟨⟨ax, cx, ay, cy⟩, ai, ci, a_29, c_30⟩) 46 (0, 0)) := (by rw [H_41]; simp only [drvC, HX.out])
       have c_50 := box_cell H_41d 19 (v := .slice a_29 OL.length c_30) rfl
       have lc_50 := box_lt H_41d
       have c_51 := box_cell H_41d 3 (v := .int .i64 d.p.en) rfl
       have lc_51 := box_lt H_41d
       skip))
  refine (l13Bit2_any d.p.en _ he0 (by omega)).mono ?_
  rintro e wl ⟨rfl, rfl⟩
  go_wp2_with (first
    | (refine wpList_store_any _ rfl rfl (by rfl) (b := w_12.heap.size) (off := 3) (n := 1) rfl rfl (vs := #[.int .i64 (d.p.en + 2)]) rfl H_41d (by kernel_rfl) rfl rfl (Nat.le_of_ble_eq_true rfl) (drvC { d with p := { d.p with en := (d.p.en + 2) }, o := OL } ⟨⟨ax, cx, ay, cy⟩, ai, ci, a_29, c_30⟩) rfl ?_
       intro w_52 H_53 g_54
       have zw_52 := g_54.size
       have B_55 := below_only B_43 g_54 (by omega)
       have H_56 := box_only' H_44 g_54 (by omega)
       have H_57 := box_only' H_45 g_54 (by omega)
       have o_58 := own_ty o_46 H_41d (by decide) g_54
       have o_59 := own_ty o_47 H_41d (by decide) g_54
       have o_60 := own_ty o_48 H_41d (by decide) g_54
       have o_61 := own_ty o_49 H_41d (by decide) g_54
       skip)
    | (refine wpList_load_box _ rfl (by rfl) (b := w_12.heap.size) (off := 0) (n := 22) rfl H_53 Try.underlying46 (by kernel_rfl) (Nat.le_of_ble_eq_true rfl) (drvC { d with p := { d.p with en := (d.p.en + 2) }, o := OL } ⟨⟨ax, cx, ay, cy⟩, ai, ci, a_29, c_30⟩) rfl ?_
       skip)
    | (refine wpList_store_any _ rfl rfl (by rfl) (b := w.heap.size + 1) (off := 0) (n := 22) rfl rfl (vs := drvC { d with p := { d.p with en := (d.p.en + 2) }, o := OL } ⟨⟨ax, cx, ay, cy⟩, ai, ci, a_29, c_30⟩) rfl H_57 (by kernel_rfl) rfl rfl (Nat.le_of_ble_eq_true rfl) (drvC { d with p := { d.p with en := (d.p.en + 2) }, o := OL } ⟨⟨ax, cx, ay, cy⟩, ai, ci, a_29, c_30⟩) rfl ?_
       intro w_62 H_63 g_64
       have zw_62 := g_64.size
       have B_65 := below_only B_55 g_64 (by omega)
       have H_66 := box_only' H_56 g_64 (by omega)
       have H_67 := box_only' H_53 g_64 (by omega)
       have o_68 := own_ty o_58 H_57 (by decide) g_64
       have o_69 := own_ty o_59 H_57 (by decide) g_64
       have o_70 := own_ty o_60 H_57 (by decide) g_64
       have o_71 := own_ty o_61 H_57 (by decide) g_64
       skip))
  refine bodyPost_ret (results_cell2 (u := .bool true) Try.results21 rfl rfl (load_box (P := Try.prog) H_63 Try.underlying46 (by kernel_rfl) rfl)) rfl ?_
  have HR3 := HR.out
  rw [← HOL.out] at HR3
  rw [HR3]
  refine ⟨⟨⟨ax, cx, ay, cy⟩, ai, ci, a_29, c_30⟩, rfl, ⟨own_base o_68 (by omega), own_base o_69 (by omega), own_base o_70 (by omega), ?_⟩, ⟨apyi, inY.apart (own_in o_71) (.inl (Nat.le_refl _)), inI.apart (own_in o_71) (.inl (Nat.le_refl _))⟩, B_65⟩
  have := own_base (base' := w.heap.size) o_71 (by omega); unfold OwnI; dsimp only; rw [HX.out, HOL.out, List.map_append]; exact this
end Go.Proofs.Ytkmampichfbppaa
