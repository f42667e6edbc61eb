/- Drivers are drawn. -/
import Derived.Test.YtkmampichfbppaaDrvDraw2
import Derived.Test.YtkmampichfbppaaDriver3
namespace Go.Proofs.Ytkmampichfbppaa
open Go.RowKit

/-- The state of a driver's draw. -/
structure QS (w W : World) (rb b M : Nat) (d : DrvD) (A : DrvA) : Prop where
  rl : rb < w.heap.size
  bl : w.heap.size < b
  R : Rd W rb M
  G : w.grownBy W (some rb)
  H0 : W.heap[w.heap.size]? = some (.cells (drvC zDrv zDrvA) 46 (0, 0))
  H : W.heap[b]? = some (.cells (drvC d A) 46 (0, 0))
  ox : OwnG W (w.heap.size + 1) A.p.ax A.p.cx d.p.gs
  oy : OwnI W (w.heap.size + 1) A.p.ay A.p.cy d.p.ys
  oi : OwnI W (w.heap.size + 1) A.ai A.ci d.i
  oo : OwnI W (w.heap.size + 1) A.ao A.co d.o
  lg : d.p.gs.length ≤ 6
  ly : d.p.ys.length ≤ 6
  li : d.i.length ≤ 32
  lo : d.o.length ≤ 32
  a1 : Apart A.ai A.p.ax
  a2 : Apart A.ai A.p.ay
  a3 : Apart A.ai A.ao
section
variable {w W W' : World} {rb b M M' : Nat} {d d' : DrvD} {A : DrvA}
theorem QS.pick (h : QS w W rb b M d A) (R' : Rd W' rb M') (g : W.grownBy W' (some rb)) : QS w W' rb b M' d A :=
  { rl := h.rl, bl := h.bl, R := R', G := only_trans h.G g, H0 := box_only h.H0 g h.rl, H := box_only h.H g (Nat.lt_trans h.rl h.bl), ox := own_low h.ox g (Nat.lt_succ_of_lt h.rl), oy := own_low h.oy g (Nat.lt_succ_of_lt h.rl), oi := own_low h.oi g (Nat.lt_succ_of_lt h.rl), oo := own_low h.oo g (Nat.lt_succ_of_lt h.rl), lg := h.lg, ly := h.ly, li := h.li, lo := h.lo, a1 := h.a1, a2 := h.a2, a3 := h.a3 }
theorem QS.alloc (h : QS w W rb b M d A) (ob : Obj) : QS w (W.alloc ob) rb b M d A :=
  { rl := h.rl, bl := h.bl, R := rd_alloc h.R ob, G := only_alloc h.G ob, H0 := box_alloc h.H0 ob, H := box_alloc h.H ob, ox := World.ownsRow.alloc h.ox ob, oy := World.ownsRow.alloc h.oy ob, oi := World.ownsRow.alloc h.oi ob, oo := World.ownsRow.alloc h.oo ob, lg := h.lg, ly := h.ly, li := h.li, lo := h.lo, a1 := h.a1, a2 := h.a2, a3 := h.a3 }
theorem QS.store (h : QS w W rb b M d A) (K : W'.heap[b]? = some (.cells (drvC d' A) 46 (0, 0))) (g : W.grownBy W' (some b)) (eg : d'.p.gs = d.p.gs) (ey : d'.p.ys = d.p.ys) (ei : d'.i = d.i) (eo : d'.o = d.o) : QS w W' rb b M d' A :=
  { rl := h.rl, bl := h.bl, R := h.R.grown g (fun k e => by injection e with e; have := h.rl; have := h.bl; omega), G := only_grown h.G g (fun k e => by injection e with e; have := h.bl; omega), H0 := box_only' h.H0 g (Nat.ne_of_lt h.bl), H := K, ox := by rw [eg]; exact own_ty h.ox h.H (by decide) g, oy := by rw [ey]; exact own_ty h.oy h.H (by decide) g, oi := by rw [ei]; exact own_ty h.oi h.H (by decide) g, oo := by rw [eo]; exact own_ty h.oo h.H (by decide) g, lg := by rw [eg]; exact h.lg, ly := by rw [ey]; exact h.ly, li := by rw [ei]; exact h.li, lo := by rw [eo]; exact h.lo, a1 := h.a1, a2 := h.a2, a3 := h.a3 }
theorem QS.mono (h : QS w W rb b M d A) (hM : M ≤ M') : QS w W rb b M' d A := { h with R := h.R.mono hM }
end
set_option maxHeartbeats 4000000 in
set_option maxRecDepth 100000 in
theorem l92Driver_any (rb m : Nat) (w : World) (h : Rd w rb m) (hm : m ≤ 500) :
    Calls Try.prog 47 #[.pointer (some ⟨rb, 0, none⟩)] w fun e w' => ∃ (d : DrvD) (A : DrvA), e = .returned (.agg (drvC d A)) ∧ d.p.gs.length ≤ 6 ∧ d.p.ys.length ≤ 6 ∧ d.i.length ≤ 33 ∧ d.o.length ≤ 32 ∧ DrvO w' w.heap.size d A ∧ Rd w' rb (m + 250) ∧ w.grownBy w' (some rb) := by
  have hrb := h.lt
  go_enter Try.func47, Try.ntmps47
  go_wp2_with fail
  refine name_calls fun W hW => ?_
  have R : Rd W rb m := by rw [hW]; exact rd_alloc h _
  have G : w.grownBy W (some rb) := by rw [hW]; exact only_below ((Below.refl _ _).alloc (Nat.le_refl _) _) _
  have H0 : W.heap[w.heap.size]? = some (.cells (drvC zDrv zDrvA) 46 (0, 0)) := by rw [hW]; exact heap_new_at _ _ _ rfl
  clear hW h
  have zz0 := box_lt H0
  refine (l92Port_any rb _ W R (by omega)).mono ?_
  rintro e w1 ⟨p, ⟨ax, cx, ay, cy⟩, rfl, lg, ly, ox, oy, R', g'⟩
  have z1 := g'.size
  have ix := own_in ox
  have iy := own_in oy
  replace R := R'
  replace G := only_trans G g'
  replace H0 := box_only H0 g' hrb
  replace ox := own_base (base' := w.heap.size + 1) ox (by omega)
  replace oy := own_base (base' := w.heap.size + 1) oy (by omega)
  clear R' g'
  go_wp2_with fail
  refine (l92Ring_any rb _ w1 R (by omega)).mono ?_
  rintro e w2 ⟨ai, xi, ci, rfl, li, oi, R', g'⟩
  have z2 := g'.size
  have ii := own_in oi
  replace R := R'
  replace G := only_trans G g'
  replace H0 := box_only H0 g' hrb
  replace ox := own_low ox g' (by omega)
  replace oy := own_low oy g' (by omega)
  replace oi := own_base (base' := w.heap.size + 1) oi (by omega)
  clear R' g'
  go_wp2_with fail
  refine (l92Ring_any rb _ w2 R (by omega)).mono ?_
  rintro e w3 ⟨ao, xo, co, rfl, lo, oo, R', g'⟩
  have z3 := g'.size
  have io := own_in oo
  have ap1 : Apart ai ax := ii.apart ix (.inr (Nat.le_refl _))
  have ap2 : Apart ai ay := ii.apart iy (.inr (Nat.le_refl _))
  have ap3 : Apart ai ao := ii.apart io (.inl (Nat.le_refl _))
  replace R := R'
  replace G := only_trans G g'
  replace H0 := box_only H0 g' hrb
  replace ox := own_low ox g' (by omega)
  replace oy := own_low oy g' (by omega)
  replace oi := own_low oi g' (by omega)
  replace oo := own_base (base' := w.heap.size + 1) oo (by omega)
  clear R' g' ix iy ii io
  go_wp2_with fail
  refine (pick_any rb _ (3) _ R (by omega)).mono ?_
  rintro e w4 ⟨k1, rfl, k10, k11, R', g'⟩
  replace R := R'
  replace G := only_trans G g'
  replace H0 := box_only H0 g' hrb
  replace ox := own_low ox g' (by omega)
  replace oy := own_low oy g' (by omega)
  replace oi := own_low oi g' (by omega)
  replace oo := own_low oo g' (by omega)
  clear R' g'
  go_wp2_with fail
  refine (pick_any rb _ (3) _ R (by omega)).mono ?_
  rintro e w5 ⟨k2, rfl, k20, k21, R', g'⟩
  replace R := R'
  replace G := only_trans G g'
  replace H0 := box_only H0 g' hrb
  replace ox := own_low ox g' (by omega)
  replace oy := own_low oy g' (by omega)
  replace oi := own_low oi g' (by omega)
  replace oo := own_low oo g' (by omega)
  clear R' g'
  have zz6 := box_lt H0
  simp only [portC]
  obtain ⟨d0, hd0⟩ : ∃ d0 : DrvD, d0 = ⟨p, xi, xo, k1, k2⟩ := ⟨_, rfl⟩
  go_wp2_with (first
    | (refine wpList_store_any _ rfl rfl (by rfl) (b := w5.heap.size) (off := 0) (n := 22) rfl rfl (vs := drvC ⟨p, xi, xo, k1, k2⟩ ⟨⟨ax, cx, ay, cy⟩, ai, ci, ao, co⟩) rfl (heap_new_at w5 (.cells (drvC zDrv zDrvA) 46) _ rfl) (by kernel_rfl) rfl rfl (Nat.le_of_ble_eq_true rfl) (drvC ⟨p, xi, xo, k1, k2⟩ ⟨⟨ax, cx, ay, cy⟩, ai, ci, ao, co⟩) rfl ?_
       intro w7 K7 g7))
  rw [← hd0] at K7
  have F : QS w w7 rb w5.heap.size (m + 182) d0 ⟨⟨ax, cx, ay, cy⟩, ai, ci, ao, co⟩ := by
    subst hd0
    exact { rl := hrb, bl := zz6, R := (rd_alloc R _).mono (by omega) |>.grown g7 (fun k e => by injection e with e; omega), G := only_grown (only_alloc G _) g7 (fun k e => by injection e with e; omega), H0 := box_only' (box_alloc H0 _) g7 (by omega), H := K7, ox := own_ty (World.ownsRow.alloc ox _) (heap_new_at w5 (.cells (drvC zDrv zDrvA) 46) _ rfl) (by decide) g7, oy := own_ty (World.ownsRow.alloc oy _) (heap_new_at w5 (.cells (drvC zDrv zDrvA) 46) _ rfl) (by decide) g7, oi := own_ty (World.ownsRow.alloc oi _) (heap_new_at w5 (.cells (drvC zDrv zDrvA) 46) _ rfl) (by decide) g7, oo := own_ty (World.ownsRow.alloc oo _) (heap_new_at w5 (.cells (drvC zDrv zDrvA) 46) _ rfl) (by decide) g7, lg := lg, ly := ly, li := li, lo := lo, a1 := ap1, a2 := ap2, a3 := ap3 }
  generalize (⟨⟨ax, cx, ay, cy⟩, ai, ci, ao, co⟩ : DrvA) = A at *
  generalize w5.heap.size = b3 at *
  clear hd0 K7 g7 R G H0 ox oy oi oo ap1 ap2 ap3
  refine (pick_any rb _ (2) _ F.R (by omega)).mono ?_
  rintro e w8 ⟨k3, rfl, k30, k31, R', g'⟩
  replace F := F.pick R' g'
  clear R' g'
  by_cases h3 : k3 = 0
  case' pos =>
    subst h3
    have hbl := F.bl
    go_wp2_with (first
      | (refine wpList_store_any _ rfl rfl (by rfl) (b := b3) (off := 3) (n := 1) rfl rfl (vs := #[.int .i64 15]) rfl F.H (by kernel_rfl) rfl rfl (Nat.le_of_ble_eq_true rfl) (drvC { d0 with p := { d0.p with en := 15 } } A) rfl ?_
         intro w9 K9 g9))
    have F8 : Hid (∃ d1 : DrvD, QS w w9 rb b3 (m + 183) d1 A) := Lib.hid ⟨_, (F.store K9 g9 rfl rfl rfl rfl).mono (by omega)⟩
    clear F K9 g9 hbl
  case' neg =>
    have hb3 : (k3 == 0) = false := by simpa using h3
    go_wp2_with fail
    obtain ⟨w9, rfl⟩ : ∃ w9 : World, w9 = w8 := ⟨_, rfl⟩
    have F8 : Hid (∃ d1 : DrvD, QS w w9 rb b3 (m + 183) d1 A) := Lib.hid ⟨_, F.mono (by omega)⟩
    clear F
  all_goals
    obtain ⟨d1, F⟩ := F8.out
    clear F8
    refine (pick_any rb _ (40) _ F.R (by omega)).mono ?_
    rintro e w10 ⟨k4, rfl, k40, k41, R', g'⟩
    replace F := F.pick R' g'
    clear R' g'
    by_cases h4 : k4 = 0
    · subst h4
      go_wp2_with fail
      refine name_calls fun WA hWA => ?_
      have rA : Ints WA (some ⟨w10.heap.size, 0, none⟩) [-1, 999, 1000] := by rw [hWA]; exact ints_new w10 [-1, 999, 1000] _ _ rfl
      have hz4 := Nat.lt_trans F.rl (box_lt F.H0)
      replace F := F.alloc (.cells #[.int .i64 (-1), .int .i64 999, .int .i64 1000] 3)
      rw [← hWA] at F
      clear hWA
      refine (pick_any rb _ 3 WA F.R (by omega)).mono ?_
      rintro e w11 ⟨k5, rfl, k50, k51, R5, g5⟩
      replace rA := cells_only rA g5 hz4
      replace F := F.pick R5 g5
      obtain ⟨j, rfl⟩ := Int.eq_ofNat_of_zero_le k50
      have hj : j < 3 := by omega
      have hjI : (j : Int) < 3 := by omega
      obtain ⟨b, off, v, hb, hv, hcv⟩ := Ints.at_ rA (k := j) hj
      injection hb with hb
      injection hb with hb1 hb2 _
      subst hb1 hb2
      rw [Nat.zero_add] at hcv
      clear hv rA k51 R5 g5
      go_wp2_with (first
        | (refine wpList_store_any _ rfl rfl (by rfl) (b := b3) (off := 20) (n := 1) rfl rfl (vs := #[.int .i64 v]) rfl F.H (by kernel_rfl) rfl rfl (Nat.le_of_ble_eq_true rfl) (drvC { d1 with wr := v } A) rfl ?_
           intro w12 K12 g12
           have F12 := F.store (d' := { d1 with wr := v }) K12 g12 rfl rfl rfl rfl
           skip)
        | (refine wpList_load_box _ rfl (by rfl) (b := b3) (off := 0) (n := 22) rfl K12 Try.underlying46 (by kernel_rfl) (Nat.le_of_ble_eq_true rfl) (drvC { d1 with wr := v } A) rfl ?_)
        | (refine wpList_store_any _ rfl rfl (by rfl) (b := w.heap.size) (off := 0) (n := 22) rfl rfl (vs := drvC { d1 with wr := v } A) rfl F12.H0 (by kernel_rfl) rfl rfl (Nat.le_of_ble_eq_true rfl) (drvC { d1 with wr := v } A) rfl ?_
           intro wf Kf gf))
      refine bodyPost_ret (results_cell Try.results47 rfl (load_box (P := Try.prog) Kf Try.underlying46 (by kernel_rfl) rfl)) rfl ?_
      exact ⟨_, A, rfl, F12.lg, F12.ly, by have := F12.li; omega, F12.lo, ⟨own_base (own_ty F12.ox F12.H0 (by decide) gf) (by omega), own_base (own_ty F12.oy F12.H0 (by decide) gf) (by omega), own_base (own_ty F12.oi F12.H0 (by decide) gf) (by omega), own_base (own_ty F12.oo F12.H0 (by decide) gf) (by omega)⟩, (F12.R.mono (by omega)).grown gf (fun k e => by injection e with e; omega), only_grown F12.G gf (fun k e => by injection e with e; omega)⟩
    have hb4 : (k4 == 0) = false := by simpa using h4
    by_cases h5 : k4 = 1
    · subst h5
      clear h4 hb4
      have c18 := box_cell F.H 18 (v := .slice A.ai d1.i.length A.ci) rfl
      have l18 := box_lt F.H
      have hbl := F.bl
      go_wp2_with (first
        | (at_builtin
           refine name_list fun Wq hq => ?_
           have FW := F.alloc (.cells #[.int .i64 256] 3)
           rw [← hq] at FW
           have hcW : Cells Wq (some ⟨w10.heap.size, 0, none⟩) [.int .i64 256] := by rw [hq]; exact cells_new _ #[.int .i64 256] _ rfl
           clear hq
           have hli := FW.li
           have hzq := box_lt FW.H0
           refine wpList_append_row Wq rfl _ _ _ rfl (w.heap.size + 1) 3 _ 1 8 Try.underlying27 int_info rfl (by decide) A.ai d1.i.length A.ci _ (by rfl) FW.oi (some ⟨w10.heap.size, 0, none⟩) 1 1 [.int .i64 256] (by rfl) hcW rfl (by simp [Value.oneCell']) (by simp) (by simp only [maxLen]; omega) (by omega) hzq ?_
           intro a2 c2 w12 o2 hg
           have hk : ∀ k, (Value.slice A.ai d1.i.length A.ci).ownBlock = some k → w.heap.size + 1 ≤ k := fun k hk => (FW.oi.lt k hk).1
           have R12 := FW.R.grown hg (fun k e => by have := hk k e; have := FW.rl; omega)
           have G12 := only_grown FW.G hg (fun k e => by have := hk k e; omega)
           have H012 := box_grow FW.H0 hg (fun k e => by have := hk k e; omega)
           have H12 := box_grow FW.H hg (own_block_of (own_box_ne FW.oi FW.H (by decide)))
           have ox12 := own_sep FW.ox FW.a1.symm hg
           have oy12 := own_sep FW.oy FW.a2.symm hg
           have oo12 := own_sep FW.oo FW.a3.symm hg
           clear hg hcW hk
           skip)
        | (refine wpList_store_any _ rfl rfl (by rfl) (b := b3) (off := 18) (n := 1) rfl rfl (vs := #[.slice a2 (d1.i.length + 1) c2]) rfl H12 (by kernel_rfl) rfl rfl (Nat.le_of_ble_eq_true rfl) (drvC { d1 with i := d1.i ++ [256] } { A with ai := a2, ci := c2 }) (by simp [drvC]) ?_
           intro w13 K13 g13
           have R13 := R12.grown g13 (fun k e => by injection e with e; have := F.rl; omega)
           have G13 := only_grown G12 g13 (fun k e => by injection e with e; omega)
           have H013 := box_only' H012 g13 (by omega)
           have ox13 := own_ty ox12 H12 (by decide) g13
           have oy13 := own_ty oy12 H12 (by decide) g13
           have oo13 := own_ty oo12 H12 (by decide) g13
           have o13 := own_ty o2 H12 (by decide) g13
           skip)
        | (refine wpList_load_box _ rfl (by rfl) (b := b3) (off := 0) (n := 22) rfl K13 Try.underlying46 (by kernel_rfl) (Nat.le_of_ble_eq_true rfl) (drvC { d1 with i := d1.i ++ [256] } { A with ai := a2, ci := c2 }) rfl ?_)
        | (refine wpList_store_any _ rfl rfl (by rfl) (b := w.heap.size) (off := 0) (n := 22) rfl rfl (vs := drvC { d1 with i := d1.i ++ [256] } { A with ai := a2, ci := c2 }) rfl H013 (by kernel_rfl) rfl rfl (Nat.le_of_ble_eq_true rfl) (drvC { d1 with i := d1.i ++ [256] } { A with ai := a2, ci := c2 }) rfl ?_
           intro wf Kf gf))
      refine bodyPost_ret (results_cell Try.results47 rfl (load_box (P := Try.prog) Kf Try.underlying46 (by kernel_rfl) rfl)) rfl ?_
      have o14 := OwnI.snoc (own_ty o13 H013 (by decide) gf)
      exact ⟨{ d1 with i := d1.i ++ [256] }, { A with ai := a2, ci := c2 }, rfl, F.lg, F.ly, by have := F.li; simp; omega, F.lo, ⟨own_base (own_ty ox13 H013 (by decide) gf) (by omega), own_base (own_ty oy13 H013 (by decide) gf) (by omega), own_base o14 (by omega), own_base (own_ty oo13 H013 (by decide) gf) (by omega)⟩, (R13.mono (by omega)).grown gf (fun k e => by injection e with e; omega), only_grown G13 gf (fun k e => by injection e with e; omega)⟩
    · have hb5 : (k4 == 1) = false := by simpa using h5
      clear h4 h5
      go_wp2_with (first
        | (refine wpList_load_box _ rfl (by rfl) (b := b3) (off := 0) (n := 22) rfl F.H Try.underlying46 (by kernel_rfl) (Nat.le_of_ble_eq_true rfl) (drvC d1 A) rfl ?_)
        | (refine wpList_store_any _ rfl rfl (by rfl) (b := w.heap.size) (off := 0) (n := 22) rfl rfl (vs := drvC d1 A) rfl F.H0 (by kernel_rfl) rfl rfl (Nat.le_of_ble_eq_true rfl) (drvC d1 A) rfl ?_
           intro wf Kf gf))
      refine bodyPost_ret (results_cell Try.results47 rfl (load_box (P := Try.prog) Kf Try.underlying46 (by kernel_rfl) rfl)) rfl ?_
      exact ⟨_, A, rfl, F.lg, F.ly, by have := F.li; omega, F.lo, ⟨own_base (own_ty F.ox F.H0 (by decide) gf) (by omega), own_base (own_ty F.oy F.H0 (by decide) gf) (by omega), own_base (own_ty F.oi F.H0 (by decide) gf) (by omega), own_base (own_ty F.oo F.H0 (by decide) gf) (by omega)⟩, (F.R.mono (by omega)).grown gf (fun k e => by injection e with e; omega), only_grown F.G gf (fun k e => by injection e with e; omega)⟩
end Go.Proofs.Ytkmampichfbppaa
