/- Ports are drawn. -/
import Derived.Test.YtkmampichfbppaaDoorDrvDraw
namespace Go.Proofs.YtkmampichfbppaaDoor
open Go.RowKit

/-- The state of a port's draw: w the world ahead, W the world now; rb the reader; the result's block (w.heap.size); block b holds the port. -/
structure PS (w W : World) (rb b M : Nat) (d : PortD) (A : PortA) : Prop where
  rl : rb < w.heap.size
  bl : w.heap.size < b
  R : Rd W rb M
  G : w.grownBy W (some rb)
  H0 : W.heap[w.heap.size]? = some (.cells (portC zPort zPortA) 34 (0, 0))
  H : W.heap[b]? = some (.cells (portC d A) 34 (0, 0))
  ox : OwnG W (w.heap.size + 1) A.ax A.cx d.gs
  oy : OwnI W (w.heap.size + 1) A.ay A.cy d.ys
  lg : d.gs.length ≤ 6
  ly : d.ys.length ≤ 6
section
variable {w W W' : World} {rb b M M' : Nat} {d d' : PortD} {A : PortA}
theorem PS.pick (h : PS w W rb b M d A) (R' : Rd W' rb M') (g : W.grownBy W' (some rb)) : PS w W' rb b M' d A :=
  { rl := h.rl, bl := h.bl, R := R', G := only_trans h.G g, H0 := box_only h.H0 g h.rl, H := box_only h.H g (Nat.lt_trans h.rl h.bl), ox := own_low h.ox g (Nat.lt_succ_of_lt h.rl), oy := own_low h.oy g (Nat.lt_succ_of_lt h.rl), lg := h.lg, ly := h.ly }
theorem PS.alloc (h : PS w W rb b M d A) (ob : Obj) : PS w (W.alloc ob) rb b M d A :=
  { rl := h.rl, bl := h.bl, R := rd_alloc h.R ob, G := only_alloc h.G ob, H0 := box_alloc h.H0 ob, H := box_alloc h.H ob, ox := World.ownsRow.alloc h.ox ob, oy := World.ownsRow.alloc h.oy ob, lg := h.lg, ly := h.ly }
theorem PS.store (h : PS w W rb b M d A) (K : W'.heap[b]? = some (.cells (portC d' A) 34 (0, 0))) (g : W.grownBy W' (some b)) (eg : d'.gs = d.gs) (ey : d'.ys = d.ys) : PS w W' rb b M d' A :=
  { rl := h.rl, bl := h.bl, R := h.R.grown g (fun k e => by injection e with e; have := h.rl; have := h.bl; omega), G := only_grown h.G g (fun k e => by injection e with e; have := h.bl; omega), H0 := box_only' h.H0 g (Nat.ne_of_lt h.bl), H := K, ox := by rw [eg]; exact own_ty h.ox h.H (by decide) g, oy := by rw [ey]; exact own_ty h.oy h.H (by decide) g, lg := by rw [eg]; exact h.lg, ly := by rw [ey]; exact h.ly }
theorem PS.mono (h : PS w W rb b M d A) (hM : M ≤ M') : PS w W rb b M' d A := { h with R := h.R.mono hM }
end
set_option maxHeartbeats 4000000 in
set_option maxRecDepth 100000 in
theorem l92Port_any (rb m : Nat) (w : World) (h : Rd w rb m) (hm : m ≤ 800) :
    Calls Tryd.prog 15 #[.pointer (some ⟨rb, 0, none⟩)] w fun e w' => ∃ (d : PortD) (A : PortA), e = .returned (.agg (portC d A)) ∧ d.gs.length ≤ 6 ∧ d.ys.length ≤ 6 ∧ OwnG w' w.heap.size A.ax A.cx d.gs ∧ OwnI w' w.heap.size A.ay A.cy d.ys ∧ Rd w' rb (m + 100) ∧ w.grownBy w' (some rb) := by
  have hrb := h.lt
  go_enter Tryd.func15, Tryd.ntmps15
  go_wp2_with fail
  refine name_calls fun W hW => ?_
  have R : Rd W rb m := by rw [hW]; exact rd_alloc h _
  have G : w.grownBy W (some rb) := by rw [hW]; exact only_below ((Below.refl _ _).alloc (Nat.le_refl _) _) _
  have H0 : W.heap[w.heap.size]? = some (.cells (portC zPort zPortA) 34 (0, 0)) := by rw [hW]; exact heap_new_at _ _ _ rfl
  clear hW h
  refine (l91Format_any rb _ W R (by omega)).mono ?_
  rintro e w1 ⟨fb, fp, fs, rfl, _, _, R', g'⟩
  replace R := R'
  replace G := only_trans G g'
  replace H0 := box_only H0 g' hrb
  clear R' g'
  go_wp2_with fail
  refine (pick_any rb _ (16) _ R (by omega)).mono ?_
  rintro e w2 ⟨k1, rfl, k10, k11, R', g'⟩
  replace R := R'
  replace G := only_trans G g'
  replace H0 := box_only H0 g' hrb
  clear R' g'
  go_wp2_with fail
  refine (pick_any rb _ (4) _ R (by omega)).mono ?_
  rintro e w3 ⟨k2, rfl, k20, k21, R', g'⟩
  replace R := R'
  replace G := only_trans G g'
  replace H0 := box_only H0 g' hrb
  clear R' g'
  go_wp2_with fail
  refine (l91Recv_any rb _ w3 R (by omega)).mono ?_
  rintro e w4 ⟨r, t, ax, gs, cx, l, ag, rfl, lg, ox, R', g'⟩
  have zz := box_lt H0
  replace R := R'
  replace G := only_trans G g'
  replace H0 := box_only H0 g' hrb
  replace ox := own_base (base' := w.heap.size + 1) ox (by omega)
  clear R' g'
  go_wp2_with fail
  refine (l91Send_any rb _ w4 R (by omega)).mono ?_
  rintro e w5 ⟨sr, ay, ys, cy, sh, sl, rfl, ly, _, _, _, _, _, _, oy, R', g'⟩
  have zz5 := box_lt H0
  replace ox := own_low ox g' (by omega)
  replace R := R'
  replace G := only_trans G g'
  replace H0 := box_only H0 g' hrb
  replace oy := own_base (base' := w.heap.size + 1) oy (by omega)
  clear R' g'
  go_wp2_with fail
  refine (l91Modem_any rb _ w5 R (by omega)).mono ?_
  rintro e w6 ⟨m1, m2, m3, m4, rfl, R', g'⟩
  replace ox := own_low ox g' (by omega)
  replace oy := own_low oy g' (by omega)
  replace R := R'
  replace G := only_trans G g'
  replace H0 := box_only H0 g' hrb
  clear R' g'
  have zz6 := box_lt H0
  obtain ⟨d0, hd0⟩ : ∃ d0 : PortD, d0 = ⟨fb, fp, fs, k1, k2, r, t, gs, l, ag, sr, ys, sh, sl, m1, m2, m3, m4⟩ := ⟨_, rfl⟩
  go_wp2_with (first
    | (refine wpList_store_any _ rfl rfl (by rfl) (b := w6.heap.size) (off := 0) (n := 18) rfl rfl (vs := portC ⟨fb, fp, fs, k1, k2, r, t, gs, l, ag, sr, ys, sh, sl, m1, m2, m3, m4⟩ ⟨ax, cx, ay, cy⟩) rfl (heap_new_at w6 (.cells (portC zPort zPortA) 34) _ rfl) (by kernel_rfl) rfl rfl (Nat.le_of_ble_eq_true rfl) (portC ⟨fb, fp, fs, k1, k2, r, t, gs, l, ag, sr, ys, sh, sl, m1, m2, m3, m4⟩ ⟨ax, cx, ay, cy⟩) rfl ?_
       intro w7 K7 g7))
  rw [← hd0] at K7
  have F : PS w w7 rb w6.heap.size (m + 76) d0 ⟨ax, cx, ay, cy⟩ := by
    subst hd0
    exact { rl := hrb, bl := zz6, R := (rd_alloc R _).mono (by omega) |>.grown g7 (fun k e => by injection e with e; omega), G := only_grown (only_alloc G _) g7 (fun k e => by injection e with e; omega), H0 := box_only' (box_alloc H0 _) g7 (by omega), H := K7, ox := own_ty (World.ownsRow.alloc ox _) (heap_new_at w6 (.cells (portC zPort zPortA) 34) _ rfl) (by decide) g7, oy := own_ty (World.ownsRow.alloc oy _) (heap_new_at w6 (.cells (portC zPort zPortA) 34) _ rfl) (by decide) g7, lg := lg, ly := ly }
  generalize (⟨ax, cx, ay, cy⟩ : PortA) = A at *
  generalize w6.heap.size = b3 at *
  clear hd0 K7 g7 R G H0 ox oy
  refine (pick_any rb _ (3) _ F.R (by omega)).mono ?_
  rintro e w8 ⟨k3, rfl, k30, k31, R', g'⟩
  replace F := F.pick R' g'
  clear R' g'
  by_cases h3 : 0 < k3
  case' pos =>
    have hbl := F.bl
    go_wp2_with (first
      | (refine wpList_store_any _ rfl rfl (by rfl) (b := b3) (off := 0) (n := 3) rfl rfl (vs := #[.int .i64 8, .int .i64 0, .int .i64 1]) rfl F.H (by kernel_rfl) rfl rfl (Nat.le_of_ble_eq_true rfl) (portC { d0 with b := 8, p := 0, s := 1 } A) rfl ?_
         intro w9 K9 g9))
    have F8 : Hid (∃ d1 : PortD, PS w w9 rb b3 (m + 77) d1 A) := Lib.hid ⟨_, (F.store K9 g9 rfl rfl).mono (by omega)⟩
    clear F K9 g9 hbl
  case' neg =>
    have hk3 : k3 ≤ 0 := by omega
    have hd3 : decide (0 < k3) = false := by simpa using h3
    go_wp2_with fail
    obtain ⟨w9, rfl⟩ : ∃ w9 : World, w9 = w8 := ⟨_, rfl⟩
    have F8 : Hid (∃ d1 : PortD, PS w w9 rb b3 (m + 77) d1 A) := Lib.hid ⟨_, F.mono (by omega)⟩
    clear F
  all_goals
    obtain ⟨d1, F⟩ := F8.out
    clear F8
    refine (pick_any rb _ (40) _ F.R (by omega)).mono ?_
    rintro e w10 ⟨k4, rfl, k40, k41, R', g'⟩
    replace F := F.pick R' g'
    clear R' g'
    by_cases h4 : k4 = 0
    · subst h4
      go_wp2_with fail
      refine name_calls fun WA hWA => ?_
      have rA : Ints WA (some ⟨w10.heap.size, 0, none⟩) [-1, 16] := by rw [hWA]; exact ints_new w10 [-1, 16] _ _ rfl
      have hz4 := Nat.lt_trans F.rl (box_lt F.H0)
      replace F := F.alloc (.cells #[.int .i64 (-1), .int .i64 16] 3)
      rw [← hWA] at F
      clear hWA
      refine (pick_any rb _ 2 WA F.R (by omega)).mono ?_
      rintro e w11 ⟨k5, rfl, k50, k51, R5, g5⟩
      replace rA := cells_only rA g5 hz4
      replace F := F.pick R5 g5
      obtain ⟨j, rfl⟩ := Int.eq_ofNat_of_zero_le k50
      have hj : j < 2 := by omega
      have hjI : (j : Int) < 2 := by omega
      obtain ⟨b, off, v, hb, hv, hcv⟩ := Ints.at_ rA (k := j) hj
      injection hb with hb
      injection hb with hb1 hb2 _
      subst hb1 hb2
      rw [Nat.zero_add] at hcv
      clear hv rA k51 R5 g5
      go_wp2_with (first
        | (refine wpList_store_any _ rfl rfl (by rfl) (b := b3) (off := 3) (n := 1) rfl rfl (vs := #[.int .i64 v]) rfl F.H (by kernel_rfl) rfl rfl (Nat.le_of_ble_eq_true rfl) (portC { d1 with en := v } A) rfl ?_
           intro w12 K12 g12
           have F12 := F.store (d' := { d1 with en := v }) K12 g12 rfl rfl
           skip)
        | (refine wpList_load_box _ rfl (by rfl) (b := b3) (off := 0) (n := 18) rfl K12 Tryd.underlying34 (by kernel_rfl) (Nat.le_of_ble_eq_true rfl) (portC { d1 with en := v } A) rfl ?_)
        | (refine wpList_store_any _ rfl rfl (by rfl) (b := w.heap.size) (off := 0) (n := 18) rfl rfl (vs := portC { d1 with en := v } A) rfl F12.H0 (by kernel_rfl) rfl rfl (Nat.le_of_ble_eq_true rfl) (portC { d1 with en := v } A) rfl ?_
           intro wf Kf gf))
      refine bodyPost_ret (results_cell Tryd.results15 rfl (load_box (P := Tryd.prog) Kf Tryd.underlying34 (by kernel_rfl) rfl)) rfl ?_
      exact ⟨_, A, rfl, F12.lg, F12.ly, own_base (own_ty F12.ox F12.H0 (by decide) gf) (by omega), own_base (own_ty F12.oy F12.H0 (by decide) gf) (by omega), (F12.R.mono (by omega)).grown gf (fun k e => by injection e with e; omega), only_grown F12.G gf (fun k e => by injection e with e; omega)⟩
    · have hb4 : (k4 == 0) = false := by simpa using h4
      clear h4
      go_wp2_with (first
        | (refine wpList_load_box _ rfl (by rfl) (b := b3) (off := 0) (n := 18) rfl F.H Tryd.underlying34 (by kernel_rfl) (Nat.le_of_ble_eq_true rfl) (portC d1 A) rfl ?_)
        | (refine wpList_store_any _ rfl rfl (by rfl) (b := w.heap.size) (off := 0) (n := 18) rfl rfl (vs := portC d1 A) rfl F.H0 (by kernel_rfl) rfl rfl (Nat.le_of_ble_eq_true rfl) (portC d1 A) rfl ?_
           intro wf Kf gf))
      refine bodyPost_ret (results_cell Tryd.results15 rfl (load_box (P := Tryd.prog) Kf Tryd.underlying34 (by kernel_rfl) rfl)) rfl ?_
      exact ⟨_, A, rfl, F.lg, F.ly, own_base (own_ty F.ox F.H0 (by decide) gf) (by omega), own_base (own_ty F.oy F.H0 (by decide) gf) (by omega), (F.R.mono (by omega)).grown gf (fun k e => by injection e with e; omega), only_grown F.G gf (fun k e => by injection e with e; omega)⟩
end Go.Proofs.YtkmampichfbppaaDoor
