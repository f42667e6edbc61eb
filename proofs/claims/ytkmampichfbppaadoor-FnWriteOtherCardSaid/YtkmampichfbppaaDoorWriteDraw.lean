/- The draw of PortWrite. -/
import Derived.Test.YtkmampichfbppaaDoorDrvDraw2
import Derived.Test.YtkmampichfbppaaDoorStore3
import Derived.Test.YtkmampichfbppaaDoorDriver2
namespace Go.Proofs.YtkmampichfbppaaDoor
open Go.RowKit

theorem results_cell_two {P : Program} {fn : Func} {tmps : Array Value} {w : World} {k b s s2 : Nat} {T : TypeId} {v u u2 : Value} (hr : fn.results = #[.cell k T, .tmp s, .tmp s2]) (hk : tmps.getD k undef = .pointer (some ⟨b, 0, none⟩)) (hu : tmps.getD s undef = u) (hu2 : tmps.getD s2 undef = u2) (hl : (loadVar T ⟨b, 0, none⟩).run P w = .ok v w) :
    (results fn tmps).run P w = .ok (.tuple #[v, u, u2]) w := results_cell3 hr hk hu hu2 hl
set_option maxHeartbeats 4000000 in
set_option maxRecDepth 100000 in
theorem drawPortWrite_any (ao : Option Addr) (bs : List Int) (c : Nat) (w : World) (h : Bytes w ao bs) (hc : bs.length ≤ c) (lx : bs.length ≤ 1048576) :
    Calls Tryd.prog 6 #[.slice ao bs.length c] w fun e w' => ∃ (d : PortD) (A : PortA) (reg v : Int), e = .returned (.tuple #[.agg (portC d A), .int .i64 reg, .int .i64 v]) ∧ d.gs.length ≤ 6 ∧ d.ys.length ≤ 6 ∧ OwnG w' w.heap.size A.ax A.cx d.gs ∧ OwnI w' w.heap.size A.ay A.cy d.ys ∧ Below w.heap.size w w' := by
  go_enter Tryd.func6, Tryd.ntmps6
  go_wp2_with fail
  refine name_calls fun W hW => ?_
  have BW : Below w.heap.size w W := by rw [hW]; exact (Below.refl _ _).alloc (Nat.le_refl _) _
  have H0 : W.heap[w.heap.size]? = some (.cells (portC zPort zPortA) 34 (0, 0)) := by rw [hW]; exact heap_new_at _ _ _ rfl
  have zW : w.heap.size + 1 ≤ W.heap.size := by rw [hW]; simp
  clear hW
  refine (l6Open_any ao bs c W (h.below BW) hc (by omega)).mono ?_
  rintro e w1 ⟨rb, rfl, hrb, R1, b1⟩
  have H1 := (b1.block _ (box_lt H0)).trans H0
  have B1 := BW.trans (b1.mono BW.size)
  have z1 := b1.size
  have l1 := R1.lt
  clear H0 BW b1 h
  go_wp2_with fail
  refine (l92Port_any rb 0 w1 R1 (by omega)).mono ?_
  rintro e w2 ⟨d, A, rfl, lg, ly, ox, oy, R2, g2⟩
  have H2 := box_only' H1 g2 (by omega)
  have B2 := below_only B1 g2 (by omega)
  have z2 := g2.size
  have l2 := R2.lt
  clear H1 B1
  go_wp2_with (first
    | (refine wpList_store_any _ rfl rfl (by rfl) (b := w2.heap.size) (off := 0) (n := 18) rfl rfl (vs := portC d A) rfl (heap_new_at w2 (.cells (portC zPort zPortA) 34) _ rfl) (by kernel_rfl) rfl rfl (Nat.le_of_ble_eq_true rfl) (portC d A) rfl ?_
       intro w3 K3 g3))
  have b3 : Below w2.heap.size w2 w3 := below_only ((Below.refl _ _).alloc (Nat.le_refl _) _) g3 (Nat.le_refl _)
  have z3 := b3.size
  have lK := box_lt K3
  have H3 := (b3.block _ (box_lt H2)).trans H2
  have B3 := B2.trans (b3.mono B2.size)
  replace ox := own_below ox b3
  replace oy := own_below oy b3
  have R3 := R2.below b3
  clear H2 B2 g3 b3
  generalize hbx : w2.heap.size = bx at *
  refine (pick_any rb _ 6 w3 R3 (by omega)).mono ?_
  rintro e w4 ⟨k3, rfl, k30, k31, R4, g4⟩
  have z4 := g4.size
  have K4 := box_only' K3 g4 (by omega)
  have H4 := box_only' H3 g4 (by omega)
  have B4 := below_only B3 g4 (by omega)
  replace ox := own_low ox g4 (by omega)
  replace oy := own_low oy g4 (by omega)
  clear K3 H3 B3 R3 g4 R2
  have R4d : Rd w4.drew rb _ := R4.below (Below.refl _ _).drew
  have K4d : w4.drew.heap[bx]? = some (.cells (portC d A) 34 (0, 0)) := K4
  have H4d : w4.drew.heap[w.heap.size]? = some (.cells (portC zPort zPortA) 34 (0, 0)) := H4
  have B4d : Below w.heap.size w w4.drew := B4.drew
  have oxd : OwnG w4.drew w1.heap.size A.ax A.cx d.gs := ox
  have oyd : OwnI w4.drew w1.heap.size A.ay A.cy d.ys := oy
  have l1d := R4d.lt
  have ld : w3.heap.size ≤ w4.drew.heap.size := z4
  by_cases h0 : k3 = 0
  · subst h0
    go_wp2_with fail
    refine wp_region_held_drew (S := fun v => v.heap[bx]? = some (.cells (portC d A) 34 (0, 0))) (by kernel_rfl) K4d (fun _ => ?_)
    refine wpAnyH_take (i := 0) (v := .agg (portC d A)) rfl (by kernel_rfl) (by kernel_rfl) (by kernel_rfl) (fun _ _ _ h => h) (yieldsIf_load_box (n := 18) (off := 0) rfl rfl rfl (fun _ h => h) Tryd.underlying34 (by kernel_rfl) (Nat.le_of_ble_eq_true rfl) _ rfl) K4d ?_
    go_simp
    refine wpAnyH_take (i := 1) (v := .pointer (some ⟨rb, 0, none⟩)) rfl (by kernel_rfl) (by kernel_rfl) (by kernel_rfl) (fun _ _ _ h => h) (Or.inl ⟨by rfl, by intro w _; go_simp⟩) K4d ?_
    go_simp
    refine wpAnyH_ready (rs := [2]) (by kernel_rfl) (by simp) (AllReadyH.cons rfl (fun KK hK => ?_) AllReadyH.nil)
    go_simp
    go_at_call 16
    refine (pick_any rb _ 18 _ R4d (by omega)).mono ?_
    rintro e w5 ⟨k5, rfl, k50, k51, Rw5, gw5⟩
    have Kw5 := box_only' K4d gw5 (by omega)
    go_simp
    refine hK.out _ _ Kw5 (fun _ => ?_)
    clear hK KK
    have Hw5 := box_only' H4d gw5 (by omega)
    have Bw5 := below_only B4d gw5 (by omega)
    have zw5 := gw5.size
    have xw5 : OwnG w5 w1.heap.size A.ax A.cx d.gs := own_low oxd gw5 (by omega)
    have yw5 : OwnI w5 w1.heap.size A.ay A.cy d.ys := own_low oyd gw5 (by omega)
    have hwr : IntKind.i64.wrap (k5 - 1) = k5 - 1 := IntWalk.i64_in _ (by omega)
    refine wpAnyH_take (i := 3) (v := .int .i64 (k5 - 1)) rfl (by kernel_rfl) (by kernel_rfl) (by kernel_rfl) (fun _ _ _ h => h) (Or.inl ⟨by rfl, by intro w _; go_simp⟩) Kw5 ?_
    go_simp
    refine wpAnyH_ready (rs := [4]) (by kernel_rfl) (by simp) (AllReadyH.cons rfl (fun KK hK => ?_) AllReadyH.nil)
    refine step_store_any rfl rfl rfl (b := w.heap.size) (off := 0) (n := 18) rfl rfl (vs := portC d A) rfl Hw5 (by kernel_rfl) rfl rfl (Nat.le_of_ble_eq_true rfl) (portC d A) rfl ?_
    intro w9 H9 g9
    have K9 := box_only' Kw5 g9 (by omega)
    refine hK.out _ _ K9 (fun _ => ?_)
    clear hK KK
    refine wpAnyH_take (i := 5) (v := .int .i64 1) rfl (by kernel_rfl) (by kernel_rfl) (by kernel_rfl) (fun _ _ _ h => h) (Or.inl ⟨by rfl, by intro w _; go_simp⟩) K9 ?_
    go_simp
    refine wpAnyH_take (i := 6) (v := .int .i64 (k5 - 1)) rfl (by kernel_rfl) (by kernel_rfl) (by kernel_rfl) (fun _ _ _ h => h) (Or.inl ⟨by rfl, by intro w _; go_simp⟩) K9 ?_
    go_simp
    refine wpAnyH_done (by kernel_rfl) ?_ _
    go_wp2
    refine bodyPost_ret (results_cell3 (u := .int .i64 1) (u2 := .int .i64 (k5 - 1)) Tryd.results6 rfl rfl rfl (load_box (P := Tryd.prog) H9 Tryd.underlying34 (by kernel_rfl) rfl)) rfl ?_
    exact ⟨d, A, _, _, rfl, lg, ly, own_base (own_low xw5 g9 (by omega)) (by omega), own_base (own_low yw5 g9 (by omega)) (by omega), below_only Bw5 g9 (by omega)⟩
  have hb0 : (k3 == 0) = false := by simpa using h0
  have hd0 : decide (k3 = 0) = false := by simpa using h0
  clear h0
  by_cases h1 : k3 = 1
  · subst h1
    go_wp2_with fail
    refine wp_region_held_drew (S := fun v => v.heap[bx]? = some (.cells (portC d A) 34 (0, 0))) (by kernel_rfl) K4d (fun _ => ?_)
    refine wpAnyH_take (i := 0) (v := .agg (portC d A)) rfl (by kernel_rfl) (by kernel_rfl) (by kernel_rfl) (fun _ _ _ h => h) (yieldsIf_load_box (n := 18) (off := 0) rfl rfl rfl (fun _ h => h) Tryd.underlying34 (by kernel_rfl) (Nat.le_of_ble_eq_true rfl) _ rfl) K4d ?_
    go_simp
    refine wpAnyH_take (i := 1) (v := .pointer (some ⟨rb, 0, none⟩)) rfl (by kernel_rfl) (by kernel_rfl) (by kernel_rfl) (fun _ _ _ h => h) (Or.inl ⟨by rfl, by intro w _; go_simp⟩) K4d ?_
    go_simp
    refine wpAnyH_ready (rs := [2]) (by kernel_rfl) (by simp) (AllReadyH.cons rfl (fun KK hK => ?_) AllReadyH.nil)
    go_simp
    go_at_call 16
    refine (pick_any rb _ 34 _ R4d (by omega)).mono ?_
    rintro e w5 ⟨k5, rfl, k50, k51, Rw5, gw5⟩
    have Kw5 := box_only' K4d gw5 (by omega)
    go_simp
    refine hK.out _ _ Kw5 (fun _ => ?_)
    clear hK KK
    have Hw5 := box_only' H4d gw5 (by omega)
    have Bw5 := below_only B4d gw5 (by omega)
    have zw5 := gw5.size
    have xw5 : OwnG w5 w1.heap.size A.ax A.cx d.gs := own_low oxd gw5 (by omega)
    have yw5 : OwnI w5 w1.heap.size A.ay A.cy d.ys := own_low oyd gw5 (by omega)
    have hwr : IntKind.i64.wrap (k5 - 1) = k5 - 1 := IntWalk.i64_in _ (by omega)
    refine wpAnyH_take (i := 3) (v := .int .i64 (k5 - 1)) rfl (by kernel_rfl) (by kernel_rfl) (by kernel_rfl) (fun _ _ _ h => h) (Or.inl ⟨by rfl, by intro w _; go_simp⟩) Kw5 ?_
    go_simp
    refine wpAnyH_ready (rs := [4]) (by kernel_rfl) (by simp) (AllReadyH.cons rfl (fun KK hK => ?_) AllReadyH.nil)
    refine step_store_any rfl rfl rfl (b := w.heap.size) (off := 0) (n := 18) rfl rfl (vs := portC d A) rfl Hw5 (by kernel_rfl) rfl rfl (Nat.le_of_ble_eq_true rfl) (portC d A) rfl ?_
    intro w9 H9 g9
    have K9 := box_only' Kw5 g9 (by omega)
    refine hK.out _ _ K9 (fun _ => ?_)
    clear hK KK
    refine wpAnyH_take (i := 5) (v := .int .i64 3) rfl (by kernel_rfl) (by kernel_rfl) (by kernel_rfl) (fun _ _ _ h => h) (Or.inl ⟨by rfl, by intro w _; go_simp⟩) K9 ?_
    go_simp
    refine wpAnyH_take (i := 6) (v := .int .i64 (k5 - 1)) rfl (by kernel_rfl) (by kernel_rfl) (by kernel_rfl) (fun _ _ _ h => h) (Or.inl ⟨by rfl, by intro w _; go_simp⟩) K9 ?_
    go_simp
    refine wpAnyH_done (by kernel_rfl) ?_ _
    go_wp2
    refine bodyPost_ret (results_cell3 (u := .int .i64 3) (u2 := .int .i64 (k5 - 1)) Tryd.results6 rfl rfl rfl (load_box (P := Tryd.prog) H9 Tryd.underlying34 (by kernel_rfl) rfl)) rfl ?_
    exact ⟨d, A, _, _, rfl, lg, ly, own_base (own_low xw5 g9 (by omega)) (by omega), own_base (own_low yw5 g9 (by omega)) (by omega), below_only Bw5 g9 (by omega)⟩
  have hb1 : (k3 == 1) = false := by simpa using h1
  have hd1 : decide (k3 = 1) = false := by simpa using h1
  clear h1
  by_cases h2 : k3 = 2
  · subst h2
    go_wp2_with fail
    refine wp_region_held_drew (S := fun v => v.heap[bx]? = some (.cells (portC d A) 34 (0, 0))) (by kernel_rfl) K4d (fun _ => ?_)
    refine wpAnyH_take (i := 0) (v := .agg (portC d A)) rfl (by kernel_rfl) (by kernel_rfl) (by kernel_rfl) (fun _ _ _ h => h) (yieldsIf_load_box (n := 18) (off := 0) rfl rfl rfl (fun _ h => h) Tryd.underlying34 (by kernel_rfl) (Nat.le_of_ble_eq_true rfl) _ rfl) K4d ?_
    go_simp
    refine wpAnyH_take (i := 1) (v := .pointer (some ⟨rb, 0, none⟩)) rfl (by kernel_rfl) (by kernel_rfl) (by kernel_rfl) (fun _ _ _ h => h) (Or.inl ⟨by rfl, by intro w _; go_simp⟩) K4d ?_
    go_simp
    refine wpAnyH_ready (rs := [2]) (by kernel_rfl) (by simp) (AllReadyH.cons rfl (fun KK hK => ?_) AllReadyH.nil)
    go_simp
    go_at_call 16
    refine (pick_any rb _ 6 _ R4d (by omega)).mono ?_
    rintro e w5 ⟨k5, rfl, k50, k51, Rw5, gw5⟩
    have Kw5 := box_only' K4d gw5 (by omega)
    go_simp
    refine hK.out _ _ Kw5 (fun _ => ?_)
    clear hK KK
    have Hw5 := box_only' H4d gw5 (by omega)
    have Bw5 := below_only B4d gw5 (by omega)
    have zw5 := gw5.size
    have xw5 : OwnG w5 w1.heap.size A.ax A.cx d.gs := own_low oxd gw5 (by omega)
    have yw5 : OwnI w5 w1.heap.size A.ay A.cy d.ys := own_low oyd gw5 (by omega)
    have hwr : IntKind.i64.wrap (k5 - 1) = k5 - 1 := IntWalk.i64_in _ (by omega)
    refine wpAnyH_take (i := 3) (v := .int .i64 (k5 - 1)) rfl (by kernel_rfl) (by kernel_rfl) (by kernel_rfl) (fun _ _ _ h => h) (Or.inl ⟨by rfl, by intro w _; go_simp⟩) Kw5 ?_
    go_simp
    refine wpAnyH_ready (rs := [4]) (by kernel_rfl) (by simp) (AllReadyH.cons rfl (fun KK hK => ?_) AllReadyH.nil)
    refine step_store_any rfl rfl rfl (b := w.heap.size) (off := 0) (n := 18) rfl rfl (vs := portC d A) rfl Hw5 (by kernel_rfl) rfl rfl (Nat.le_of_ble_eq_true rfl) (portC d A) rfl ?_
    intro w9 H9 g9
    have K9 := box_only' Kw5 g9 (by omega)
    refine hK.out _ _ K9 (fun _ => ?_)
    clear hK KK
    refine wpAnyH_take (i := 5) (v := .int .i64 4) rfl (by kernel_rfl) (by kernel_rfl) (by kernel_rfl) (fun _ _ _ h => h) (Or.inl ⟨by rfl, by intro w _; go_simp⟩) K9 ?_
    go_simp
    refine wpAnyH_take (i := 6) (v := .int .i64 (k5 - 1)) rfl (by kernel_rfl) (by kernel_rfl) (by kernel_rfl) (fun _ _ _ h => h) (Or.inl ⟨by rfl, by intro w _; go_simp⟩) K9 ?_
    go_simp
    refine wpAnyH_done (by kernel_rfl) ?_ _
    go_wp2
    refine bodyPost_ret (results_cell3 (u := .int .i64 4) (u2 := .int .i64 (k5 - 1)) Tryd.results6 rfl rfl rfl (load_box (P := Tryd.prog) H9 Tryd.underlying34 (by kernel_rfl) rfl)) rfl ?_
    exact ⟨d, A, _, _, rfl, lg, ly, own_base (own_low xw5 g9 (by omega)) (by omega), own_base (own_low yw5 g9 (by omega)) (by omega), below_only Bw5 g9 (by omega)⟩
  have hb2 : (k3 == 2) = false := by simpa using h2
  have hd2 : decide (k3 = 2) = false := by simpa using h2
  clear h2
  by_cases h3 : k3 = 3
  · subst h3
    go_wp2_with fail
    refine wp_region_held_drew (S := fun v => v.heap[bx]? = some (.cells (portC d A) 34 (0, 0))) (by kernel_rfl) K4d (fun _ => ?_)
    refine wpAnyH_take (i := 0) (v := .agg (portC d A)) rfl (by kernel_rfl) (by kernel_rfl) (by kernel_rfl) (fun _ _ _ h => h) (yieldsIf_load_box (n := 18) (off := 0) rfl rfl rfl (fun _ h => h) Tryd.underlying34 (by kernel_rfl) (Nat.le_of_ble_eq_true rfl) _ rfl) K4d ?_
    go_simp
    refine wpAnyH_take (i := 1) (v := .pointer (some ⟨rb, 0, none⟩)) rfl (by kernel_rfl) (by kernel_rfl) (by kernel_rfl) (fun _ _ _ h => h) (Or.inl ⟨by rfl, by intro w _; go_simp⟩) K4d ?_
    go_simp
    refine wpAnyH_take (i := 4) (v := .pointer (some ⟨rb, 0, none⟩)) rfl (by kernel_rfl) (by kernel_rfl) (by kernel_rfl) (fun _ _ _ h => h) (Or.inl ⟨by rfl, by intro w _; go_simp⟩) K4d ?_
    go_simp
    refine wpAnyH_ready (rs := [2]) (by kernel_rfl) (by simp) (AllReadyH.cons rfl (fun KK hK => ?_) AllReadyH.nil)
    go_simp
    go_at_call 16
    refine (pick_any rb _ 9 _ R4d (by omega)).mono ?_
    rintro e w5 ⟨k5, rfl, k50, k51, Rw5, gw5⟩
    have Kw5 := box_only' K4d gw5 (by omega)
    go_simp
    refine hK.out _ _ Kw5 (fun _ => ?_)
    clear hK KK
    have Hw5 := box_only' H4d gw5 (by omega)
    have Bw5 := below_only B4d gw5 (by omega)
    have zw5 := gw5.size
    have xw5 : OwnG w5 w1.heap.size A.ax A.cx d.gs := own_low oxd gw5 (by omega)
    have yw5 : OwnI w5 w1.heap.size A.ay A.cy d.ys := own_low oyd gw5 (by omega)
    have hwr : IntKind.i64.wrap (k5 - 1) = k5 - 1 := IntWalk.i64_in _ (by omega)
    refine wpAnyH_take (i := 3) (v := .int .i64 (k5 - 1)) rfl (by kernel_rfl) (by kernel_rfl) (by kernel_rfl) (fun _ _ _ h => h) (Or.inl ⟨by rfl, by intro w _; go_simp⟩) Kw5 ?_
    go_simp
    refine wpAnyH_ready (rs := [5]) (by kernel_rfl) (by simp) (AllReadyH.cons rfl (fun KK hK => ?_) AllReadyH.nil)
    go_simp
    go_at_call 16
    refine (pick_any rb _ 20 _ Rw5 (by omega)).mono ?_
    rintro e w6 ⟨k6, rfl, k60, k61, Rw6, gw6⟩
    have Kw6 := box_only' Kw5 gw6 (by omega)
    go_simp
    refine hK.out _ _ Kw6 (fun _ => ?_)
    clear hK KK
    have Hw6 := box_only' Hw5 gw6 (by omega)
    have Bw6 := below_only Bw5 gw6 (by omega)
    have zw6 := gw6.size
    have xw6 : OwnG w6 w1.heap.size A.ax A.cx d.gs := own_low xw5 gw6 (by omega)
    have yw6 : OwnI w6 w1.heap.size A.ay A.cy d.ys := own_low yw5 gw6 (by omega)
    refine wpAnyH_ready (rs := [6]) (by kernel_rfl) (by simp) (AllReadyH.cons rfl (fun KK hK => ?_) AllReadyH.nil)
    refine step_store_any rfl rfl rfl (b := w.heap.size) (off := 0) (n := 18) rfl rfl (vs := portC d A) rfl Hw6 (by kernel_rfl) rfl rfl (Nat.le_of_ble_eq_true rfl) (portC d A) rfl ?_
    intro w9 H9 g9
    have K9 := box_only' Kw6 g9 (by omega)
    refine hK.out _ _ K9 (fun _ => ?_)
    clear hK KK
    refine wpAnyH_take (i := 7) (v := .int .i64 (k5 - 1)) rfl (by kernel_rfl) (by kernel_rfl) (by kernel_rfl) (fun _ _ _ h => h) (Or.inl ⟨by rfl, by intro w _; go_simp⟩) K9 ?_
    go_simp
    refine wpAnyH_take (i := 8) (v := .int .i64 k6) rfl (by kernel_rfl) (by kernel_rfl) (by kernel_rfl) (fun _ _ _ h => h) (Or.inl ⟨by rfl, by intro w _; go_simp⟩) K9 ?_
    go_simp
    refine wpAnyH_done (by kernel_rfl) ?_ _
    go_wp2
    refine bodyPost_ret (results_cell3 (u := .int .i64 (k5 - 1)) (u2 := .int .i64 k6) Tryd.results6 rfl rfl rfl (load_box (P := Tryd.prog) H9 Tryd.underlying34 (by kernel_rfl) rfl)) rfl ?_
    exact ⟨d, A, _, _, rfl, lg, ly, own_base (own_low xw6 g9 (by omega)) (by omega), own_base (own_low yw6 g9 (by omega)) (by omega), below_only Bw6 g9 (by omega)⟩
  have hb3 : (k3 == 3) = false := by simpa using h3
  have hd3 : decide (k3 = 3) = false := by simpa using h3
  clear h3
  go_wp2_with fail
  refine wp_region_held_drew (S := fun v => v.heap[bx]? = some (.cells (portC d A) 34 (0, 0))) (by kernel_rfl) K4d (fun _ => ?_)
  refine wpAnyH_take (i := 0) (v := .agg (portC d A)) rfl (by kernel_rfl) (by kernel_rfl) (by kernel_rfl) (fun _ _ _ h => h) (yieldsIf_load_box (n := 18) (off := 0) rfl rfl rfl (fun _ h => h) Tryd.underlying34 (by kernel_rfl) (Nat.le_of_ble_eq_true rfl) _ rfl) K4d ?_
  go_simp
  refine wpAnyH_take (i := 1) (v := .pointer (some ⟨rb, 0, none⟩)) rfl (by kernel_rfl) (by kernel_rfl) (by kernel_rfl) (fun _ _ _ h => h) (Or.inl ⟨by rfl, by intro w _; go_simp⟩) K4d ?_
  go_simp
  refine wpAnyH_ready (rs := [2]) (by kernel_rfl) (by simp) (AllReadyH.cons rfl (fun KK hK => ?_) AllReadyH.nil)
  go_simp
  go_at_call 16
  refine (pick_any rb _ 256 _ R4d (by omega)).mono ?_
  rintro e w5 ⟨k5, rfl, k50, k51, Rw5, gw5⟩
  have Kw5 := box_only' K4d gw5 (by omega)
  go_simp
  refine hK.out _ _ Kw5 (fun _ => ?_)
  clear hK KK
  have Hw5 := box_only' H4d gw5 (by omega)
  have Bw5 := below_only B4d gw5 (by omega)
  have zw5 := gw5.size
  have xw5 : OwnG w5 w1.heap.size A.ax A.cx d.gs := own_low oxd gw5 (by omega)
  have yw5 : OwnI w5 w1.heap.size A.ay A.cy d.ys := own_low oyd gw5 (by omega)
  refine wpAnyH_ready (rs := [3]) (by kernel_rfl) (by simp) (AllReadyH.cons rfl (fun KK hK => ?_) AllReadyH.nil)
  refine step_store_any rfl rfl rfl (b := w.heap.size) (off := 0) (n := 18) rfl rfl (vs := portC d A) rfl Hw5 (by kernel_rfl) rfl rfl (Nat.le_of_ble_eq_true rfl) (portC d A) rfl ?_
  intro w9 H9 g9
  have K9 := box_only' Kw5 g9 (by omega)
  refine hK.out _ _ K9 (fun _ => ?_)
  clear hK KK
  refine wpAnyH_take (i := 4) (v := .int .i64 0) rfl (by kernel_rfl) (by kernel_rfl) (by kernel_rfl) (fun _ _ _ h => h) (Or.inl ⟨by rfl, by intro w _; go_simp⟩) K9 ?_
  go_simp
  refine wpAnyH_take (i := 5) (v := .int .i64 k5) rfl (by kernel_rfl) (by kernel_rfl) (by kernel_rfl) (fun _ _ _ h => h) (Or.inl ⟨by rfl, by intro w _; go_simp⟩) K9 ?_
  go_simp
  refine wpAnyH_done (by kernel_rfl) ?_ _
  go_wp2
  refine bodyPost_ret (results_cell3 (u := .int .i64 0) (u2 := .int .i64 k5) Tryd.results6 rfl rfl rfl (load_box (P := Tryd.prog) H9 Tryd.underlying34 (by kernel_rfl) rfl)) rfl ?_
  exact ⟨d, A, _, _, rfl, lg, ly, own_base (own_low xw5 g9 (by omega)) (by omega), own_base (own_low yw5 g9 (by omega)) (by omega), below_only Bw5 g9 (by omega)⟩
end Go.Proofs.YtkmampichfbppaaDoor
