/- The draw of DriverTake. -/
import Derived.Test.YtkmampichfbppaaDrvDraw3
import Derived.Test.YtkmampichfbppaaStore3
namespace Go.Proofs.Ytkmampichfbppaa
open Go.RowKit

set_option maxHeartbeats 4000000 in
set_option maxRecDepth 100000 in
theorem drawDriverTake_any (ao : Option Addr) (bs : List Int) (c : Nat) (w : World) (h : Bytes w ao bs) (hc : bs.length ≤ c) (lx : bs.length ≤ 1048576) :
    Calls Try.prog 24 #[.slice ao bs.length c] w fun e w' => ∃ (d : DrvD) (A : DrvA) (m : Int), e = .returned (.tuple #[.agg (drvC d A), .int .i64 m]) ∧ d.p.gs.length ≤ 6 ∧ d.p.ys.length ≤ 6 ∧ d.i.length ≤ 33 ∧ d.o.length ≤ 32 ∧ DrvO w' w.heap.size d A ∧ Below w.heap.size w w' := by
  go_enter Try.func24, Try.ntmps24
  go_wp2_with fail
  refine name_calls fun W hW => ?_
  have BW : Below w.heap.size w W := by rw [hW]; exact (Below.refl _ _).alloc (Nat.le_refl _) _
  have H0 : W.heap[w.heap.size]? = some (.cells (drvC zDrv zDrvA) 46 (0, 0)) := by rw [hW]; exact heap_new_at _ _ _ rfl
  have zW : w.heap.size + 1 ≤ W.heap.size := by rw [hW]; simp
  clear hW
  refine (l6Open_any ao bs c W (h.below BW) hc (by omega)).mono ?_
  rintro e w1 ⟨rb, rfl, hrb, R1, b1⟩
  have H1 := (b1.block _ (box_lt H0)).trans H0
  have B1 := BW.trans (b1.mono BW.size)
  have z1 := b1.size
  have l1 := R1.lt
  clear H0 BW b1 h
  go_wp2_with fail
  refine (l92Driver_any rb 0 w1 R1 (by omega)).mono ?_
  rintro e w2 ⟨d, A, rfl, lg, ly, li, lo, DO, R2, g2⟩
  have H2 := box_only' H1 g2 (by omega)
  have B2 := below_only B1 g2 (by omega)
  have z2 := g2.size
  have ox : OwnG w2 w1.heap.size A.p.ax A.p.cx d.p.gs := DO.1
  have oy : OwnI w2 w1.heap.size A.p.ay A.p.cy d.p.ys := DO.2.1
  have oi : OwnI w2 w1.heap.size A.ai A.ci d.i := DO.2.2.1
  have oo : OwnI w2 w1.heap.size A.ao A.co d.o := DO.2.2.2
  clear DO H1 B1
  go_wp2_with (first
    | (refine wpList_store_any _ rfl rfl (by rfl) (b := w2.heap.size) (off := 0) (n := 22) rfl rfl (vs := drvC d A) rfl (heap_new_at w2 (.cells (drvC zDrv zDrvA) 46) _ rfl) (by kernel_rfl) rfl rfl (Nat.le_of_ble_eq_true rfl) (drvC d A) rfl ?_
       intro w3 K3 g3))
  have b3 : Below w2.heap.size w2 w3 := below_only ((Below.refl _ _).alloc (Nat.le_refl _) _) g3 (Nat.le_refl _)
  have z3 := b3.size
  have lK := box_lt K3
  have H3 := (b3.block _ (box_lt H2)).trans H2
  have B3 := B2.trans (b3.mono B2.size)
  replace ox := own_below ox b3
  replace oy := own_below oy b3
  replace oi := own_below oi b3
  replace oo := own_below oo b3
  have R3 := R2.below b3
  clear H2 B2 g3 b3
  generalize hbx : w2.heap.size = bx at *
  refine (pick_any rb _ 20 w3 R3 (by omega)).mono ?_
  rintro e w4 ⟨k3, rfl, k30, k31, R4, g4⟩
  have z4 := g4.size
  have K4 := box_only' K3 g4 (by omega)
  have H4 := box_only' H3 g4 (by omega)
  have B4 := below_only B3 g4 (by omega)
  have l2 := R2.lt
  replace ox := own_low ox g4 (by omega)
  replace oy := own_low oy g4 (by omega)
  replace oi := own_low oi g4 (by omega)
  replace oo := own_low oo g4 (by omega)
  clear K3 H3 B3 R3 g4 R2
  have R4d : Rd w4.drew rb _ := R4.below (Below.refl _ _).drew
  have K4d : w4.drew.heap[bx]? = some (.cells (drvC d A) 46 (0, 0)) := K4
  have H4d : w4.drew.heap[w.heap.size]? = some (.cells (drvC zDrv zDrvA) 46 (0, 0)) := H4
  have B4d : Below w.heap.size w w4.drew := B4.drew
  have oxd : w4.drew.ownsRow w1.heap.size 126 2 (.slice A.p.ax d.p.gs.length A.p.cx) d.p.gs.length (d.p.gs.flatMap gtCells) := ox
  have oyd : w4.drew.ownsRow w1.heap.size 3 1 (.slice A.p.ay d.p.ys.length A.p.cy) d.p.ys.length (d.p.ys.map (Value.int .i64)) := oy
  have oid : w4.drew.ownsRow w1.heap.size 3 1 (.slice A.ai d.i.length A.ci) d.i.length (d.i.map (Value.int .i64)) := oi
  have ood : w4.drew.ownsRow w1.heap.size 3 1 (.slice A.ao d.o.length A.co) d.o.length (d.o.map (Value.int .i64)) := oo
  by_cases h3 : k3 = 0
  · subst h3
    have l1d := R4d.lt
    have ld : w3.heap.size ≤ w4.drew.heap.size := z4
    go_wp2_with fail
    refine wp_region_held_drew (S := fun v => v.heap[bx]? = some (.cells (drvC d A) 46 (0, 0))) (by kernel_rfl) K4d (fun _ => ?_)
    refine wpAnyH_take (i := 0) (v := .agg (drvC d A)) rfl (by kernel_rfl) (by kernel_rfl) (by kernel_rfl) (fun _ _ _ h => h) (yieldsIf_load_box (n := 22) (off := 0) rfl rfl rfl (fun _ h => h) Try.underlying46 (by kernel_rfl) (Nat.le_of_ble_eq_true rfl) _ rfl) K4d ?_
    go_simp
    refine wpAnyH_take (i := 2) (v := .pointer (some ⟨rb, 0, none⟩)) rfl (by kernel_rfl) (by kernel_rfl) (by kernel_rfl) (fun _ _ _ h => h) (Or.inl ⟨by rfl, by intro w _; go_simp⟩) K4d ?_
    go_simp
    refine wpAnyH_ready (rs := [1, 3]) (by kernel_rfl) (by simp) (AllReadyH.cons rfl (fun K hK => ?_) (AllReadyH.cons rfl (fun K hK => ?_) AllReadyH.nil))
    · go_simp
      refine hK.out _ _ (box_alloc K4d _) (fun _ => ?_)
      clear hK K
      have rA := ints_new w4.drew [-1, 32, 33] #[.int .i64 (-1), .int .i64 32, .int .i64 33] 3 rfl
      have KA := box_alloc K4d (.cells #[.int .i64 (-1), .int .i64 32, .int .i64 33] 3)
      have HA := box_alloc H4d (.cells #[.int .i64 (-1), .int .i64 32, .int .i64 33] 3)
      have BA := B4d.alloc B4d.size (.cells #[.int .i64 (-1), .int .i64 32, .int .i64 33] 3)
      have RA := rd_alloc R4d (.cells #[.int .i64 (-1), .int .i64 32, .int .i64 33] 3)
      have xA := World.ownsRow.alloc oxd (.cells #[.int .i64 (-1), .int .i64 32, .int .i64 33] 3)
      have yA := World.ownsRow.alloc oyd (.cells #[.int .i64 (-1), .int .i64 32, .int .i64 33] 3)
      have iA := World.ownsRow.alloc oid (.cells #[.int .i64 (-1), .int .i64 32, .int .i64 33] 3)
      have oA := World.ownsRow.alloc ood (.cells #[.int .i64 (-1), .int .i64 32, .int .i64 33] 3)
      have zA : w4.drew.heap.size < (w4.drew.alloc (.cells #[.int .i64 (-1), .int .i64 32, .int .i64 33] 3)).heap.size := by simp
      rw [show (w4.alloc (.cells #[.int .i64 (-1), .int .i64 32, .int .i64 33] 3)).drew = w4.drew.alloc (.cells #[.int .i64 (-1), .int .i64 32, .int .i64 33] 3) from rfl]
      generalize w4.drew.alloc (.cells #[.int .i64 (-1), .int .i64 32, .int .i64 33] 3) = V at *
      rw [show w4.drew.heap.size = w4.heap.size from rfl] at rA zA
      generalize w4.heap.size = sb at *
      refine wpAnyH_ready (rs := [3]) (by kernel_rfl) (by simp) (AllReadyH.cons rfl (fun K hK => ?_) AllReadyH.nil)
      go_simp
      go_at_call 48
      refine (pick_any rb _ 3 _ RA (by omega)).mono ?_
      rintro e w5 ⟨k5, rfl, k50, k51, R5, g5⟩
      have K5 := box_only' KA g5 (by omega)
      go_simp
      refine hK.out _ _ K5 (fun _ => ?_)
      clear hK K
      have H5 := box_only' HA g5 (by omega)
      have B5 := below_only BA g5 (by omega)
      have z5 := g5.size
      have x5 := own_low xA g5 (by omega)
      have y5 := own_low yA g5 (by omega)
      have i5 := own_low iA g5 (by omega)
      have o5 := own_low oA g5 (by omega)
      have r5 := cells_only rA g5 (by omega)
      obtain ⟨j, rfl⟩ := Int.eq_ofNat_of_zero_le k50
      have hj : j < 3 := by omega
      have hjI : (j : Int) < 3 := by omega
      refine wpAnyH_take (i := 4) (v := .pointer (some ⟨sb, j, none⟩)) rfl (by kernel_rfl) (by kernel_rfl) (by kernel_rfl) (fun _ _ _ h => h) (Or.inl ⟨by rfl, by intro w _; go_simp⟩) K5 ?_
      go_simp
      refine wpAnyH_ready (rs := [5, 6]) (by kernel_rfl) (by simp) (AllReadyH.cons rfl (fun K hK => ?_) (AllReadyH.cons rfl (fun K hK => ?_) AllReadyH.nil))
      · obtain ⟨b, off, v, hb, hv, hcv⟩ := Ints.at_ r5 (k := j) hj
        injection hb with hb
        injection hb with hb1 hb2 _
        subst hb1 hb2
        rw [Nat.zero_add] at hcv
        go_simp
        refine hK.out _ _ K5 (fun _ => ?_)
        clear hK K
        refine wpAnyH_ready (rs := [6]) (by kernel_rfl) (by simp) (AllReadyH.cons rfl (fun K hK => ?_) AllReadyH.nil)
        refine step_store_any rfl rfl rfl (b := w.heap.size) (off := 0) (n := 22) rfl rfl (vs := drvC d A) rfl H5 (by kernel_rfl) rfl rfl (Nat.le_of_ble_eq_true rfl) (drvC d A) rfl ?_
        intro w6 H6 g6
        have K6 := box_only' K5 g6 (by omega)
        have x6 := own_low x5 g6 (by omega)
        have y6 := own_low y5 g6 (by omega)
        have i6 := own_low i5 g6 (by omega)
        have o6 := own_low o5 g6 (by omega)
        have B6 := below_only B5 g6 (by omega)
        have z6 := g6.size
        refine hK.out _ _ K6 (fun _ => ?_)
        clear hK K
        refine wpAnyH_take (i := 7) (v := .int .i64 v) rfl (by kernel_rfl) (by kernel_rfl) (by kernel_rfl) (fun _ _ _ h => h) (Or.inl ⟨by rfl, by intro w _; go_simp⟩) K6 ?_
        go_simp
        refine wpAnyH_done (by kernel_rfl) ?_ _
        go_wp2
        refine bodyPost_ret (results_cell2 (u := .int .i64 v) Try.results24 rfl rfl (load_box (P := Try.prog) H6 Try.underlying46 (by kernel_rfl) rfl)) rfl ?_
        exact ⟨d, A, ⟨_, rfl⟩, lg, ly, li, lo, ⟨own_base x6 (by omega), own_base y6 (by omega), own_base i6 (by omega), own_base o6 (by omega)⟩, B6⟩
      · refine step_store_any rfl rfl rfl (b := w.heap.size) (off := 0) (n := 22) rfl rfl (vs := drvC d A) rfl H5 (by kernel_rfl) rfl rfl (Nat.le_of_ble_eq_true rfl) (drvC d A) rfl ?_
        intro w6 H6 g6
        have K6 := box_only' K5 g6 (by omega)
        have x6 := own_low x5 g6 (by omega)
        have y6 := own_low y5 g6 (by omega)
        have i6 := own_low i5 g6 (by omega)
        have o6 := own_low o5 g6 (by omega)
        have B6 := below_only B5 g6 (by omega)
        have z6 := g6.size
        refine hK.out _ _ K6 (fun _ => ?_)
        clear hK K
        have r6 := cells_only r5 g6 (by omega)
        obtain ⟨b, off, v, hb, hv, hcv⟩ := Ints.at_ r6 (k := j) hj
        injection hb with hb
        injection hb with hb1 hb2 _
        subst hb1 hb2
        rw [Nat.zero_add] at hcv
        refine wpAnyH_ready (rs := [5]) (by kernel_rfl) (by simp) (AllReadyH.cons rfl (fun K hK => ?_) AllReadyH.nil)
        go_simp
        refine hK.out _ _ K6 (fun _ => ?_)
        clear hK K
        refine wpAnyH_take (i := 7) (v := .int .i64 v) rfl (by kernel_rfl) (by kernel_rfl) (by kernel_rfl) (fun _ _ _ h => h) (Or.inl ⟨by rfl, by intro w _; go_simp⟩) K6 ?_
        go_simp
        refine wpAnyH_done (by kernel_rfl) ?_ _
        go_wp2
        refine bodyPost_ret (results_cell2 (u := .int .i64 v) Try.results24 rfl rfl (load_box (P := Try.prog) H6 Try.underlying46 (by kernel_rfl) rfl)) rfl ?_
        exact ⟨d, A, ⟨_, rfl⟩, lg, ly, li, lo, ⟨own_base x6 (by omega), own_base y6 (by omega), own_base i6 (by omega), own_base o6 (by omega)⟩, B6⟩
    · go_simp
      go_at_call 48
      refine (pick_any rb _ 3 _ R4d (by omega)).mono ?_
      rintro e w5 ⟨k5, rfl, k50, k51, R5, g5⟩
      have K5 := box_only' K4d g5 (by omega)
      go_simp
      refine hK.out _ _ K5 (fun _ => ?_)
      clear hK K
      have H5 := box_only' H4d g5 (by omega)
      have B5 := below_only B4d g5 (by omega)
      have z5 := g5.size
      have x5 := own_low oxd g5 (by omega)
      have y5 := own_low oyd g5 (by omega)
      have i5 := own_low oid g5 (by omega)
      have o5 := own_low ood g5 (by omega)
      refine wpAnyH_ready (rs := [1, 6]) (by kernel_rfl) (by simp) (AllReadyH.cons rfl (fun K hK => ?_) (AllReadyH.cons rfl (fun K hK => ?_) AllReadyH.nil))
      · go_simp
        refine hK.out _ _ (box_alloc K5 _) (fun _ => ?_)
        clear hK K
        have rA := ints_new w5 [-1, 32, 33] #[.int .i64 (-1), .int .i64 32, .int .i64 33] 3 rfl
        have KA := box_alloc K5 (.cells #[.int .i64 (-1), .int .i64 32, .int .i64 33] 3)
        have HA := box_alloc H5 (.cells #[.int .i64 (-1), .int .i64 32, .int .i64 33] 3)
        have BA := B5.alloc B5.size (.cells #[.int .i64 (-1), .int .i64 32, .int .i64 33] 3)
        have xA := World.ownsRow.alloc x5 (.cells #[.int .i64 (-1), .int .i64 32, .int .i64 33] 3)
        have yA := World.ownsRow.alloc y5 (.cells #[.int .i64 (-1), .int .i64 32, .int .i64 33] 3)
        have iA := World.ownsRow.alloc i5 (.cells #[.int .i64 (-1), .int .i64 32, .int .i64 33] 3)
        have oA := World.ownsRow.alloc o5 (.cells #[.int .i64 (-1), .int .i64 32, .int .i64 33] 3)
        have zA : w5.heap.size < (w5.alloc (.cells #[.int .i64 (-1), .int .i64 32, .int .i64 33] 3)).heap.size := by simp
        generalize w5.alloc (.cells #[.int .i64 (-1), .int .i64 32, .int .i64 33] 3) = V at *
        generalize w5.heap.size = sb at *
        obtain ⟨j, rfl⟩ := Int.eq_ofNat_of_zero_le k50
        have hj : j < 3 := by omega
        have hjI : (j : Int) < 3 := by omega
        refine wpAnyH_take (i := 4) (v := .pointer (some ⟨sb, j, none⟩)) rfl (by kernel_rfl) (by kernel_rfl) (by kernel_rfl) (fun _ _ _ h => h) (Or.inl ⟨by rfl, by intro w _; go_simp⟩) KA ?_
        go_simp
        refine wpAnyH_ready (rs := [5, 6]) (by kernel_rfl) (by simp) (AllReadyH.cons rfl (fun K hK => ?_) (AllReadyH.cons rfl (fun K hK => ?_) AllReadyH.nil))
        · obtain ⟨b, off, v, hb, hv, hcv⟩ := Ints.at_ rA (k := j) hj
          injection hb with hb
          injection hb with hb1 hb2 _
          subst hb1 hb2
          rw [Nat.zero_add] at hcv
          go_simp
          refine hK.out _ _ KA (fun _ => ?_)
          clear hK K
          refine wpAnyH_ready (rs := [6]) (by kernel_rfl) (by simp) (AllReadyH.cons rfl (fun K hK => ?_) AllReadyH.nil)
          refine step_store_any rfl rfl rfl (b := w.heap.size) (off := 0) (n := 22) rfl rfl (vs := drvC d A) rfl HA (by kernel_rfl) rfl rfl (Nat.le_of_ble_eq_true rfl) (drvC d A) rfl ?_
          intro w6 H6 g6
          have K6 := box_only' KA g6 (by omega)
          have x6 := own_low xA g6 (by omega)
          have y6 := own_low yA g6 (by omega)
          have i6 := own_low iA g6 (by omega)
          have o6 := own_low oA g6 (by omega)
          have B6 := below_only BA g6 (by omega)
          have z6 := g6.size
          refine hK.out _ _ K6 (fun _ => ?_)
          clear hK K
          refine wpAnyH_take (i := 7) (v := .int .i64 v) rfl (by kernel_rfl) (by kernel_rfl) (by kernel_rfl) (fun _ _ _ h => h) (Or.inl ⟨by rfl, by intro w _; go_simp⟩) K6 ?_
          go_simp
          refine wpAnyH_done (by kernel_rfl) ?_ _
          go_wp2
          refine bodyPost_ret (results_cell2 (u := .int .i64 v) Try.results24 rfl rfl (load_box (P := Try.prog) H6 Try.underlying46 (by kernel_rfl) rfl)) rfl ?_
          exact ⟨d, A, ⟨_, rfl⟩, lg, ly, li, lo, ⟨own_base x6 (by omega), own_base y6 (by omega), own_base i6 (by omega), own_base o6 (by omega)⟩, B6⟩
        · refine step_store_any rfl rfl rfl (b := w.heap.size) (off := 0) (n := 22) rfl rfl (vs := drvC d A) rfl HA (by kernel_rfl) rfl rfl (Nat.le_of_ble_eq_true rfl) (drvC d A) rfl ?_
          intro w6 H6 g6
          have K6 := box_only' KA g6 (by omega)
          have x6 := own_low xA g6 (by omega)
          have y6 := own_low yA g6 (by omega)
          have i6 := own_low iA g6 (by omega)
          have o6 := own_low oA g6 (by omega)
          have B6 := below_only BA g6 (by omega)
          have z6 := g6.size
          refine hK.out _ _ K6 (fun _ => ?_)
          clear hK K
          have r6 := cells_only rA g6 (by omega)
          obtain ⟨b, off, v, hb, hv, hcv⟩ := Ints.at_ r6 (k := j) hj
          injection hb with hb
          injection hb with hb1 hb2 _
          subst hb1 hb2
          rw [Nat.zero_add] at hcv
          refine wpAnyH_ready (rs := [5]) (by kernel_rfl) (by simp) (AllReadyH.cons rfl (fun K hK => ?_) AllReadyH.nil)
          go_simp
          refine hK.out _ _ K6 (fun _ => ?_)
          clear hK K
          refine wpAnyH_take (i := 7) (v := .int .i64 v) rfl (by kernel_rfl) (by kernel_rfl) (by kernel_rfl) (fun _ _ _ h => h) (Or.inl ⟨by rfl, by intro w _; go_simp⟩) K6 ?_
          go_simp
          refine wpAnyH_done (by kernel_rfl) ?_ _
          go_wp2
          refine bodyPost_ret (results_cell2 (u := .int .i64 v) Try.results24 rfl rfl (load_box (P := Try.prog) H6 Try.underlying46 (by kernel_rfl) rfl)) rfl ?_
          exact ⟨d, A, ⟨_, rfl⟩, lg, ly, li, lo, ⟨own_base x6 (by omega), own_base y6 (by omega), own_base i6 (by omega), own_base o6 (by omega)⟩, B6⟩
      · refine step_store_any rfl rfl rfl (b := w.heap.size) (off := 0) (n := 22) rfl rfl (vs := drvC d A) rfl H5 (by kernel_rfl) rfl rfl (Nat.le_of_ble_eq_true rfl) (drvC d A) rfl ?_
        intro w6 H6 g6
        have K6 := box_only' K5 g6 (by omega)
        have x6 := own_low x5 g6 (by omega)
        have y6 := own_low y5 g6 (by omega)
        have i6 := own_low i5 g6 (by omega)
        have o6 := own_low o5 g6 (by omega)
        have B6 := below_only B5 g6 (by omega)
        have z6 := g6.size
        refine hK.out _ _ K6 (fun _ => ?_)
        clear hK K
        refine wpAnyH_ready (rs := [1]) (by kernel_rfl) (by simp) (AllReadyH.cons rfl (fun K hK => ?_) AllReadyH.nil)
        go_simp
        refine hK.out _ _ (box_alloc K6 _) (fun _ => ?_)
        clear hK K
        have rA := ints_new w6 [-1, 32, 33] #[.int .i64 (-1), .int .i64 32, .int .i64 33] 3 rfl
        have KA := box_alloc K6 (.cells #[.int .i64 (-1), .int .i64 32, .int .i64 33] 3)
        have HA := box_alloc H6 (.cells #[.int .i64 (-1), .int .i64 32, .int .i64 33] 3)
        have BA := B6.alloc B6.size (.cells #[.int .i64 (-1), .int .i64 32, .int .i64 33] 3)
        have xA := World.ownsRow.alloc x6 (.cells #[.int .i64 (-1), .int .i64 32, .int .i64 33] 3)
        have yA := World.ownsRow.alloc y6 (.cells #[.int .i64 (-1), .int .i64 32, .int .i64 33] 3)
        have iA := World.ownsRow.alloc i6 (.cells #[.int .i64 (-1), .int .i64 32, .int .i64 33] 3)
        have oA := World.ownsRow.alloc o6 (.cells #[.int .i64 (-1), .int .i64 32, .int .i64 33] 3)
        have zA : w6.heap.size < (w6.alloc (.cells #[.int .i64 (-1), .int .i64 32, .int .i64 33] 3)).heap.size := by simp
        generalize w6.alloc (.cells #[.int .i64 (-1), .int .i64 32, .int .i64 33] 3) = V at *
        generalize w6.heap.size = sb at *
        obtain ⟨j, rfl⟩ := Int.eq_ofNat_of_zero_le k50
        have hj : j < 3 := by omega
        have hjI : (j : Int) < 3 := by omega
        refine wpAnyH_take (i := 4) (v := .pointer (some ⟨sb, j, none⟩)) rfl (by kernel_rfl) (by kernel_rfl) (by kernel_rfl) (fun _ _ _ h => h) (Or.inl ⟨by rfl, by intro w _; go_simp⟩) KA ?_
        go_simp
        obtain ⟨b, off, v, hb, hv, hcv⟩ := Ints.at_ rA (k := j) hj
        injection hb with hb
        injection hb with hb1 hb2 _
        subst hb1 hb2
        rw [Nat.zero_add] at hcv
        refine wpAnyH_ready (rs := [5]) (by kernel_rfl) (by simp) (AllReadyH.cons rfl (fun K hK => ?_) AllReadyH.nil)
        go_simp
        refine hK.out _ _ KA (fun _ => ?_)
        clear hK K
        refine wpAnyH_take (i := 7) (v := .int .i64 v) rfl (by kernel_rfl) (by kernel_rfl) (by kernel_rfl) (fun _ _ _ h => h) (Or.inl ⟨by rfl, by intro w _; go_simp⟩) KA ?_
        go_simp
        refine wpAnyH_done (by kernel_rfl) ?_ _
        go_wp2
        refine bodyPost_ret (results_cell2 (u := .int .i64 v) Try.results24 rfl rfl (load_box (P := Try.prog) HA Try.underlying46 (by kernel_rfl) rfl)) rfl ?_
        exact ⟨d, A, ⟨_, rfl⟩, lg, ly, li, lo, ⟨own_base xA (by omega), own_base yA (by omega), own_base iA (by omega), own_base oA (by omega)⟩, BA⟩
  · have hb3 : (k3 == 0) = false := by simpa using h3
    clear h3
    go_wp2_with fail
    refine wp_region_held_drew (S := fun v => v.heap[bx]? = some (.cells (drvC d A) 46 (0, 0))) (by kernel_rfl) K4d (fun _ => ?_)
    refine wpAnyH_take (i := 0) (v := .agg (drvC d A)) rfl (by kernel_rfl) (by kernel_rfl) (by kernel_rfl) (fun _ _ _ h => h) (yieldsIf_load_box (n := 22) (off := 0) rfl rfl rfl (fun _ h => h) Try.underlying46 (by kernel_rfl) (Nat.le_of_ble_eq_true rfl) _ rfl) K4d ?_
    go_simp
    refine wpAnyH_take (i := 1) (v := .pointer (some ⟨rb, 0, none⟩)) rfl (by kernel_rfl) (by kernel_rfl) (by kernel_rfl) (fun _ _ _ h => h) (Or.inl ⟨by rfl, by intro w _; go_simp⟩) K4d ?_
    go_simp
    refine wpAnyH_ready (rs := [2]) (by kernel_rfl) (by simp) (AllReadyH.cons rfl (fun K hK => ?_) AllReadyH.nil)
    go_simp
    go_at_call 48
    refine (pick_any rb _ 10 _ R4d (by omega)).mono ?_
    rintro e w5 ⟨k5, rfl, k50, k51, R5, g5⟩
    have K5 := box_only' K4d g5 (by omega)
    go_simp
    refine hK.out _ _ K5 (fun _ => ?_)
    clear hK K
    have H5 := box_only' H4d g5 (by omega)
    have B5 := below_only B4d g5 (by omega)
    have z5 := g5.size
    refine wpAnyH_ready (rs := [3]) (by kernel_rfl) (by simp) (AllReadyH.cons rfl (fun K hK => ?_) AllReadyH.nil)
    refine step_store_any rfl rfl rfl (b := w.heap.size) (off := 0) (n := 22) rfl rfl (vs := drvC d A) rfl H5 (by kernel_rfl) rfl rfl (Nat.le_of_ble_eq_true rfl) (drvC d A) rfl ?_
    intro w6 H6 g6
    have K6 := box_only' K5 g6 (by omega)
    refine hK.out _ _ K6 (fun _ => ?_)
    clear hK K
    refine wpAnyH_take (i := 4) (v := .int .i64 k5) rfl (by kernel_rfl) (by kernel_rfl) (by kernel_rfl) (fun _ _ _ h => h) (Or.inl ⟨by rfl, by intro w _; go_simp⟩) K6 ?_
    go_simp
    refine wpAnyH_done (by kernel_rfl) ?_ _
    go_wp2
    refine bodyPost_ret (results_cell2 (u := .int .i64 (k5)) Try.results24 rfl rfl (load_box (P := Try.prog) H6 Try.underlying46 (by kernel_rfl) rfl)) rfl ?_
    exact ⟨d, A, _, rfl, lg, ly, li, lo, ⟨own_base (own_low (own_low oxd g5 (by omega)) g6 (by omega)) (by omega), own_base (own_low (own_low oyd g5 (by omega)) g6 (by omega)) (by omega), own_base (own_low (own_low oid g5 (by omega)) g6 (by omega)) (by omega), own_base (own_low (own_low ood g5 (by omega)) g6 (by omega)) (by omega)⟩, below_only B5 g6 (by omega)⟩
end Go.Proofs.Ytkmampichfbppaa
