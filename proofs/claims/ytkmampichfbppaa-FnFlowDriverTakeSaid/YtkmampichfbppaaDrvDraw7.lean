/- The draw of FlowDriver. -/
import Derived.Test.YtkmampichfbppaaDrvDraw4
import Derived.Test.YtkmampichfbppaaDrvDraw5
namespace Go.Proofs.Ytkmampichfbppaa
open Go.RowKit

theorem results_cells2 {P : Program} {fn : Func} {tmps : Array Value} {w : World} {k k2 b b2 : Nat} {T T2 : TypeId} {v u : Value} (hr : fn.results = #[.cell k T, .cell k2 T2]) (hk : tmps.getD k undef = .pointer (some ⟨b, 0, none⟩)) (hk2 : tmps.getD k2 undef = .pointer (some ⟨b2, 0, none⟩)) (hl : (loadVar T ⟨b, 0, none⟩).run P w = .ok v w) (hl2 : (loadVar T2 ⟨b2, 0, none⟩).run P w = .ok u w) :
    (results fn tmps).run P w = .ok (.tuple #[v, u]) w := by
  have hk' : tmps[k]?.getD undef = .pointer (some ⟨b, 0, none⟩) := by simpa using hk
  have hk2' : tmps[k2]?.getD undef = .pointer (some ⟨b2, 0, none⟩) := by simpa using hk2
  simp [results, hr, hk', hk2', hl, hl2, asAddr]
set_option maxHeartbeats 4000000 in
set_option maxRecDepth 100000 in
theorem drawFlowDriver_any (ao : Option Addr) (bs : List Int) (c : Nat) (w : World) (h : Bytes w ao bs) (hc : bs.length ≤ c) (lx : bs.length ≤ 1048576) :
    Calls Try.prog 29 #[.slice ao bs.length c] w fun e w' => ∃ (hi lo : Int) (d : DrvD) (A : DrvA), e = .returned (.tuple #[.agg #[.int .i64 hi, .int .i64 lo], .agg (drvC d A)]) ∧ d.p.gs.length ≤ 6 ∧ d.p.ys.length ≤ 6 ∧ d.i.length ≤ 33 ∧ d.o.length ≤ 32 ∧ DrvO w' w.heap.size d A ∧ Below w.heap.size w w' := by
  go_enter Try.func29, Try.ntmps29
  go_wp2_with fail
  refine name_calls fun W hW => ?_
  have BW : Below w.heap.size w W := by rw [hW]; exact ((Below.refl _ _).alloc (Nat.le_refl _) _).alloc (by simp) _
  have F0 : W.heap[w.heap.size]? = some (.cells #[.int .i64 0, .int .i64 0] 68 (0, 0)) := by rw [hW]; exact box_alloc (heap_new_at _ _ _ rfl) _
  have H0 : W.heap[w.heap.size + 1]? = some (.cells (drvC zDrv zDrvA) 46 (0, 0)) := by rw [hW]; exact heap_new_at _ _ _ (by simp)
  have zW : w.heap.size + 2 ≤ W.heap.size := by rw [hW]; simp
  clear hW
  refine (l6Open_any ao bs c W (h.below BW) hc (by omega)).mono ?_
  rintro e w1 ⟨rb, rfl, hrb, R1, b1⟩
  have F1 := (b1.block _ (box_lt F0)).trans F0
  have H1 := (b1.block _ (box_lt H0)).trans H0
  have B1 := BW.trans (b1.mono BW.size)
  have z1 := b1.size
  have l1 := R1.lt
  clear H0 F0 BW b1 h
  go_wp2_with fail
  refine (l92Flow_any rb 0 w1 R1 (by omega)).mono ?_
  rintro e w2 ⟨hi, lo, rfl, R2, g2⟩
  have F2 := box_only' F1 g2 (by omega)
  have H2 := box_only' H1 g2 (by omega)
  have B2 := below_only B1 g2 (by omega)
  have z2 := g2.size
  clear H1 F1 B1 R1
  go_wp2_with (first
    | (refine wpList_store_any _ rfl rfl (by rfl) (b := w2.heap.size) (off := 0) (n := 2) rfl rfl (vs := #[.int .i64 hi, .int .i64 lo]) rfl (heap_new_at w2 (.cells #[.int .i64 0, .int .i64 0] 68) _ rfl) (by kernel_rfl) rfl rfl (Nat.le_of_ble_eq_true rfl) #[.int .i64 hi, .int .i64 lo] rfl ?_
       intro w3 K3 g3))
  have b3 : Below w2.heap.size w2 w3 := below_only ((Below.refl _ _).alloc (Nat.le_refl _) _) g3 (Nat.le_refl _)
  have z3 := b3.size
  have lK := box_lt K3
  have F3 := (b3.block _ (box_lt F2)).trans F2
  have H3 := (b3.block _ (box_lt H2)).trans H2
  have B3 := B2.trans (b3.mono B2.size)
  have R3 := R2.below b3
  have l2 := R2.lt
  clear H2 F2 B2 g3 b3 R2
  generalize hbx : w2.heap.size = bx at *
  have R3d : Rd w3.drew rb _ := R3.below (Below.refl _ _).drew
  have K3d : w3.drew.heap[bx]? = some (.cells #[.int .i64 hi, .int .i64 lo] 68 (0, 0)) := K3
  have H3d : w3.drew.heap[w.heap.size + 1]? = some (.cells (drvC zDrv zDrvA) 46 (0, 0)) := H3
  have F3d : w3.drew.heap[w.heap.size]? = some (.cells #[.int .i64 0, .int .i64 0] 68 (0, 0)) := F3
  have B3d : Below w.heap.size w w3.drew := B3.drew
  have z3d : w3.drew.heap.size = w3.heap.size := rfl
  refine wp_region_held_drew (S := fun v => v.heap[bx]? = some (.cells #[.int .i64 hi, .int .i64 lo] 68 (0, 0))) (by kernel_rfl) K3d (fun _ => ?_)
  refine wpAnyH_take (i := 0) (v := .agg #[.int .i64 hi, .int .i64 lo]) rfl (by kernel_rfl) (by kernel_rfl) (by kernel_rfl) (fun _ _ _ h => h) (yieldsIf_load_box (n := 2) (off := 0) rfl rfl rfl (fun _ h => h) Try.underlying68 (by kernel_rfl) (Nat.le_of_ble_eq_true rfl) _ rfl) K3d ?_
  go_simp
  refine wpAnyH_take (i := 1) (v := .pointer (some ⟨rb, 0, none⟩)) rfl (by kernel_rfl) (by kernel_rfl) (by kernel_rfl) (fun _ _ _ h => h) (Or.inl ⟨by rfl, by intro w _; go_simp⟩) K3d ?_
  go_simp
  refine wpAnyH_ready (rs := [2]) (by kernel_rfl) (by simp) (AllReadyH.cons rfl (fun K hK => ?_) AllReadyH.nil)
  go_simp
  go_at_call 47
  refine (l92Driver_any rb _ _ R3d (by omega)).mono ?_
  rintro e w4 ⟨d, A, rfl, lg, ly, li, lo', DO, R4, g4⟩
  have K4 := box_only' K3d g4 (by omega)
  go_simp
  refine hK.out _ _ K4 (fun _ => ?_)
  clear hK K
  have H4 := box_only' H3d g4 (by omega)
  have F4 := box_only' F3d g4 (by omega)
  have B4 := below_only B3d g4 (by omega)
  have z4 := g4.size
  refine wpAnyH_ready (rs := [3]) (by kernel_rfl) (by simp) (AllReadyH.cons rfl (fun K hK => ?_) AllReadyH.nil)
  refine step_store_any rfl rfl rfl (b := w.heap.size) (off := 0) (n := 2) rfl rfl (vs := #[.int .i64 hi, .int .i64 lo]) rfl F4 (by kernel_rfl) rfl rfl (Nat.le_of_ble_eq_true rfl) #[.int .i64 hi, .int .i64 lo] rfl ?_
  intro w5 F5 g5
  have K5 := box_only' K4 g5 (by omega)
  refine hK.out _ _ K5 (fun _ => ?_)
  clear hK K
  have H5 := box_only' H4 g5 (by omega)
  have B5 := below_only B4 g5 (by omega)
  have z5 := g5.size
  refine wpAnyH_ready (rs := [4]) (by kernel_rfl) (by simp) (AllReadyH.cons rfl (fun K hK => ?_) AllReadyH.nil)
  refine step_store_any rfl rfl rfl (b := w.heap.size + 1) (off := 0) (n := 22) rfl rfl (vs := drvC d A) rfl H5 (by kernel_rfl) rfl rfl (Nat.le_of_ble_eq_true rfl) (drvC d A) rfl ?_
  intro w6 H6 g6
  have K6 := box_only' K5 g6 (by omega)
  refine hK.out _ _ K6 (fun _ => ?_)
  clear hK K
  have F6 := box_only' F5 g6 (by omega)
  have B6 := below_only B5 g6 (by omega)
  refine wpAnyH_done (by kernel_rfl) ?_ _
  go_wp2
  refine bodyPost_ret (results_cells2 Try.results29 rfl rfl (load_box (P := Try.prog) F6 Try.underlying68 (by kernel_rfl) rfl) (load_box (P := Try.prog) H6 Try.underlying46 (by kernel_rfl) rfl)) rfl ?_
  exact ⟨hi, lo, d, A, rfl, lg, ly, li, lo', ⟨own_base (own_low (own_low DO.1 g5 (by omega)) g6 (by omega)) (by omega), own_base (own_low (own_low DO.2.1 g5 (by omega)) g6 (by omega)) (by omega), own_base (own_low (own_low DO.2.2.1 g5 (by omega)) g6 (by omega)) (by omega), own_base (own_low (own_low DO.2.2.2 g5 (by omega)) g6 (by omega)) (by omega)⟩, B6⟩
end Go.Proofs.Ytkmampichfbppaa
