/- The draw of DriverSend. -/
import Derived.Test.YtkmampichfbppaaDrvDraw4
namespace Go.Proofs.Ytkmampichfbppaa
open Go.RowKit

set_option maxHeartbeats 4000000 in
set_option maxRecDepth 100000 in
theorem drawDriverSend_any (ao : Option Addr) (bs : List Int) (c : Nat) (w : World) (h : Bytes w ao bs) (hc : bs.length ≤ c) (lx : bs.length ≤ 1048576) :
    Calls Try.prog 28 #[.slice ao bs.length c] w fun e w' => ∃ (d : DrvD) (A : DrvA) (al : Option Addr) (ls : List Int) (cl : Nat), e = .returned (.tuple #[.agg (drvC d A), .slice al ls.length cl]) ∧ d.p.gs.length ≤ 6 ∧ d.p.ys.length ≤ 6 ∧ d.i.length ≤ 33 ∧ d.o.length ≤ 32 ∧ ls.length ≤ 32 ∧ DrvO w' w.heap.size d A ∧ OwnI w' w.heap.size al cl ls ∧ Below w.heap.size w w' := by
  go_enter Try.func28, Try.ntmps28
  go_wp2_with fail
  refine name_calls fun W hW => ?_
  have BW : Below w.heap.size w W := by rw [hW]; exact (Below.refl _ _).alloc (Nat.le_refl _) _
  have H0 : W.heap[w.heap.size]? = some (.cells (drvC zDrv zDrvA) 46 (0, 0)) := by rw [hW]; exact heap_new_at _ _ _ rfl
  have zW : w.heap.size + 1 ≤ W.heap.size := by rw [hW]; simp
  clear hW
  refine (l6Open_any ao bs c W (h.below BW) hc (by omega)).mono ?_
  rintro e w1 ⟨rb, rfl, hrb, R1, b1⟩
  have H1 := (b1.block _ (box_lt H0)).trans H0
  have B1 := BW.trans (b1.mono BW.size)
  have z1 := b1.size
  have l1 := R1.lt
  clear H0 BW b1 h
  go_wp2_with fail
  refine (l92Driver_any rb 0 w1 R1 (by omega)).mono ?_
  rintro e w2 ⟨d, A, rfl, lg, ly, li, lo, DO, R2, g2⟩
  have H2 := box_only' H1 g2 (by omega)
  have B2 := below_only B1 g2 (by omega)
  have z2 := g2.size
  have ox : OwnG w2 w1.heap.size A.p.ax A.p.cx d.p.gs := DO.1
  have oy : OwnI w2 w1.heap.size A.p.ay A.p.cy d.p.ys := DO.2.1
  have oi : OwnI w2 w1.heap.size A.ai A.ci d.i := DO.2.2.1
  have oo : OwnI w2 w1.heap.size A.ao A.co d.o := DO.2.2.2
  clear DO H1 B1
  go_wp2_with (first
    | (refine wpList_store_any _ rfl rfl (by rfl) (b := w2.heap.size) (off := 0) (n := 22) rfl rfl (vs := drvC d A) rfl (heap_new_at w2 (.cells (drvC zDrv zDrvA) 46) _ rfl) (by kernel_rfl) rfl rfl (Nat.le_of_ble_eq_true rfl) (drvC d A) rfl ?_
       intro w3 K3 g3))
  have b3 : Below w2.heap.size w2 w3 := below_only ((Below.refl _ _).alloc (Nat.le_refl _) _) g3 (Nat.le_refl _)
  have z3 := b3.size
  have lK := box_lt K3
  have H3 := (b3.block _ (box_lt H2)).trans H2
  have B3 := B2.trans (b3.mono B2.size)
  replace ox := own_below ox b3
  replace oy := own_below oy b3
  replace oi := own_below oi b3
  replace oo := own_below oo b3
  have R3 := R2.below b3
  clear H2 B2 g3 b3
  generalize hbx : w2.heap.size = bx at *
  have ix := own_in ox
  have iy := own_in oy
  have ii := own_in oi
  have io := own_in oo
  refine (l92Ring_any rb _ w3 R3 (by omega)).mono ?_
  rintro e w4 ⟨al, ls, cl, rfl, lr, ol, R4, g4⟩
  have z4 := g4.size
  have K4 := box_only' K3 g4 (by omega)
  have H4 := box_only' H3 g4 (by omega)
  have B4 := below_only B3 g4 (by omega)
  have l2 := R2.lt
  replace ox := own_low ox g4 (by omega)
  replace oy := own_low oy g4 (by omega)
  replace oi := own_low oi g4 (by omega)
  replace oo := own_low oo g4 (by omega)
  clear K3 H3 B3 R3 g4 R2
  by_cases h0 : ls.length = 0
  · obtain rfl : ls = [] := List.eq_nil_of_length_eq_zero h0
    clear h0
    go_wp2_with (first
      | (refine wpList_load_box _ rfl (by rfl) (b := bx) (off := 0) (n := 22) rfl K4 Try.underlying46 (by kernel_rfl) (Nat.le_of_ble_eq_true rfl) (drvC d A) rfl ?_)
      | (refine wpList_store_any _ rfl rfl (by rfl) (b := w.heap.size) (off := 0) (n := 22) rfl rfl (vs := drvC d A) rfl H4 (by kernel_rfl) rfl rfl (Nat.le_of_ble_eq_true rfl) (drvC d A) rfl ?_
         intro w6 H6 g6))
    refine bodyPost_ret (results_cell2 (u := .slice al 0 cl) Try.results28 rfl rfl (load_box (P := Try.prog) H6 Try.underlying46 (by kernel_rfl) rfl)) rfl ?_
    refine ⟨d, A, al, [], cl, by simp, lg, ly, li, lo, (by simp), ⟨own_base (own_low ox g6 (by omega)) (by omega), own_base (own_low oy g6 (by omega)) (by omega), own_base (own_low oi g6 (by omega)) (by omega), own_base (own_low oo g6 (by omega)) (by omega)⟩, ?_, below_only B4 g6 (by omega)⟩
    exact own_base (own_low ol g6 (by omega)) (by omega)
  have h0i : (0 : Int) < (ls.length : Int) := by omega
  go_wp2_with fail
  refine (pick_any rb _ 20 w4 R4 (by omega)).mono ?_
  rintro e w5 ⟨k3, rfl, k30, k31, R5, g5⟩
  have z5 := g5.size
  have K5 := box_only' K4 g5 (by omega)
  have H5 := box_only' H4 g5 (by omega)
  have B5 := below_only B4 g5 (by omega)
  replace ox := own_low ox g5 (by omega)
  replace oy := own_low oy g5 (by omega)
  replace oi := own_low oi g5 (by omega)
  replace oo := own_low oo g5 (by omega)
  replace ol := own_low ol g5 (by omega)
  clear K4 H4 B4 R4 g5
  by_cases h3 : k3 = 0
  · subst h3
    obtain ⟨y, t, rfl⟩ : ∃ y t, ls = y :: t := by cases ls with | nil => exact absurd rfl h0 | cons y t => exact ⟨y, t, rfl⟩
    obtain ⟨ga, rfl, hg1, hg2⟩ : ∃ g, al = some ⟨g, 0, none⟩ ∧ w3.heap.size ≤ g ∧ g < w5.heap.size := by
      rcases own_head ol with ⟨_, e, _⟩ | ⟨g, hg⟩
      · simp at e
      · exact ⟨g, hg⟩
    have hc0 : w5.cell? ⟨ga, 0, none⟩ = some (.int .i64 y) := own_cell_at ol (j := 0) rfl
    have hf0 : w5.frozen? ⟨ga, 0, none⟩ = false := World.ownsRow.frozenAt ol 0
    obtain ⟨ol6, gs⟩ := World.ownsRow.stored ol 0 (.int .i64 (-1))
    have H6' := box_only' H5 gs (by omega)
    have K6' := box_only' K5 gs (by omega)
    have B6' := below_only B5 gs (by omega)
    have ox6 := own_only ox gs (fun g e => by have := (ix _ e).2; simp at this; omega)
    have oy6 := own_only oy gs (fun g e => by have := (iy _ e).2; simp at this; omega)
    have oi6 := own_only oi gs (fun g e => by have := (ii _ e).2; simp at this; omega)
    have oo6 := own_only oo gs (fun g e => by have := (io _ e).2; simp at this; omega)
    have z6 := gs.size
    go_wp2_with (first
      | (refine wpList_load_box _ rfl (by rfl) (b := bx) (off := 0) (n := 22) rfl K6' Try.underlying46 (by kernel_rfl) (Nat.le_of_ble_eq_true rfl) (drvC d A) rfl ?_)
      | (refine wpList_store_any _ rfl rfl (by rfl) (b := w.heap.size) (off := 0) (n := 22) rfl rfl (vs := drvC d A) rfl H6' (by kernel_rfl) rfl rfl (Nat.le_of_ble_eq_true rfl) (drvC d A) rfl ?_
         intro w6 H6 g6))
    refine bodyPost_ret (results_cell2 (u := .slice (some ⟨ga, 0, none⟩) (t.length + 1) cl) Try.results28 rfl rfl (load_box (P := Try.prog) H6 Try.underlying46 (by kernel_rfl) rfl)) rfl ?_
    refine ⟨d, A, (some ⟨ga, 0, none⟩), ((-1) :: t), cl, by simp, lg, ly, li, lo, (by simpa using lr), ⟨own_base (own_low ox6 g6 (by omega)) (by omega), own_base (own_low oy6 g6 (by omega)) (by omega), own_base (own_low oi6 g6 (by omega)) (by omega), own_base (own_low oo6 g6 (by omega)) (by omega)⟩, ?_, below_only B6' g6 (by omega)⟩
    have := own_base (base' := w.heap.size) (own_low ol6 g6 (by omega)) (by omega)
    exact this
  have hb3 : (k3 == 0) = false := by simpa using h3
  clear h3
  go_wp2_with (first
    | (refine wpList_load_box _ rfl (by rfl) (b := bx) (off := 0) (n := 22) rfl K5 Try.underlying46 (by kernel_rfl) (Nat.le_of_ble_eq_true rfl) (drvC d A) rfl ?_)
    | (refine wpList_store_any _ rfl rfl (by rfl) (b := w.heap.size) (off := 0) (n := 22) rfl rfl (vs := drvC d A) rfl H5 (by kernel_rfl) rfl rfl (Nat.le_of_ble_eq_true rfl) (drvC d A) rfl ?_
       intro w6 H6 g6))
  refine bodyPost_ret (results_cell2 (u := .slice al ls.length cl) Try.results28 rfl rfl (load_box (P := Try.prog) H6 Try.underlying46 (by kernel_rfl) rfl)) rfl ?_
  refine ⟨d, A, al, ls, cl, by simp, lg, ly, li, lo, lr, ⟨own_base (own_low ox g6 (by omega)) (by omega), own_base (own_low oy g6 (by omega)) (by omega), own_base (own_low oi g6 (by omega)) (by omega), own_base (own_low oo g6 (by omega)) (by omega)⟩, ?_, below_only B5 g6 (by omega)⟩
  exact own_base (own_low ol g6 (by omega)) (by omega)
end Go.Proofs.Ytkmampichfbppaa
