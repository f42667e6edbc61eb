/- Ports and drivers: copies that share nothing. -/
import Derived.Test.YtkmampichfbppaaDoorDriver
namespace Go.Proofs.YtkmampichfbppaaDoor
open Go.RowKit

set_option maxHeartbeats 1000000 in
theorem sendCopy_any (r : Int) (ao : Option Addr) (xs : List Int) (c : Nat) (h l : Int) (w : World) (hx : Ints w ao xs) (lx : xs.length ≤ 1048576) (hA : ao = none → xs.length = 0 ∧ c = 0) :
    Calls Tryd.prog 36 #[.agg #[.int .i64 r, .slice ao xs.length c, .int .i64 h, .int .i64 l]] w fun e w' => ∃ a1 c1, e = .returned (.agg #[.int .i64 r, .slice a1 xs.length c1, .int .i64 h, .int .i64 l]) ∧ OwnI w' w.heap.size a1 c1 xs ∧ Below w.heap.size w w' := by
  go_enter Tryd.func36, Tryd.ntmps36
  go_wp2_with (first
    | (at_builtin
       refine name_list fun W hW => ?_
       have bW : Below w.heap.size w W := by
         rw [hW]
         repeat (first | exact Below.refl _ _ | refine Below.alloc ?_ (by first | exact Nat.le_refl _ | (simp; done) | (simp; omega)) _)
       have h1 : W.heap[w.heap.size]? = some (.cells #[.int .i64 r, .slice ao xs.length c, .int .i64 h, .int .i64 l] 30 (0, 0)) := by rw [hW]; exact box_alloc (heap_new_at w _ _ rfl) _
       have h2 : W.heap[w.heap.size + 1]? = some (.cells #[.int .i64 0, .slice none 0 0, .int .i64 0, .int .i64 0] 30 (0, 0)) := by rw [hW]; exact heap_new_at _ _ _ (by simp)
       have zW : W.heap.size = w.heap.size + 2 := by rw [hW]; simp
       have hxW := hx.below bW
       clear hW
       refine wpList_append_row W rfl _ _ _ rfl W.heap.size 3 _ 1 8 Tryd.underlying28 int_info rfl (by decide) none 0 0 [] (by rfl) (World.ownsRow_nil _ _ _ _) ao xs.length c (xs.map (Value.int .i64)) (by rfl) hxW (by simp) (ints_one _) hA (by simp only [maxLen]; omega) (by omega) (Nat.le_refl _) ?_
       intro a1 c1 w1 ho hg
       rw [Nat.zero_add, List.nil_append] at ho
       rw [Nat.zero_add]
       have b1 : Below W.heap.size W w1 := (Below.refl _ _).grown hg (Nat.le_refl _) (fun k hk => by simp [Value.ownBlock] at hk)
       have z1 := b1.size
       have B1 := bW.trans (b1.mono bW.size)
       obtain ⟨c0, c1', c2, c3, f0, f1, f2, f3⟩ := four_cells ((b1.block _ (by omega)).trans h1)
       obtain ⟨d0, d1, d2, d3, e0, e1, e2, e3⟩ := four_cells ((b1.block _ (by omega)).trans h2)
       clear h1 h2 hxW hg b1 bW))
  refine bodyPost_ret (v := .agg #[.int .i64 r, .slice a1 xs.length c1, .int .i64 h, .int .i64 l]) (by simp [results, Tryd.results36, go_sem, *]) rfl ?_
  refine ⟨a1, c1, rfl, ?_, ?_⟩
  · refine own_base (base := W.heap.size) ?_ (by omega)
    iterate 5 refine own_set ?_ _ _ (by simp; try omega)
    exact ho
  · exact ((((B1.setCell (by simp) _).setCell (by simp) _).setCell (by simp) _).setCell (by simp) _).setCell (by simp) _
theorem own_low {w w' : World} {base e size n c r : Nat} {ao : Option Addr} {vs : List Value} (h : w.ownsRow base e size (.slice ao n c) n vs) (g : w.grownBy w' (some r)) (hr : r < base) : w'.ownsRow base e size (.slice ao n c) n vs :=
  own_only h g (fun q hq => by have := (own_in h _ hq).1; simp at this; omega)
theorem own_ty {w w' : World} {base e size n c b : Nat} {ao : Option Addr} {vs : List Value} {cs : Array Value} {t : TypeId} (h : w.ownsRow base e size (.slice ao n c) n vs) (hb : w.heap[b]? = some (.cells cs t (0, 0))) (ht : e ≠ t) (g : w.grownBy w' (some b)) : w'.ownsRow base e size (.slice ao n c) n vs :=
  own_only h g (fun _ hq => own_box_ne h hb ht _ hq)
def zPort : PortD := ⟨0, 0, 0, 0, 0, 0, 0, [], false, 0, 0, [], 0, 0, false, false, false, false⟩
def zPortA : PortA := ⟨none, 0, none, 0⟩
def zDrv : DrvD := ⟨zPort, [], [], 0, 0⟩
def zDrvA : DrvA := ⟨zPortA, none, 0, none, 0⟩
set_option maxHeartbeats 2000000 in
set_option maxRecDepth 100000 in
theorem portCopy_any (d : PortD) (A : PortA) (w : World) (hm : PortM w d A) (lg : d.gs.length ≤ 900) (ly : d.ys.length ≤ 1048576) (hA : A.ay = none → d.ys.length = 0 ∧ A.cy = 0) :
    Calls Tryd.prog 17 #[.agg (portC d A)] w fun e w' => ∃ A1 : PortA, e = .returned (.agg (portC d A1)) ∧ OwnG w' w.heap.size A1.ax A1.cx d.gs ∧ OwnI w' w.heap.size A1.ay A1.cy d.ys ∧ Apart A1.ax A1.ay ∧ Below w.heap.size w w' := by
  have b0 : Below w.heap.size w ((w.alloc (.cells (portC d A) 34)).alloc (.cells (portC zPort zPortA) 34)) := ((Below.refl _ _).alloc (Nat.le_refl _) _).alloc (by simp) _
  have H0 := box_alloc (heap_new_at w (.cells (portC d A) 34) _ rfl) (.cells (portC zPort zPortA) 34)
  have G0 := heap_new_at (w.alloc (.cells (portC d A) 34)) (.cells (portC zPort zPortA) 34) (w.heap.size + 1) (by simp)
  go_enter Tryd.func17, Tryd.ntmps17
  go_wp2_with (first
    | (refine wpList_load_box _ rfl (by rfl) (b := w.heap.size) (off := 5) (n := 5) rfl H0 Tryd.underlying27 (by kernel_rfl) (Nat.le_of_ble_eq_true rfl) (#[.int .i64 d.r, .int .i64 d.t, .slice A.ax d.gs.length A.cx, .bool d.l, .int .i64 d.ag]) rfl ?_))
  refine name_calls fun W hW => ?_
  have bW : Below w.heap.size w W := by rw [hW]; exact b0
  have h1 : W.heap[w.heap.size]? = some (.cells (portC d A) 34 (0, 0)) := by rw [hW]; exact H0
  have h2 : W.heap[w.heap.size + 1]? = some (.cells (portC zPort zPortA) 34 (0, 0)) := by rw [hW]; exact G0
  have zW : w.heap.size + 2 ≤ W.heap.size := by rw [hW]; simp
  clear hW b0 H0 G0
  refine (recvCopy_any d.r d.t A.ax d.gs A.cx d.l d.ag W (hm.1.below bW) lg).mono ?_
  rintro e w1 ⟨ax, cx, rfl, o1, b1⟩
  have z1 := b1.size
  have B1 := bW.trans (b1.mono bW.size)
  have i1 := own_in o1
  have K1 := (b1.block _ (by omega)).trans h1
  have K2 := (b1.block _ (by omega)).trans h2
  clear h1 h2 b1 bW
  go_wp2_with (first
    | (refine wpList_store_any _ rfl rfl (by rfl) (b := w.heap.size) (off := 5) (n := 5) rfl rfl (vs := #[.int .i64 d.r, .int .i64 d.t, .slice ax d.gs.length cx, .bool d.l, .int .i64 d.ag]) rfl K1 (by kernel_rfl) rfl rfl (Nat.le_of_ble_eq_true rfl) (portC d ⟨ax, cx, A.ay, A.cy⟩) rfl ?_
       intro w2 K3 g2)
    | (refine wpList_load_box _ rfl (by rfl) (b := w.heap.size) (off := 10) (n := 4) rfl K3 Tryd.underlying30 (by kernel_rfl) (Nat.le_of_ble_eq_true rfl) #[.int .i64 d.sr, .slice A.ay d.ys.length A.cy, .int .i64 d.sh, .int .i64 d.sl] rfl ?_))
  have z2 := g2.size
  have B2 := below_only B1 g2 (Nat.le_refl _)
  have o2 := own_low o1 g2 (by omega)
  have K4 := box_only' K2 g2 (by omega)
  clear K1 K2 o1
  refine (sendCopy_any d.sr A.ay d.ys A.cy d.sh d.sl w2 (hm.2.below B2) ly hA).mono ?_
  rintro e w3 ⟨ay, cy, rfl, o3, b3⟩
  have z3 := b3.size
  have B3 := B2.trans (b3.mono B2.size)
  have i3 := own_in o3
  have o4 := own_below o2 b3
  have K5 := (b3.block _ (box_lt K3)).trans K3
  have K6 := (b3.block _ (box_lt K4)).trans K4
  clear K3 K4 o2
  go_wp2_with (first
    | (refine wpList_store_any _ rfl rfl (by rfl) (b := w.heap.size) (off := 10) (n := 4) rfl rfl (vs := #[.int .i64 d.sr, .slice ay d.ys.length cy, .int .i64 d.sh, .int .i64 d.sl]) rfl K5 (by kernel_rfl) rfl rfl (Nat.le_of_ble_eq_true rfl) (portC d ⟨ax, cx, ay, cy⟩) rfl ?_
       intro w4 K7 g4)
    | (refine wpList_load_box _ rfl (by rfl) (b := w.heap.size) (off := 0) (n := 18) rfl K7 Tryd.underlying34 (by kernel_rfl) (Nat.le_of_ble_eq_true rfl) (portC d ⟨ax, cx, ay, cy⟩) rfl ?_)
    | (refine wpList_store_any _ rfl rfl (by rfl) (b := w.heap.size + 1) (off := 0) (n := 18) rfl rfl (vs := portC d ⟨ax, cx, ay, cy⟩) rfl (box_only' K6 g4 (by omega)) (by kernel_rfl) rfl rfl (Nat.le_of_ble_eq_true rfl) (portC d ⟨ax, cx, ay, cy⟩) rfl ?_
       intro w5 K8 g5))
  refine bodyPost_ret (results_cell Tryd.results17 rfl (load_box (P := Tryd.prog) K8 Tryd.underlying34 (by kernel_rfl) rfl)) rfl ?_
  refine ⟨⟨ax, cx, ay, cy⟩, rfl, own_base (own_low (own_low o4 g4 (by omega)) g5 (by omega)) (by omega), own_base (own_low (own_low o3 g4 (by omega)) g5 (by omega)) (by omega), i1.apart i3 (.inl (by omega)), below_only (below_only B3 g4 (Nat.le_refl _)) g5 (by omega)⟩
end Go.Proofs.YtkmampichfbppaaDoor
