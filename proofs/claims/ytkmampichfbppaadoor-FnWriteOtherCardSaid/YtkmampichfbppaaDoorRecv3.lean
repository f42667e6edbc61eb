/- Receivers: a copy; with other bytes. -/
import Derived.Test.YtkmampichfbppaaDoorRecv2
namespace Go.Proofs.YtkmampichfbppaaDoor
open Go.RowKit

theorem five_set {w : World} {b i : Nat} {cs : Array Value} {t : TypeId} (h : w.heap[b]? = some (.cells cs t (0, 0))) (z : Value) : (w.setCell ⟨b, i, none⟩ z).heap[b]? = some (.cells (cs.setIfInBounds i z) t (0, 0)) := by
  simp [World.setCell, Array.getElem?_modify, h]
set_option maxHeartbeats 1000000 in
theorem recvCopy_any (r t : Int) (ao : Option Addr) (gs : List Gt) (c : Nat) (lost : Bool) (a : Int) (w : World) (hx : Gts w ao gs) (lx : gs.length ≤ 900) :
    Calls Tryd.prog 35 #[.agg #[.int .i64 r, .int .i64 t, .slice ao gs.length c, .bool lost, .int .i64 a]] w fun e w' => ∃ a1 c1, e = .returned (.agg #[.int .i64 r, .int .i64 t, .slice a1 gs.length c1, .bool lost, .int .i64 a]) ∧ OwnG w' w.heap.size a1 c1 gs ∧ Below w.heap.size w w' := by
  go_enter Tryd.func35, Tryd.ntmps35
  go_wp2_with fail
  refine name_calls fun W hW => ?_
  have bW : Below w.heap.size w W := by
    rw [hW]
    repeat (first | exact Below.refl _ _ | refine Below.alloc ?_ (by first | exact Nat.le_refl _ | (simp; done) | (simp; omega)) _)
  have h1 : W.heap[w.heap.size]? = some (.cells #[.int .i64 r, .int .i64 t, .slice ao gs.length c, .bool lost, .int .i64 a] 27 (0, 0)) := by rw [hW]; exact box_alloc (heap_new_at w _ _ rfl) _
  have h2 : W.heap[w.heap.size + 1]? = some (.cells #[.int .i64 0, .int .i64 0, .slice none 0 0, .bool false, .int .i64 0] 27 (0, 0)) := by rw [hW]; exact heap_new_at _ _ _ (by simp)
  have zW : W.heap.size = w.heap.size + 2 := by rw [hW]; simp
  clear hW
  refine (gotListOf_any ao gs c W (hx.below bW) (by omega)).mono ?_
  rintro e w1 ⟨lb, rfl, hlb, hg, b1⟩
  have z1 := b1.size
  go_wp2_with fail
  refine (glItems_any lb gs w1 hg (by omega)).mono ?_
  rintro e w2 ⟨a1, c1, rfl, o2, b2⟩
  have z2 := b2.size
  have B2 := (bW.trans (b1.mono bW.size)).trans (b2.mono (Nat.le_trans bW.size z1))
  obtain ⟨c0, c1', c2, c3, c4, f0, f1, f2, f3, f4⟩ := five_cells ((b2.block _ (by omega)).trans ((b1.block _ (by omega)).trans h1))
  obtain ⟨d0, d1, d2, d3, d4, e0, e1, e2, e3, e4⟩ := five_cells ((b2.block _ (by omega)).trans ((b1.block _ (by omega)).trans h2))
  clear h1 h2 hg b1 b2 bW
  go_wp2
  refine bodyPost_ret (v := .agg #[.int .i64 r, .int .i64 t, .slice a1 gs.length c1, .bool lost, .int .i64 a]) (by simp [results, Tryd.results35, go_sem, *]) rfl ?_
  refine ⟨a1, c1, rfl, ?_, ?_⟩
  · refine own_base (base := w1.heap.size) ?_ (by omega)
    refine own_set ?_ _ _ (by simp; omega)
    refine own_set ?_ _ _ (by simp; omega)
    refine own_set ?_ _ _ (by simp; omega)
    refine own_set ?_ _ _ (by simp; omega)
    refine own_set ?_ _ _ (by simp; omega)
    refine own_set ?_ _ _ (by simp; omega)
    exact o2
  · exact (((((B2.setCell (by simp) _).setCell (by simp) _).setCell (by simp) _).setCell (by simp) _).setCell (by simp) _).setCell (by simp) _
end Go.Proofs.YtkmampichfbppaaDoor
