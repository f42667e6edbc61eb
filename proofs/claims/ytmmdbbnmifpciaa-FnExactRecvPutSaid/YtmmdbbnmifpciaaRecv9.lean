/- Receivers: a byte is put: the reference's function. -/
import Derived.Test.YtmmdbbnmifpciaaRecv6
import Derived.Test.YtmmdbbnmifpciaaRecv7
import Derived.Deep.Cut
namespace Go.Proofs.Ytmmdbbnmifpciaa
open Go.RowKit

set_option maxHeartbeats 2000000 in
theorem specRecvPut_any (r t : Int) (ao : Option Addr) (gs : List Gt) (c : Nat) (l : Bool) (a gb gc : Int) (w : World) (hx : Gts w ao gs) (lx : gs.length ≤ 1048576) (hA : ao = none → gs.length = 0 ∧ c = 0) :
    Calls Try.prog 16 #[.agg #[.int .i64 r, .int .i64 t, .slice ao gs.length c, .bool l, .int .i64 a], .agg #[.int .i64 gb, .int .i64 gc]] w (RPutP w (rputR r t gs l a ⟨gb, gc⟩)) := by
  cases hv : recvB r t gs a
  · have HR := Lib.hid (rputR_no (r := r) (t := t) (a := a) (gs := gs) (l := l) (g := ⟨gb, gc⟩) (by simp [rputB, hv]))
    rw [HR.out]
    go_enter Try.func16, Try.ntmps16
    go_wp2_with fail
    refine name_calls fun W hW => ?_
    have bW : Below w.heap.size w W := by
      rw [hW]
      repeat (first | exact Below.refl _ _ | refine Below.alloc ?_ (by first | exact Nat.le_refl _ | (simp; done) | (simp; omega)) _)
    have h1 : W.heap[w.heap.size]? = some (.cells #[.int .i64 r, .int .i64 t, .slice ao gs.length c, .bool l, .int .i64 a] 25 (0, 0)) := by rw [hW]; exact box_alloc (box_alloc (heap_new_at w _ _ rfl) _) _
    have h2 : W.heap[w.heap.size + 1]? = some (.cells #[.int .i64 gb, .int .i64 gc] 33 (0, 0)) := by rw [hW]; exact box_alloc (heap_new_at _ _ _ (by simp)) _
    have h3 : W.heap[w.heap.size + 2]? = some (.cells #[.int .i64 0, .int .i64 0, .slice none 0 0, .bool false, .int .i64 0] 25 (0, 0)) := by rw [hW]; exact heap_new_at _ _ _ (by simp)
    have zW : W.heap.size = w.heap.size + 3 := by rw [hW]; simp
    clear hW
    refine (specRecvValid_any r t ao gs c l a W (hx.below bW) (by omega)).mono ?_
    rintro e w1 ⟨rfl, b1⟩
    have z1 := b1.size
    have B1 := bW.trans (b1.mono bW.size)
    have H1 := Lib.hid ((b1.block _ (by omega)).trans h1)
    have H2 := Lib.hid ((b1.block _ (by omega)).trans h2)
    have H3 := Lib.hid ((b1.block _ (by omega)).trans h3)
    clear h1 h2 h3 b1 bW
    obtain ⟨d0, d1, d2, d3, d4, f0, f1, f2, f3, f4⟩ := five_cells H3.out
    go_wp2
    refine bodyPost_ret (v := .tuple #[.agg #[.int .i64 0, .int .i64 0, .slice none 0 0, .bool false, .int .i64 0], .bool false]) (by simp [results, Try.results16, go_sem, *]) rfl ?_
    refine ⟨none, 0, rfl, ownG_nil _ _, ?_⟩
    exact (((((B1.setCell (by simp; omega) _).setCell (by simp; omega) _).setCell (by simp; omega) _).setCell (by simp; omega) _).setCell (by simp; omega) _)
  cases hg : gtB ⟨gb, gc⟩
  · have HR := Lib.hid (rputR_no (r := r) (t := t) (a := a) (gs := gs) (l := l) (g := ⟨gb, gc⟩) (by simp [rputB, hg]))
    rw [HR.out]
    go_enter Try.func16, Try.ntmps16
    go_wp2_with fail
    refine name_calls fun W hW => ?_
    have bW : Below w.heap.size w W := by
      rw [hW]
      repeat (first | exact Below.refl _ _ | refine Below.alloc ?_ (by first | exact Nat.le_refl _ | (simp; done) | (simp; omega)) _)
    have h1 : W.heap[w.heap.size]? = some (.cells #[.int .i64 r, .int .i64 t, .slice ao gs.length c, .bool l, .int .i64 a] 25 (0, 0)) := by rw [hW]; exact box_alloc (box_alloc (heap_new_at w _ _ rfl) _) _
    have h2 : W.heap[w.heap.size + 1]? = some (.cells #[.int .i64 gb, .int .i64 gc] 33 (0, 0)) := by rw [hW]; exact box_alloc (heap_new_at _ _ _ (by simp)) _
    have h3 : W.heap[w.heap.size + 2]? = some (.cells #[.int .i64 0, .int .i64 0, .slice none 0 0, .bool false, .int .i64 0] 25 (0, 0)) := by rw [hW]; exact heap_new_at _ _ _ (by simp)
    have zW : W.heap.size = w.heap.size + 3 := by rw [hW]; simp
    clear hW
    refine (specRecvValid_any r t ao gs c l a W (hx.below bW) (by omega)).mono ?_
    rintro e w1 ⟨rfl, b1⟩
    have z1 := b1.size
    have B1 := bW.trans (b1.mono bW.size)
    have H1 := Lib.hid ((b1.block _ (by omega)).trans h1)
    have H2 := Lib.hid ((b1.block _ (by omega)).trans h2)
    have H3 := Lib.hid ((b1.block _ (by omega)).trans h3)
    clear h1 h2 h3 b1 bW
    obtain ⟨c0, c1⟩ := cells2 H2.out
    go_wp2_with fail
    refine (l11Got_any gb gc w1).mono ?_
    rintro e w2 ⟨rfl, b2⟩
    have z2 := b2.size
    have B2 := B1.trans (b2.mono B1.size)
    obtain ⟨d0, d1, d2, d3, d4, f0, f1, f2, f3, f4⟩ := five_cells ((b2.block _ (by omega)).trans H3.out)
    clear c0 c1
    go_wp2
    refine bodyPost_ret (v := .tuple #[.agg #[.int .i64 0, .int .i64 0, .slice none 0 0, .bool false, .int .i64 0], .bool false]) (by simp [results, Try.results16, go_sem, *]) rfl ?_
    refine ⟨none, 0, rfl, ownG_nil _ _, ?_⟩
    exact (((((B2.setCell (by simp; omega) _).setCell (by simp; omega) _).setCell (by simp; omega) _).setCell (by simp; omega) _).setCell (by simp; omega) _)
  by_cases hl : (gs.length : Int) = r
  · exact specRecvPut_full r t ao gs c l a gb gc w hx lx hA hv hg hl
  · exact specRecvPut_room r t ao gs c l a gb gc w hx lx hA hv hg hl
end Go.Proofs.Ytmmdbbnmifpciaa
