/- Receivers: time passes (both). -/
import Derived.Test.YtmmdbbnmifpciaaRecvT
namespace Go.Proofs.Ytmmdbbnmifpciaa
open Go.RowKit

set_option maxHeartbeats 4000000 in
theorem implRecvTick_any (r t : Int) (ao : Option Addr) (gs : List Gt) (c : Nat) (l : Bool) (a : Int) (w : World) (hx : Gts w ao gs) (lx : gs.length ≤ 1048576) :
    Calls Try.prog 13 #[.agg #[.int .i64 r, .int .i64 t, .slice ao gs.length c, .bool l, .int .i64 a]] w (RPutP w (rtickR r t gs l a)) := by
  cases hv : recvB r t gs a
  · have HR := Lib.hid (rtickR_no (l := l) hv)
    rw [HR.out]
    go_enter Try.func13, Try.ntmps13
    go_wp2_with fail
    refine name_calls fun W hW => ?_
    have bW : Below w.heap.size w W := by
      rw [hW]
      repeat (first | exact Below.refl _ _ | refine Below.alloc ?_ (by first | exact Nat.le_refl _ | (simp; done) | (simp; omega)) _)
    have h1 : W.heap[w.heap.size]? = some (.cells #[.int .i64 r, .int .i64 t, .slice ao gs.length c, .bool l, .int .i64 a] 25 (0, 0)) := by rw [hW]; exact box_alloc (heap_new_at w _ _ rfl) _
    have h2 : W.heap[w.heap.size + 1]? = some (.cells #[.int .i64 0, .int .i64 0, .slice none 0 0, .bool false, .int .i64 0] 25 (0, 0)) := by rw [hW]; exact heap_new_at _ _ _ (by simp)
    have zW : W.heap.size = w.heap.size + 2 := by rw [hW]; simp
    clear hW
    refine (implRecvValid_any r t ao gs c l a W (hx.below bW) (by omega)).mono ?_
    rintro e w1 ⟨rfl, b1⟩
    have z1 := b1.size
    have B1 := bW.trans (b1.mono bW.size)
    have H1 := Lib.hid ((b1.block _ (by omega)).trans h1)
    have H2 := Lib.hid ((b1.block _ (by omega)).trans h2)
    clear h1 h2 b1 bW
    obtain ⟨d0, d1, d2, d3, d4, f0, f1, f2, f3, f4⟩ := five_cells H2.out
    go_wp2
    refine bodyPost_ret (v := .tuple #[.agg #[.int .i64 0, .int .i64 0, .slice none 0 0, .bool false, .int .i64 0], .bool false]) (by simp [results, Try.results13, go_sem, *]) rfl ?_
    refine ⟨none, 0, rfl, ownG_nil _ _, ?_⟩
    exact (((((B1.setCell (by simp; try omega) _).setCell (by simp; try omega) _).setCell (by simp; try omega) _).setCell (by simp; try omega) _).setCell (by simp; try omega) _)
  have HR := Lib.hid (rtickR_yes (l := l) hv)
  have hff := recvB_facts hv
  have hr16 := hff.1.2
  have hlr := hff.2.2.1
  have ha0 := hff.2.2.2.1.1
  have ha9 := hff.2.2.2.1.2
  have hl16 : gs.length ≤ 16 := by omega
  clear hff
  go_enter Try.func13, Try.ntmps13
  go_wp2_with fail
  refine name_calls fun W hW => ?_
  have bW : Below w.heap.size w W := by
    rw [hW]
    repeat (first | exact Below.refl _ _ | refine Below.alloc ?_ (by first | exact Nat.le_refl _ | (simp; done) | (simp; omega)) _)
  have h1 : W.heap[w.heap.size]? = some (.cells #[.int .i64 r, .int .i64 t, .slice ao gs.length c, .bool l, .int .i64 a] 25 (0, 0)) := by rw [hW]; exact box_alloc (heap_new_at w _ _ rfl) _
  have h2 : W.heap[w.heap.size + 1]? = some (.cells #[.int .i64 0, .int .i64 0, .slice none 0 0, .bool false, .int .i64 0] 25 (0, 0)) := by rw [hW]; exact heap_new_at _ _ _ (by simp)
  have zW : W.heap.size = w.heap.size + 2 := by rw [hW]; simp
  clear hW
  refine (implRecvValid_any r t ao gs c l a W (hx.below bW) (by omega)).mono ?_
  rintro e w1 ⟨rfl, b1⟩
  have z1 := b1.size
  have B1 := bW.trans (b1.mono bW.size)
  have H1 := Lib.hid ((b1.block _ (by omega)).trans h1)
  have H2 := Lib.hid ((b1.block _ (by omega)).trans h2)
  clear h1 h2 b1 bW
  obtain ⟨q0, q1, q2, q3, q4⟩ := cells5 H1.out
  go_wp2_with fail
  refine (recvCopy_any r t ao gs c l a w1 (hx.below B1) (by omega)).mono ?_
  rintro e w2 ⟨a1, c1, rfl, o2, b2⟩
  have z2 := b2.size
  have B2 := B1.trans (b2.mono B1.size)
  clear q0 q1 q2 q3 q4
  have J1 := (b2.block _ (by omega)).trans H1.out
  have J2 := (b2.block _ (by omega)).trans H2.out
  obtain ⟨c0, c1', c2, c3, c4, e0, e1, e2, e3, e4⟩ := five_cells J1
  go_upto_region 4 with fail
  refine name_wp fun W4 hW4 => ?_
  have M1 : W4.heap[w.heap.size]? = some (.cells #[.int .i64 r, .int .i64 t, .slice a1 gs.length c1, .bool l, .int .i64 a] 25 (0, 0)) := by rw [hW4]; exact five_set (five_set (five_set (five_set (five_set J1 _) _) _) _) _
  have M2 : W4.heap[w.heap.size + 1]? = some (.cells #[.int .i64 0, .int .i64 0, .slice none 0 0, .bool false, .int .i64 0] 25 (0, 0)) := by rw [hW4]; exact box_set (box_set (box_set (box_set (box_set J2 _ _ (by simp)) _ _ (by simp)) _ _ (by simp)) _ _ (by simp)) _ _ (by simp)
  have B4 : Below w.heap.size w W4 := by rw [hW4]; exact ((((B2.setCell (Nat.le_refl _) _).setCell (Nat.le_refl _) _).setCell (Nat.le_refl _) _).setCell (Nat.le_refl _) _).setCell (Nat.le_refl _) _
  have o4 : W4.ownsRow w1.heap.size 33 2 (.slice a1 gs.length c1) gs.length (gs.flatMap gtCells) := by rw [hW4]; exact own_set (own_set (own_set (own_set (own_set o2 _ _ (by simp; omega)) _ _ (by simp; omega)) _ _ (by simp; omega)) _ _ (by simp; omega)) _ _ (by simp; omega)
  clear hW4 J1 J2 c0 c1' c2 c3 c4 e0 e1 e2 e3 e4 o2 b2 B2 z2
  obtain ⟨c0, c1', c2, c3, c4, e0, e1, e2, e3, e4⟩ := five_cells M1
  obtain ⟨d0, d1, d2, d3, d4, f0, f1, f2, f3, f4⟩ := five_cells M2
  clear M1 M2
  by_cases h0 : gs.length = 0
  · have HAge := Lib.hid (ageN_0 (a := a) h0)
    have hb : ((gs.length : Int) == 0) = true := by simp [h0]
    clear h0
    go_wp2
    refine bodyPost_ret (v := .tuple #[.agg #[.int .i64 r, .int .i64 t, .slice a1 gs.length c1, .bool l, .int .i64 (0)], .bool true]) (by simp [results, Try.results13, go_sem, *]) rfl ?_
    rw [HR.out, HAge.out]
    refine ⟨a1, c1, rfl, ?_, ?_⟩
    · refine own_base (base := w1.heap.size) ?_ (by omega)
      repeat (first | with_reducible exact o4 | with_reducible refine own_set ?_ _ _ (by simp; try omega))
    · repeat (first | with_reducible exact B4 | with_reducible refine Below.setCell ?_ (by first | (simp; done) | (simp; omega)) _)
  have hb : ((gs.length : Int) == 0) = false := beq_eq_false_iff_ne.2 (by omega)
  by_cases h9 : a + 1 ≤ 99
  · have HAge := Lib.hid (ageN_1 (a := a) h0 h9)
    clear h0
    go_wp2
    refine bodyPost_ret (v := .tuple #[.agg #[.int .i64 r, .int .i64 t, .slice a1 gs.length c1, .bool l, .int .i64 (a + 1)], .bool true]) (by simp [results, Try.results13, go_sem, *]) rfl ?_
    rw [HR.out, HAge.out]
    refine ⟨a1, c1, rfl, ?_, ?_⟩
    · refine own_base (base := w1.heap.size) ?_ (by omega)
      repeat (first | with_reducible exact o4 | with_reducible refine own_set ?_ _ _ (by simp; try omega))
    · repeat (first | with_reducible exact B4 | with_reducible refine Below.setCell ?_ (by first | (simp; done) | (simp; omega)) _)
  · have HAge := Lib.hid (ageN_2 (a := a) h0 h9)
    have h9' : 99 < a + 1 := by omega
    clear h0 h9
    go_wp2
    refine bodyPost_ret (v := .tuple #[.agg #[.int .i64 r, .int .i64 t, .slice a1 gs.length c1, .bool l, .int .i64 (99)], .bool true]) (by simp [results, Try.results13, go_sem, *]) rfl ?_
    rw [HR.out, HAge.out]
    refine ⟨a1, c1, rfl, ?_, ?_⟩
    · refine own_base (base := w1.heap.size) ?_ (by omega)
      repeat (first | with_reducible exact o4 | with_reducible refine own_set ?_ _ _ (by simp; try omega))
    · repeat (first | with_reducible exact B4 | with_reducible refine Below.setCell ?_ (by first | (simp; done) | (simp; omega)) _)
set_option maxHeartbeats 4000000 in
theorem specRecvTick_any (r t : Int) (ao : Option Addr) (gs : List Gt) (c : Nat) (l : Bool) (a : Int) (w : World) (hx : Gts w ao gs) (lx : gs.length ≤ 1048576) (hA : ao = none → gs.length = 0 ∧ c = 0) :
    Calls Try.prog 21 #[.agg #[.int .i64 r, .int .i64 t, .slice ao gs.length c, .bool l, .int .i64 a]] w (RPutP w (rtickR r t gs l a)) := by
  cases hv : recvB r t gs a
  · have HR := Lib.hid (rtickR_no (l := l) hv)
    rw [HR.out]
    go_enter Try.func21, Try.ntmps21
    go_wp2_with fail
    refine name_calls fun W hW => ?_
    have bW : Below w.heap.size w W := by
      rw [hW]
      repeat (first | exact Below.refl _ _ | refine Below.alloc ?_ (by first | exact Nat.le_refl _ | (simp; done) | (simp; omega)) _)
    have h1 : W.heap[w.heap.size]? = some (.cells #[.int .i64 r, .int .i64 t, .slice ao gs.length c, .bool l, .int .i64 a] 25 (0, 0)) := by rw [hW]; exact box_alloc (heap_new_at w _ _ rfl) _
    have h2 : W.heap[w.heap.size + 1]? = some (.cells #[.int .i64 0, .int .i64 0, .slice none 0 0, .bool false, .int .i64 0] 25 (0, 0)) := by rw [hW]; exact heap_new_at _ _ _ (by simp)
    have zW : W.heap.size = w.heap.size + 2 := by rw [hW]; simp
    clear hW
    refine (specRecvValid_any r t ao gs c l a W (hx.below bW) (by omega)).mono ?_
    rintro e w1 ⟨rfl, b1⟩
    have z1 := b1.size
    have B1 := bW.trans (b1.mono bW.size)
    have H1 := Lib.hid ((b1.block _ (by omega)).trans h1)
    have H2 := Lib.hid ((b1.block _ (by omega)).trans h2)
    clear h1 h2 b1 bW
    obtain ⟨d0, d1, d2, d3, d4, f0, f1, f2, f3, f4⟩ := five_cells H2.out
    go_wp2
    refine bodyPost_ret (v := .tuple #[.agg #[.int .i64 0, .int .i64 0, .slice none 0 0, .bool false, .int .i64 0], .bool false]) (by simp [results, Try.results21, go_sem, *]) rfl ?_
    refine ⟨none, 0, rfl, ownG_nil _ _, ?_⟩
    exact (((((B1.setCell (by simp; try omega) _).setCell (by simp; try omega) _).setCell (by simp; try omega) _).setCell (by simp; try omega) _).setCell (by simp; try omega) _)
  have HR := Lib.hid (rtickR_yes (l := l) hv)
  have hff := recvB_facts hv
  have ha0 := hff.2.2.2.1.1
  have ha9 := hff.2.2.2.1.2
  clear hff
  go_enter Try.func21, Try.ntmps21
  go_wp2_with fail
  refine name_calls fun W hW => ?_
  have bW : Below w.heap.size w W := by
    rw [hW]
    repeat (first | exact Below.refl _ _ | refine Below.alloc ?_ (by first | exact Nat.le_refl _ | (simp; done) | (simp; omega)) _)
  have h1 : W.heap[w.heap.size]? = some (.cells #[.int .i64 r, .int .i64 t, .slice ao gs.length c, .bool l, .int .i64 a] 25 (0, 0)) := by rw [hW]; exact box_alloc (heap_new_at w _ _ rfl) _
  have h2 : W.heap[w.heap.size + 1]? = some (.cells #[.int .i64 0, .int .i64 0, .slice none 0 0, .bool false, .int .i64 0] 25 (0, 0)) := by rw [hW]; exact heap_new_at _ _ _ (by simp)
  have zW : W.heap.size = w.heap.size + 2 := by rw [hW]; simp
  clear hW
  refine (specRecvValid_any r t ao gs c l a W (hx.below bW) (by omega)).mono ?_
  rintro e w1 ⟨rfl, b1⟩
  have z1 := b1.size
  have B1 := bW.trans (b1.mono bW.size)
  have H1 := Lib.hid ((b1.block _ (by omega)).trans h1)
  have H2 := Lib.hid ((b1.block _ (by omega)).trans h2)
  clear h1 h2 b1 bW
  obtain ⟨q0, q1, q2, q3, q4⟩ := cells5 H1.out
  go_wp2_with fail
  refine (l11Tick_any r t ao gs c l a w1 (hx.below B1) lx hA ha0 ha9).mono ?_
  rintro e w2 ⟨a1, c1, rfl, o2, b2⟩
  have z2 := b2.size
  have B2 := B1.trans (b2.mono B1.size)
  clear q0 q1 q2 q3 q4
  obtain ⟨d0, d1, d2, d3, d4, f0, f1, f2, f3, f4⟩ := five_cells ((b2.block _ (by omega)).trans H2.out)
  go_wp2
  refine bodyPost_ret (v := .tuple #[.agg #[.int .i64 r, .int .i64 t, .slice a1 gs.length c1, .bool l, .int .i64 (ageN gs a)], .bool true]) (by simp [results, Try.results21, go_sem, *]) rfl ?_
  rw [HR.out]
  refine ⟨a1, c1, rfl, ?_, ?_⟩
  · refine own_base (base := w1.heap.size) ?_ (by omega)
    have o2' : w2.ownsRow w1.heap.size 33 2 (.slice a1 gs.length c1) gs.length (gs.flatMap gtCells) := o2
    repeat (first | with_reducible exact o2' | with_reducible refine own_set ?_ _ _ (by simp; try omega))
  · repeat (first | with_reducible exact B2 | with_reducible refine Below.setCell ?_ (by first | (simp; done) | (simp; omega)) _)
end Go.Proofs.Ytmmdbbnmifpciaa
