/- Receivers: a byte is put: the program's function. -/
import Derived.Test.YtmmdbbnmifpciaaRecv4
namespace Go.Proofs.Ytmmdbbnmifpciaa
open Go.RowKit

structure RvR where
  r : Int
  t : Int
  g : List Gt
  l : Bool
  a : Int
  ok : Bool
def rputB (r t : Int) (gs : List Gt) (a : Int) (g : Gt) : Bool := recvB r t gs a && gtB g
def rputR (r t : Int) (gs : List Gt) (l : Bool) (a : Int) (g : Gt) : RvR := if rputB r t gs a g then (if (gs.length : Int) < r then ⟨r, t, gs ++ [g], l, 0, true⟩ else ⟨r, t, gs, true, 0, true⟩) else ⟨0, 0, [], false, 0, false⟩
theorem rputR_no {r t a : Int} {gs : List Gt} {l : Bool} {g : Gt} (h : rputB r t gs a g = false) : rputR r t gs l a g = ⟨0, 0, [], false, 0, false⟩ := by simp [rputR, h]
theorem rputR_yes {r t a : Int} {gs : List Gt} {l : Bool} {g : Gt} (h : rputB r t gs a g = true) (hl : (gs.length : Int) < r) : rputR r t gs l a g = ⟨r, t, gs ++ [g], l, 0, true⟩ := by simp [rputR, h, hl]
theorem rputR_full {r t a : Int} {gs : List Gt} {l : Bool} {g : Gt} (h : rputB r t gs a g = true) (hl : ¬ (gs.length : Int) < r) : rputR r t gs l a g = ⟨r, t, gs, true, 0, true⟩ := by simp [rputR, h, hl]
def RPutP (w : World) (R : RvR) (e : Ending) (w' : World) : Prop := ∃ a1 c1, e = .returned (.tuple #[.agg #[.int .i64 R.r, .int .i64 R.t, .slice a1 R.g.length c1, .bool R.l, .int .i64 R.a], .bool R.ok]) ∧ OwnG w' w.heap.size a1 c1 R.g ∧ Below w.heap.size w w'
theorem ownG_nil (w : World) (B : Nat) : OwnG w B none 0 [] := World.ownsRow_nil _ _ _ _
theorem GL.setBelow {w : World} {lb : Nat} {gs : List Gt} (h : GL w lb gs) (x : Addr) (u : Value) (hx : x.block < lb) : GL (w.setCell x u) lb gs := by
  rcases h with ⟨e, h⟩ | ⟨gs', g, l, p, e, h, hs, hl, hn⟩
  · exact .inl ⟨e, (Below.heap_setCell w x u _ (by omega)).trans h⟩
  · exact .inr ⟨gs', g, l, p, e, (Below.heap_setCell w x u _ (by omega)).trans h, hs.same (fun b hb _ => Below.heap_setCell w x u b (by omega)), hl, (Below.heap_setCell w x u _ (by omega)).trans hn⟩
set_option maxHeartbeats 2000000 in
theorem implRecvPut_any (r t : Int) (ao : Option Addr) (gs : List Gt) (c : Nat) (l : Bool) (a gb gc : Int) (w : World) (hx : Gts w ao gs) (lx : gs.length ≤ 1048576) :
    Calls Try.prog 15 #[.agg #[.int .i64 r, .int .i64 t, .slice ao gs.length c, .bool l, .int .i64 a], .agg #[.int .i64 gb, .int .i64 gc]] w (RPutP w (rputR r t gs l a ⟨gb, gc⟩)) := by
  cases hv : recvB r t gs a
  · have HR := Lib.hid (rputR_no (r := r) (t := t) (a := a) (gs := gs) (l := l) (g := ⟨gb, gc⟩) (by simp [rputB, hv]))
    rw [HR.out]
    go_enter Try.func15, Try.ntmps15
    go_wp2_with fail
    refine name_calls fun W hW => ?_
    have bW : Below w.heap.size w W := by
      rw [hW]
      repeat (first | exact Below.refl _ _ | refine Below.alloc ?_ (by first | exact Nat.le_refl _ | (simp; done) | (simp; omega)) _)
    have h1 : W.heap[w.heap.size]? = some (.cells #[.int .i64 r, .int .i64 t, .slice ao gs.length c, .bool l, .int .i64 a] 25 (0, 0)) := by rw [hW]; exact box_alloc (box_alloc (heap_new_at w _ _ rfl) _) _
    have h2 : W.heap[w.heap.size + 1]? = some (.cells #[.int .i64 gb, .int .i64 gc] 33 (0, 0)) := by rw [hW]; exact box_alloc (heap_new_at _ _ _ (by simp)) _
    have h3 : W.heap[w.heap.size + 2]? = some (.cells #[.int .i64 0, .int .i64 0, .slice none 0 0, .bool false, .int .i64 0] 25 (0, 0)) := by rw [hW]; exact heap_new_at _ _ _ (by simp)
    have zW : W.heap.size = w.heap.size + 3 := by rw [hW]; simp
    clear hW
    refine (implRecvValid_any r t ao gs c l a W (hx.below bW) (by omega)).mono ?_
    rintro e w1 ⟨rfl, b1⟩
    have z1 := b1.size
    have B1 := bW.trans (b1.mono bW.size)
    have H1 := Lib.hid ((b1.block _ (by omega)).trans h1)
    have H2 := Lib.hid ((b1.block _ (by omega)).trans h2)
    have H3 := Lib.hid ((b1.block _ (by omega)).trans h3)
    clear h1 h2 h3 b1 bW
    obtain ⟨d0, d1, d2, d3, d4, f0, f1, f2, f3, f4⟩ := five_cells H3.out
    go_wp2
    refine bodyPost_ret (v := .tuple #[.agg #[.int .i64 0, .int .i64 0, .slice none 0 0, .bool false, .int .i64 0], .bool false]) (by simp [results, Try.results15, go_sem, *]) rfl ?_
    refine ⟨none, 0, rfl, ownG_nil _ _, ?_⟩
    exact (((((B1.setCell (by simp; omega) _).setCell (by simp; omega) _).setCell (by simp; omega) _).setCell (by simp; omega) _).setCell (by simp; omega) _)
  cases hg : gtB ⟨gb, gc⟩
  · have HR := Lib.hid (rputR_no (r := r) (t := t) (a := a) (gs := gs) (l := l) (g := ⟨gb, gc⟩) (by simp [rputB, hg]))
    rw [HR.out]
    go_enter Try.func15, Try.ntmps15
    go_wp2_with fail
    refine name_calls fun W hW => ?_
    have bW : Below w.heap.size w W := by
      rw [hW]
      repeat (first | exact Below.refl _ _ | refine Below.alloc ?_ (by first | exact Nat.le_refl _ | (simp; done) | (simp; omega)) _)
    have h1 : W.heap[w.heap.size]? = some (.cells #[.int .i64 r, .int .i64 t, .slice ao gs.length c, .bool l, .int .i64 a] 25 (0, 0)) := by rw [hW]; exact box_alloc (box_alloc (heap_new_at w _ _ rfl) _) _
    have h2 : W.heap[w.heap.size + 1]? = some (.cells #[.int .i64 gb, .int .i64 gc] 33 (0, 0)) := by rw [hW]; exact box_alloc (heap_new_at _ _ _ (by simp)) _
    have h3 : W.heap[w.heap.size + 2]? = some (.cells #[.int .i64 0, .int .i64 0, .slice none 0 0, .bool false, .int .i64 0] 25 (0, 0)) := by rw [hW]; exact heap_new_at _ _ _ (by simp)
    have zW : W.heap.size = w.heap.size + 3 := by rw [hW]; simp
    clear hW
    refine (implRecvValid_any r t ao gs c l a W (hx.below bW) (by omega)).mono ?_
    rintro e w1 ⟨rfl, b1⟩
    have z1 := b1.size
    have B1 := bW.trans (b1.mono bW.size)
    have H1 := Lib.hid ((b1.block _ (by omega)).trans h1)
    have H2 := Lib.hid ((b1.block _ (by omega)).trans h2)
    have H3 := Lib.hid ((b1.block _ (by omega)).trans h3)
    clear h1 h2 h3 b1 bW
    obtain ⟨c0, c1⟩ := cells2 H2.out
    go_wp2_with fail
    refine (gotValid_any gb gc w1).mono ?_
    rintro e w2 ⟨rfl, b2⟩
    have z2 := b2.size
    have B2 := B1.trans (b2.mono B1.size)
    obtain ⟨d0, d1, d2, d3, d4, f0, f1, f2, f3, f4⟩ := five_cells ((b2.block _ (by omega)).trans H3.out)
    clear c0 c1
    go_wp2
    refine bodyPost_ret (v := .tuple #[.agg #[.int .i64 0, .int .i64 0, .slice none 0 0, .bool false, .int .i64 0], .bool false]) (by simp [results, Try.results15, go_sem, *]) rfl ?_
    refine ⟨none, 0, rfl, ownG_nil _ _, ?_⟩
    exact (((((B2.setCell (by simp; omega) _).setCell (by simp; omega) _).setCell (by simp; omega) _).setCell (by simp; omega) _).setCell (by simp; omega) _)
  have hff := recvB_facts hv
  have hr16 := hff.1.2
  have hlr := hff.2.2.1
  have HB : Hid (rputB r t gs a ⟨gb, gc⟩ = true) := Lib.hid (by simp [rputB, hv, hg])
  have hl16 : gs.length ≤ 16 := by omega
  clear hff
  go_enter Try.func15, Try.ntmps15
  go_wp2_with fail
  refine name_calls fun W hW => ?_
  have bW : Below w.heap.size w W := by
    rw [hW]
    repeat (first | exact Below.refl _ _ | refine Below.alloc ?_ (by first | exact Nat.le_refl _ | (simp; done) | (simp; omega)) _)
  have h1 : W.heap[w.heap.size]? = some (.cells #[.int .i64 r, .int .i64 t, .slice ao gs.length c, .bool l, .int .i64 a] 25 (0, 0)) := by rw [hW]; exact box_alloc (box_alloc (heap_new_at w _ _ rfl) _) _
  have h2 : W.heap[w.heap.size + 1]? = some (.cells #[.int .i64 gb, .int .i64 gc] 33 (0, 0)) := by rw [hW]; exact box_alloc (heap_new_at _ _ _ (by simp)) _
  have h3 : W.heap[w.heap.size + 2]? = some (.cells #[.int .i64 0, .int .i64 0, .slice none 0 0, .bool false, .int .i64 0] 25 (0, 0)) := by rw [hW]; exact heap_new_at _ _ _ (by simp)
  have zW : W.heap.size = w.heap.size + 3 := by rw [hW]; simp
  clear hW
  refine (implRecvValid_any r t ao gs c l a W (hx.below bW) (by omega)).mono ?_
  rintro e w1 ⟨rfl, b1⟩
  have z1 := b1.size
  have B1 := bW.trans (b1.mono bW.size)
  have H1 := Lib.hid ((b1.block _ (by omega)).trans h1)
  have H2 := Lib.hid ((b1.block _ (by omega)).trans h2)
  have H3 := Lib.hid ((b1.block _ (by omega)).trans h3)
  clear h1 h2 h3 b1 bW
  obtain ⟨c0, c1⟩ := cells2 H2.out
  go_wp2_with fail
  refine (gotValid_any gb gc w1).mono ?_
  rintro e w2 ⟨rfl, b2⟩
  have z2 := b2.size
  have B2 := B1.trans (b2.mono B1.size)
  have K1 := Lib.hid ((b2.block _ (by omega)).trans H1.out)
  have K2 := Lib.hid ((b2.block _ (by omega)).trans H2.out)
  have K3 := Lib.hid ((b2.block _ (by omega)).trans H3.out)
  clear c0 c1 H1 H2 H3 b2 B1
  obtain ⟨c0, c1, c2, c3, c4⟩ := cells5 K1.out
  go_wp2_with fail
  refine (gotListOf_any ao gs c w2 (hx.below B2) (by omega)).mono ?_
  rintro e w3 ⟨lb, rfl, hlb, hgl, b3⟩
  have z3 := b3.size
  have B3 := B2.trans (b3.mono B2.size)
  have L1 := Lib.hid ((b3.block _ (by omega)).trans K1.out)
  have L2 := Lib.hid ((b3.block _ (by omega)).trans K2.out)
  have L3 := Lib.hid ((b3.block _ (by omega)).trans K3.out)
  clear c0 c1 c2 c3 c4 K1 K2 K3 b3 B2
  obtain ⟨p, q, n, hh, rfl, _⟩ := hgl.chain
  obtain ⟨c0, c1, c2, c3, c4⟩ := cells5 L1.out
  obtain ⟨_, _, k2, _, _, _⟩ := three_cells hh
  go_wp2_with fail
  go_quiet (fail)
  have HGL := Lib.hid hgl
  clear hgl hh
  obtain ⟨g0, g1⟩ := cells2 L2.out
  by_cases hlt : (gs.length : Int) < r
  · have HR := Lib.hid (rputR_yes (l := l) HB.out hlt)
    obtain ⟨L, hL⟩ : ∃ L, L = gs ++ [(⟨gb, gc⟩ : Gt)] := ⟨_, rfl⟩
    have hLl : L.length ≤ 17 := by rw [hL]; simp; omega
    have HL := Lib.hid hL
    clear hL
    go_wp2_with fail
    refine name_calls fun W5 hW5 => ?_
    have bW5 : Below w3.heap.size w3 W5 := by rw [hW5]; exact below_drewN (Below.refl _ _) _
    clear hW5 c0 c1 c2 c3 c4 k2 g0 g1
    refine (glPut_any lb gs gb gc W5 (HGL.out.below bW5) (by omega)).mono ?_
    rintro e w6 ⟨v, rfl, hg6, b6⟩
    rw [← HL.out] at hg6
    go_wp2_with fail
    refine (glItems_any lb L w6 hg6 (by omega)).mono ?_
    rintro e w7 ⟨a7, c7, rfl, o7, b7⟩
    have z5 := bW5.size
    have z6 := b6.size
    have B7 := ((B3.trans (bW5.mono B3.size)).trans (b6.mono (show w.heap.size ≤ lb by omega))).trans (b7.mono (show w.heap.size ≤ w6.heap.size by omega))
    obtain ⟨c0, c1, c2, c3, c4, f0, f1, f2, f3, f4⟩ := five_cells ((b7.block _ (by omega)).trans ((b6.block _ (by omega)).trans ((bW5.block _ (by omega)).trans L1.out)))
    obtain ⟨d0, d1, d2, d3, d4, e0, e1, e2, e3, e4⟩ := five_cells ((b7.block _ (by omega)).trans ((b6.block _ (by omega)).trans ((bW5.block _ (by omega)).trans L3.out)))
    go_wp2
    refine bodyPost_ret (v := .tuple #[.agg #[.int .i64 r, .int .i64 t, .slice a7 L.length c7, .bool l, .int .i64 0], .bool true]) (by simp [results, Try.results15, go_sem, *]) rfl ?_
    rw [HR.out, ← HL.out]
    refine ⟨a7, c7, rfl, ?_, ?_⟩
    · refine own_base (base := w6.heap.size) ?_ (by omega)
      iterate 7 refine own_set ?_ _ _ (by simp; omega)
      exact o7
    · exact ((((((B7.setCell (by simp; try omega) _).setCell (by simp; try omega) _).setCell (by simp; try omega) _).setCell (by simp; try omega) _).setCell (by simp; try omega) _).setCell (by simp; try omega) _).setCell (by simp; try omega) _
  · have HR := Lib.hid (rputR_full (l := l) HB.out hlt)
    have hge : r ≤ (gs.length : Int) := by omega
    clear hlt
    obtain ⟨_, _, _, _, _, f0, f1, f2, f3, f4⟩ := five_cells L1.out
    go_wp2_with fail
    refine name_calls fun W5 hW5 => ?_
    have B5 : Below w.heap.size w W5 := by rw [hW5]; first | exact (below_drewN B3 _).setCell (Nat.le_refl _) _ | exact below_drewN (B3.setCell (Nat.le_refl _) _) _
    have hg5 : GL W5 lb gs := by rw [hW5]; first | exact (HGL.out.below (below_drewN (Below.refl _ _) _)).setBelow _ _ (by simp; omega) | exact (HGL.out.setBelow _ _ (by simp; omega)).below (below_drewN (Below.refl _ _) _)
    have m1 : W5.heap[w.heap.size]? = some (.cells #[.int .i64 r, .int .i64 t, .slice ao gs.length c, .bool true, .int .i64 a] 25 (0, 0)) := by rw [hW5]; exact five_set L1.out _
    have m3 : W5.heap[w.heap.size + 2]? = some (.cells #[.int .i64 0, .int .i64 0, .slice none 0 0, .bool false, .int .i64 0] 25 (0, 0)) := by rw [hW5]; exact box_set L3.out _ _ (by simp)
    have z5 : w3.heap.size ≤ W5.heap.size := by rw [hW5]; simp [World.drewN]
    clear hW5 c0 c1 c2 c3 c4 k2 g0 g1 f0 f1 f2 f3 f4
    refine (glItems_any lb gs W5 hg5 (by omega)).mono ?_
    rintro e w7 ⟨a7, c7, rfl, o7, b7⟩
    have B7 := B5.trans (b7.mono B5.size)
    obtain ⟨c0, c1, c2, c3, c4, f0, f1, f2, f3, f4⟩ := five_cells ((b7.block _ (by omega)).trans m1)
    obtain ⟨d0, d1, d2, d3, d4, e0, e1, e2, e3, e4⟩ := five_cells ((b7.block _ (by omega)).trans m3)
    go_wp2
    refine bodyPost_ret (v := .tuple #[.agg #[.int .i64 r, .int .i64 t, .slice a7 gs.length c7, .bool true, .int .i64 0], .bool true]) (by simp [results, Try.results15, go_sem, *]) rfl ?_
    rw [HR.out]
    refine ⟨a7, c7, rfl, ?_, ?_⟩
    · refine own_base (base := W5.heap.size) ?_ (by omega)
      iterate 7 refine own_set ?_ _ _ (by simp; omega)
      exact o7
    · exact ((((((B7.setCell (by simp; try omega) _).setCell (by simp; try omega) _).setCell (by simp; try omega) _).setCell (by simp; try omega) _).setCell (by simp; try omega) _).setCell (by simp; try omega) _).setCell (by simp; try omega) _
end Go.Proofs.Ytmmdbbnmifpciaa
