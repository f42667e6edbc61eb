/- Receivers: the draws. -/
import Derived.Test.YtmmdbbnmifpciaaRecvDraw2
import Derived.Deep.RegionHeld3
namespace Go.Proofs.Ytmmdbbnmifpciaa
open Go.RowKit

set_option maxHeartbeats 1000000 in
theorem drawRecvReady_any (ao : Option Addr) (bs : List Int) (c : Nat) (w : World) (h : Bytes w ao bs) (hc : bs.length ≤ c) (lx : bs.length ≤ 1048576) :
    Calls Try.prog 9 #[.slice ao bs.length c] w fun e w' => ∃ (r t : Int) (a : Option Addr) (xs : List Gt) (c : Nat) (l : Bool) (ag : Int), e = .returned (.agg #[.int .i64 r, .int .i64 t, .slice a xs.length c, .bool l, .int .i64 ag]) ∧ xs.length ≤ 6 ∧ OwnG w' w.heap.size a c xs ∧ Below w.heap.size w w' := by
  go_enter Try.func9, Try.ntmps9
  go_wp2_with fail
  refine name_calls fun W hW => ?_
  have BW : Below w.heap.size w W := by rw [hW]; exact (Below.refl _ _).alloc (Nat.le_refl _) _
  have H0 : W.heap[w.heap.size]? = some (.cells #[.int .i64 0, .int .i64 0, .slice none 0 0, .bool false, .int .i64 0] 25 (0, 0)) := by rw [hW]; exact heap_new_at _ _ _ rfl
  have zW : W.heap.size = w.heap.size + 1 := by rw [hW]; simp
  clear hW
  refine (l6Open_any ao bs c W (h.below BW) hc (by omega)).mono ?_
  rintro e w1 ⟨rb, rfl, hrb, R1, b1⟩
  have H1 := (b1.block _ (box_lt H0)).trans H0
  have B1 := BW.trans (b1.mono BW.size)
  have z1 := b1.size
  clear H0 BW b1 h
  go_wp2_with fail
  refine (l91Recv_any rb 0 w1 R1 (by omega)).mono ?_
  rintro e w2 ⟨r, t, a, xs, c2, l, ag, rfl, lx2, o2, R2, g2⟩
  have H2 := box_only' H1 g2 (by omega)
  have B2 := below_only B1 g2 (by omega)
  obtain ⟨d0, d1, d2, d3, d4, f0, f1, f2, f3, f4⟩ := five_cells H2
  go_wp2
  refine bodyPost_ret (v := .agg #[.int .i64 r, .int .i64 t, .slice a xs.length c2, .bool l, .int .i64 ag]) (by simp [results, Try.results9, go_sem, *]) rfl ?_
  have gF : w2.grownBy (((((w2.setCell ⟨w.heap.size, 0, none⟩ (.int .i64 r)).setCell ⟨w.heap.size, 1, none⟩ (.int .i64 t)).setCell ⟨w.heap.size, 2, none⟩ (.slice a xs.length c2)).setCell ⟨w.heap.size, 3, none⟩ (.bool l)).setCell ⟨w.heap.size, 4, none⟩ (.int .i64 ag)) (some w.heap.size) := only_setR (only_setR (only_setR (only_setR (only_setR (only_refl _ _) _ _) _ _) _ _) _ _) _ _
  exact ⟨r, t, a, xs, c2, l, ag, rfl, lx2, own_base (own_only o2 gF (fun q hq => by have := (own_in o2 _ hq).1; simp at this; omega)) (by omega), below_only B2 gF (Nat.le_refl _)⟩
set_option maxHeartbeats 1000000 in
theorem drawRecvTick_any (ao : Option Addr) (bs : List Int) (c : Nat) (w : World) (h : Bytes w ao bs) (hc : bs.length ≤ c) (lx : bs.length ≤ 1048576) :
    Calls Try.prog 20 #[.slice ao bs.length c] w fun e w' => ∃ (r t : Int) (a : Option Addr) (xs : List Gt) (c : Nat) (l : Bool) (ag : Int), e = .returned (.agg #[.int .i64 r, .int .i64 t, .slice a xs.length c, .bool l, .int .i64 ag]) ∧ xs.length ≤ 6 ∧ OwnG w' w.heap.size a c xs ∧ Below w.heap.size w w' := by
  go_enter Try.func20, Try.ntmps20
  go_wp2_with fail
  refine name_calls fun W hW => ?_
  have BW : Below w.heap.size w W := by rw [hW]; exact (Below.refl _ _).alloc (Nat.le_refl _) _
  have H0 : W.heap[w.heap.size]? = some (.cells #[.int .i64 0, .int .i64 0, .slice none 0 0, .bool false, .int .i64 0] 25 (0, 0)) := by rw [hW]; exact heap_new_at _ _ _ rfl
  have zW : W.heap.size = w.heap.size + 1 := by rw [hW]; simp
  clear hW
  refine (l6Open_any ao bs c W (h.below BW) hc (by omega)).mono ?_
  rintro e w1 ⟨rb, rfl, hrb, R1, b1⟩
  have H1 := (b1.block _ (box_lt H0)).trans H0
  have B1 := BW.trans (b1.mono BW.size)
  have z1 := b1.size
  clear H0 BW b1 h
  go_wp2_with fail
  refine (l91Recv_any rb 0 w1 R1 (by omega)).mono ?_
  rintro e w2 ⟨r, t, a, xs, c2, l, ag, rfl, lx2, o2, R2, g2⟩
  have H2 := box_only' H1 g2 (by omega)
  have B2 := below_only B1 g2 (by omega)
  obtain ⟨d0, d1, d2, d3, d4, f0, f1, f2, f3, f4⟩ := five_cells H2
  go_wp2
  refine bodyPost_ret (v := .agg #[.int .i64 r, .int .i64 t, .slice a xs.length c2, .bool l, .int .i64 ag]) (by simp [results, Try.results20, go_sem, *]) rfl ?_
  have gF : w2.grownBy (((((w2.setCell ⟨w.heap.size, 0, none⟩ (.int .i64 r)).setCell ⟨w.heap.size, 1, none⟩ (.int .i64 t)).setCell ⟨w.heap.size, 2, none⟩ (.slice a xs.length c2)).setCell ⟨w.heap.size, 3, none⟩ (.bool l)).setCell ⟨w.heap.size, 4, none⟩ (.int .i64 ag)) (some w.heap.size) := only_setR (only_setR (only_setR (only_setR (only_setR (only_refl _ _) _ _) _ _) _ _) _ _) _ _
  exact ⟨r, t, a, xs, c2, l, ag, rfl, lx2, own_base (own_only o2 gF (fun q hq => by have := (own_in o2 _ hq).1; simp at this; omega)) (by omega), below_only B2 gF (Nat.le_refl _)⟩
set_option maxHeartbeats 4000000 in
theorem drawRecvPut_any (ao : Option Addr) (bs : List Int) (c : Nat) (w : World) (h : Bytes w ao bs) (hc : bs.length ≤ c) (lx : bs.length ≤ 1048576) :
    Calls Try.prog 14 #[.slice ao bs.length c] w fun e w' => ∃ (r t : Int) (a : Option Addr) (xs : List Gt) (c : Nat) (l : Bool) (ag gb gc : Int), e = .returned (.tuple #[.agg #[.int .i64 r, .int .i64 t, .slice a xs.length c, .bool l, .int .i64 ag], .agg #[.int .i64 gb, .int .i64 gc]]) ∧ xs.length ≤ 6 ∧ OwnG w' w.heap.size a c xs ∧ Below w.heap.size w w' := by
  go_enter Try.func14, Try.ntmps14
  go_wp2_with fail
  refine name_calls fun W hW => ?_
  have BW : Below w.heap.size w W := by rw [hW]; exact ((Below.refl _ _).alloc (Nat.le_refl _) _).alloc (by simp) _
  have H0 : W.heap[w.heap.size]? = some (.cells #[.int .i64 0, .int .i64 0, .slice none 0 0, .bool false, .int .i64 0] 25 (0, 0)) := by rw [hW]; exact box_alloc (heap_new_at w _ _ rfl) _
  have G0 : W.heap[w.heap.size + 1]? = some (.cells #[.int .i64 0, .int .i64 0] 33 (0, 0)) := by rw [hW]; exact heap_new_at _ _ _ (by simp)
  have zW : W.heap.size = w.heap.size + 2 := by rw [hW]; simp
  clear hW
  refine (l6Open_any ao bs c W (h.below BW) hc (by omega)).mono ?_
  rintro e w1 ⟨rb, rfl, hrb, R1, b1⟩
  have H1 := (b1.block _ (box_lt H0)).trans H0
  have G1 := (b1.block _ (box_lt G0)).trans G0
  have B1 := BW.trans (b1.mono BW.size)
  have z1 := b1.size
  clear H0 G0 BW b1 h
  go_wp2_with fail
  refine (l91Recv_any rb 0 w1 R1 (by omega)).mono ?_
  rintro e w2 ⟨r, t, a, xs, c2, l, ag, rfl, lx2, o2, R2, g2⟩
  go_wp2_with fail
  refine name_wp fun W3 hW3 => ?_
  have z2 := g2.size
  have hl1 := R1.lt
  have D : DS w W3 rb w2.heap.size 40 #[.int .i64 0, .int .i64 0, .slice none 0 0, .bool false, .int .i64 0] #[.int .i64 r, .int .i64 t, .slice a xs.length c2, .bool l, .int .i64 ag] 25 33 2 a xs.length c2 (xs.flatMap gtCells) := by
    rw [hW3]
    exact { zr := by omega, rl := by omega, ne := by decide, nr := by decide, R := rd_alloc R2 _, B := (below_only B1 g2 (by omega)).alloc (by omega) _, H0 := box_alloc (box_only' H1 g2 (by omega)) _, H := heap_new_at _ _ _ rfl, o := World.ownsRow.alloc (own_base o2 (by omega)) _ }
  have G3 : W3.heap[w.heap.size + 1]? = some (.cells #[.int .i64 0, .int .i64 0] 33 (0, 0)) := by rw [hW3]; exact box_alloc (box_only' G1 g2 (by omega)) _
  have hO : ∀ q, a = some q → w1.heap.size ≤ q.block := fun q hq => (own_in o2 q hq).1
  have HO := Lib.hid hO
  clear hW3 R1 H1 B1 o2 R2 g2 G1 hO
  generalize w2.heap.size = b3 at *
  have HD := Lib.hid D
  have HG := Lib.hid G3
  obtain ⟨c0, c1, c3, c4, c5⟩ := cells5 D.H
  have hbl := D.blt
  have zlt := D.zlt
  have hzr := D.zr
  have hrl := D.rl
  have hbz : b3 ≠ w.heap.size := by omega
  have hbz2 := Ne.symm hbz
  have hbz3 : b3 ≠ w.heap.size + 1 := by omega
  have hbz4 := Ne.symm hbz3
  clear D G3
  go_region_held3 (fun v => v.cell? ⟨b3, 0, none⟩ = some (.int .i64 r) ∧ v.cell? ⟨b3, 1, none⟩ = some (.int .i64 t) ∧ v.cell? ⟨b3, 2, none⟩ = some (.slice a xs.length c2) ∧ v.cell? ⟨b3, 3, none⟩ = some (.bool l) ∧ v.cell? ⟨b3, 4, none⟩ = some (.int .i64 ag))
    (go_keep)
    (first
      | (go_at_call 33
         refine (l91Got_any rb _ _ HD.out.drew.R (by omega)).mono ?_
         rintro e w5 ⟨gb, gc, rfl, R5, g5⟩
         have D5 := HD.out.drew.pick R5 g5
         have G5 := box_only' (show W3.drew.heap[w.heap.size + 1]? = some (.cells #[.int .i64 0, .int .i64 0] 33 (0, 0)) from HG.out) g5 (by omega)
         obtain ⟨e0, e1, e2, e3, e4⟩ := cells5 D5.H
         obtain ⟨d0', d1', d2', d3', d4', f0', f1', f2', f3', f4'⟩ := five_cells D5.H0
         obtain ⟨h0', h1', k0', k1'⟩ := two_cells G5))
  all_goals
    go_wp2
    refine bodyPost_ret (v := .tuple #[.agg #[.int .i64 r, .int .i64 t, .slice a xs.length c2, .bool l, .int .i64 ag], .agg #[.int .i64 gb, .int .i64 gc]]) (by simp [results, Try.results14, go_sem, *]) rfl ?_
    refine ⟨r, t, a, xs, c2, l, ag, gb, gc, rfl, lx2, ?_, ?_⟩
    · exact own_set_ne (own_set_ne (own_set_ne (own_set_ne (own_set_ne (own_set_ne (own_set_ne D5.o _ _ (own_box_ne D5.o D5.H0 D5.ne)) _ _ (own_box_ne D5.o D5.H0 D5.ne)) _ _ (own_box_ne D5.o D5.H0 D5.ne)) _ _ (own_box_ne D5.o D5.H0 D5.ne)) _ _ (own_box_ne D5.o D5.H0 D5.ne)) _ _ (fun q hq => by have := HO.out q hq; simp; omega)) _ _ (fun q hq => by have := HO.out q hq; simp; omega)
    · have BB := D5.B
      exact ((((((BB.setCell (Nat.le_refl _) _).setCell (Nat.le_refl _) _).setCell (Nat.le_refl _) _).setCell (Nat.le_refl _) _).setCell (Nat.le_refl _) _).setCell (Nat.le_succ _) _).setCell (Nat.le_succ _) _
end Go.Proofs.Ytmmdbbnmifpciaa
