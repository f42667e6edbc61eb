/- Talks: the draws of the arguments. -/
import Derived.Test.YtjamcfnclnpdkabTalkDraw2
namespace Go.Proofs.Ytjamcfnclnpdkab
open Go.RowKit

theorem below_alloc3 {w0 w : World} (h : Below w0.heap.size w0 w) (o : Obj) : Below w0.heap.size w0 (w.alloc o) := h.alloc h.size o
theorem OwnI.put {w : World} {base c : Nat} {ao : Option Addr} {L : List Int} (h : OwnI w base ao c L) {k : Nat} (hk : k < L.length) (n : Int) :
    ∃ g u, ao = some ⟨g, 0, none⟩ ∧ base ≤ g ∧ g < w.heap.size ∧ w.cell? ⟨g, k, none⟩ = some u ∧ w.frozen? ⟨g, k, none⟩ = false ∧ OwnI (w.setCell ⟨g, k, none⟩ (.int .i64 n)) base ao c (L.set k n) := by
  rcases own_head h with ⟨_, h0, _⟩ | ⟨g, rfl, hgb, hgs⟩
  · omega
  obtain ⟨u, hu⟩ := own_cell_ex h (j := k) (by omega)
  obtain ⟨h1, h2⟩ := h.stored k (.int .i64 n)
  refine ⟨g, u, rfl, hgb, hgs, hu, h.frozenAt _, ?_⟩
  unfold OwnI
  rw [List.length_set, List.map_set]
  exact h1



set_option maxHeartbeats 1000000 in
theorem drawTalkSend_any (ao : Option Addr) (bs : List Int) (c : Nat) (w : World) (h : Bytes w ao bs) (hc : bs.length ≤ c) (lx : bs.length ≤ 1048576) :
    Calls Try.prog 8 #[.slice ao bs.length c] w fun e w' => ∃ (n t : Int) (a : Option Addr) (xs : List Int) (c : Nat) (b : Option Addr) (ys : List Int) (d : Nat), e = .returned (.tuple #[.agg #[.int .i64 n, .int .i64 t, .slice a xs.length c], .slice b ys.length d]) ∧ xs.length ≤ 2 ∧ ys.length ≤ 18 ∧ Ints w' a xs ∧ Ints w' b ys ∧ Below w.heap.size w w' := by
  have b0 : Below w.heap.size w (w.alloc (.cells #[.int .i64 0, .int .i64 0, .slice none 0 0] 25)) := (Below.refl _ _).alloc (Nat.le_refl _) _
  have B0 := Lib.hid b0
  have hx0 := h.below b0
  clear b0
  go_enter Try.func8, Try.ntmps8
  go_wp2_with fail
  refine (l6Open_any ao bs c _ hx0 hc (by omega)).mono ?_
  rintro e w1 ⟨rb, rfl, hrb, R, b1⟩
  have H2 := (b1.block _ (by simp)).trans (heap_new_at w (.cells #[.int .i64 0, .int .i64 0, .slice none 0 0] 25) _ rfl)
  simp only [World.size_alloc] at hrb
  have B1 := below_join B0.out b1
  have z1 := b1.size
  simp only [World.size_alloc] at z1
  have hrl0 := Rd.lt R
  go_wp2_with fail
  refine (l92Talk_any rb 0 w1 R (by omega)).mono ?_
  rintro e w2 ⟨n, t, a, xs, c2, rfl, lx2, n0, n1, o, R, g2⟩
  replace H2 := (g2.block w.heap.size (box_lt H2) (fun e => by injection e; omega)).trans H2
  have G := only_trans (only_below B1 (some rb)) g2
  have z2 := g2.size
  have hrl := Rd.lt R
  clear g2 b1
  go_wp2_with fail
  refine name_calls fun W hW => ?_
  have H5 := heap_new_at w2 (.cells #[.int .i64 n, .int .i64 t, .slice a xs.length c2] 25) _ rfl
  replace R := rd_alloc R (.cells #[.int .i64 n, .int .i64 t, .slice a xs.length c2] 25)
  replace G := only_alloc G (.cells #[.int .i64 n, .int .i64 t, .slice a xs.length c2] 25)
  replace H2 := box_alloc H2 (.cells #[.int .i64 n, .int .i64 t, .slice a xs.length c2] 25)
  replace o := World.ownsRow.alloc o (.cells #[.int .i64 n, .int .i64 t, .slice a xs.length c2] 25)
  rw [← hW] at H5 R G H2 o
  clear hW
  refine (pick_any rb _ 2 W R (by omega)).mono ?_
  rintro e w3 ⟨k3, rfl, k30, k31, R', g⟩
  replace R := R'
  replace G := only_trans G g
  replace H2 := (g.block w.heap.size (box_lt H2) (fun e => by injection e; omega)).trans H2
  replace H5 := box_only H5 g hrl
  replace o := own_only o g (fun q hq => by have := (own_in o _ hq).1; simp at this; omega)
  clear g R'
  by_cases hk : k3 = 0
  case' pos =>
    subst hk
    go_wp2_with fail
    refine (pick_any rb _ 2 w3 R (by omega)).mono ?_
    rintro e w4 ⟨k4, rfl, k40, k41, R', g⟩
    replace R := R'
    replace G := only_trans G g
    replace H2 := (g.block w.heap.size (box_lt H2) (fun e => by injection e; omega)).trans H2
    replace H5 := box_only H5 g hrl
    clear g R' o
    obtain ⟨c0, c1, c3, f0, f1, f3⟩ := three_cells H5
    go_wp2_with fail
    clear c0 c1 c3 f0 f1 f3
    refine name_wp fun W5 hW5 => ?_
    have HD : Hid (∃ (n t : Int) (a : Option Addr) (xs : List Int) (c2 : Nat), Rd W5 rb (0 + 20) ∧ w.grownBy W5 (some rb) ∧ W5.heap[w.heap.size]? = some (.cells #[.int .i64 0, .int .i64 0, .slice none 0 0] 25 (0, 0)) ∧ W5.heap[w2.heap.size]? = some (.cells #[.int .i64 n, .int .i64 t, .slice a xs.length c2] 25 (0, 0)) ∧ xs.length ≤ 2 ∧ OwnI W5 w1.heap.size a c2 xs) := by
      refine Lib.hid ⟨k4, 0, none, [], 0, ?_, ?_, ?_, ?_, by simp, own_nil _ _⟩
      · rw [hW5]; exact rd_set (rd_set (rd_set (R.mono (by omega)) _ _ hrl) _ _ hrl) _ _ hrl
      · rw [hW5]; exact only_set (only_set (only_set G _ _ (by simp; omega)) _ _ (by simp; omega)) _ _ (by simp; omega)
      · rw [hW5]; exact box_set (box_set (box_set H2 _ _ (by simp; omega)) _ _ (by simp; omega)) _ _ (by simp; omega)
      · rw [hW5]; exact three_set2 (three_set1 (three_set0 H5 _) _) _
    clear hW5 R G H2 H5 lx2
  case' neg =>
    have hkb : (k3 == 0) = false := by simpa using hk
    clear hk
    go_wp2_with fail
    clear hkb
    obtain ⟨W5, rfl⟩ : ∃ W5 : World, W5 = w3 := ⟨_, rfl⟩
    have HD : Hid (∃ (n t : Int) (a : Option Addr) (xs : List Int) (c2 : Nat), Rd W5 rb (0 + 20) ∧ w.grownBy W5 (some rb) ∧ W5.heap[w.heap.size]? = some (.cells #[.int .i64 0, .int .i64 0, .slice none 0 0] 25 (0, 0)) ∧ W5.heap[w2.heap.size]? = some (.cells #[.int .i64 n, .int .i64 t, .slice a xs.length c2] 25 (0, 0)) ∧ xs.length ≤ 2 ∧ OwnI W5 w1.heap.size a c2 xs) :=
      Lib.hid ⟨n, t, a, xs, c2, R.mono (by omega), G, H2, H5, lx2, o⟩
    clear R G H2 H5 o lx2
  all_goals
    obtain ⟨n', t', a', xs', c', R, G, H2, H5, lx2, o⟩ := HD.out
    clear HD
    have n5 : w2.heap.size ≠ w.heap.size := by omega
    have n6 := Ne.symm n5
    obtain ⟨d0, d1, d2, e0, e1, e2⟩ := three_cells H2
    obtain ⟨c0, c1, c3, _, _, _⟩ := three_cells H5
    have HH2 := Lib.hid H2
    have HH5 := Lib.hid H5
    have hlt5 := box_lt H5
    have hlt2 := box_lt H2
    clear H2 H5
    go_region_held3 (fun v => v.cell? ⟨w2.heap.size, 0, none⟩ = some (.int .i64 n') ∧ v.cell? ⟨w2.heap.size, 1, none⟩ = some (.int .i64 t') ∧ v.cell? ⟨w2.heap.size, 2, none⟩ = some (.slice a' xs'.length c'))
      (go_keep)
      ((go_at_call 30
        refine (l92Body_any rb _ _ (Rd.below R (Below.refl _ _).drew) (by omega)).mono ?_
        rintro e w6 ⟨b6, ys, d6, rfl, ly, o6, R6, g6⟩
        obtain ⟨d0', d1', d2', e0', e1', e2'⟩ := three_cells ((g6.block w.heap.size hlt2 (fun e => by injection e; omega)).trans HH2.out)
        obtain ⟨c0', c1', c3', _, _, _⟩ := three_cells (box_only (w := W5.drew) HH5.out g6 hrl)))
    go_wp2
    refine bodyPost_ret (v := .tuple #[.agg #[.int .i64 n', .int .i64 t', .slice a' xs'.length c'], .slice b6 ys.length d6]) (by simp [results, Try.results8, go_sem, *]) rfl ?_
    have o4 := own_only (w := W5.drew) o g6 (fun q hq => by have := (own_in o _ hq).1; simp at this; omega)
    have G4 : w.grownBy w6 (some rb) := only_trans (only_trans G (only_below (Below.refl _ _).drew _)) g6
    have B4 : Below w.heap.size w w6 := ⟨G4.os, G4.tape, G4.output, G4.size, fun i hi => G4.block i hi (fun e => by injection e; omega)⟩
    have o6' : w6.ownsRow W5.heap.size _ _ _ _ _ := o6
    refine ⟨n', t', a', xs', c', b6, ys, d6, rfl, lx2, ly, ?_, ?_, ?_⟩
    · exact own_cells (own_set (own_set (own_set o4 _ _ (by simp; omega)) _ _ (by simp; omega)) _ _ (by simp; omega))
    · exact own_cells (own_set (own_set (own_set o6' _ _ hlt2) _ _ hlt2) _ _ hlt2)
    · repeat' (first | exact Below.refl _ _ | exact Nat.le_refl _ | assumption | refine Below.drew ?_ | refine below_drewN ?_ _ | (refine Below.alloc ?_ (by first | exact Nat.le_refl _ | omega | (simp; done) | (simp; omega)) _) | (refine Below.setCell ?_ (by first | exact Nat.le_refl _ | omega | (simp; done) | (simp; omega)) _))

end Go.Proofs.Ytjamcfnclnpdkab
