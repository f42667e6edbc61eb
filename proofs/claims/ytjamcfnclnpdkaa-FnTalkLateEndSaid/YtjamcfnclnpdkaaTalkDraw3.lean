/- Talks: the draws of the arguments. -/
import Derived.Test.YtjamcfnclnpdkaaTalkDraw2
namespace Go.Proofs.Ytjamcfnclnpdkaa
open Go.RowKit

theorem below_alloc3 {w0 w : World} (h : Below w0.heap.size w0 w) (o : Obj) : Below w0.heap.size w0 (w.alloc o) := h.alloc h.size o
theorem OwnI.put {w : World} {base c : Nat} {ao : Option Addr} {L : List Int} (h : OwnI w base ao c L) {k : Nat} (hk : k < L.length) (n : Int) :
    ∃ g u, ao = some ⟨g, 0, none⟩ ∧ base ≤ g ∧ g < w.heap.size ∧ w.cell? ⟨g, k, none⟩ = some u ∧ w.frozen? ⟨g, k, none⟩ = false ∧ OwnI (w.setCell ⟨g, k, none⟩ (.int .i64 n)) base ao c (L.set k n) := by
  rcases own_head h with ⟨_, h0, _⟩ | ⟨g, rfl, hgb, hgs⟩
  · omega
  obtain ⟨u, hu⟩ := own_cell_ex h (j := k) (by omega)
  obtain ⟨h1, h2⟩ := h.stored k (.int .i64 n)
  refine ⟨g, u, rfl, hgb, hgs, hu, h.frozenAt _, ?_⟩
  unfold OwnI
  rw [List.length_set, List.map_set]
  exact h1

theorem drawTalkLate_any (ao : Option Addr) (bs : List Int) (c : Nat) (w : World) (h : Bytes w ao bs) (hc : bs.length ≤ c) (lx : bs.length ≤ 1048576) :
    Calls Try.prog 36 #[.slice ao bs.length c] w fun e w' => ∃ (n t : Int) (a : Option Addr) (xs : List Int) (c : Nat), e = .returned (.agg #[.int .i64 n, .int .i64 t, .slice a xs.length c]) ∧ xs.length ≤ 2 ∧ Ints w' a xs ∧ Below w.heap.size w w' := by
  have b0 : Below w.heap.size w (w.alloc (.cells #[.int .i64 0, .int .i64 0, .slice none 0 0] 25)) := (Below.refl _ _).alloc (Nat.le_refl _) _
  have B0 := Lib.hid b0
  have hx0 := h.below b0
  clear b0
  go_enter Try.func36, Try.ntmps36
  go_wp2_with fail
  refine (l6Open_any ao bs c _ hx0 hc (by omega)).mono ?_
  rintro e w1 ⟨rb, rfl, hrb, R, b1⟩
  have H2 := (b1.block _ (by simp)).trans (heap_new_at w (.cells #[.int .i64 0, .int .i64 0, .slice none 0 0] 25) _ rfl)
  simp only [World.size_alloc] at hrb
  have B1 := below_join B0.out b1
  have z1 := b1.size
  simp only [World.size_alloc] at z1
  have hrl0 := Rd.lt R
  go_wp2_with fail
  refine (l92Talk_any rb 0 w1 R (by omega)).mono ?_
  rintro e w2 ⟨n, t, a, xs, c2, rfl, lx2, n0, n1, o, R, g2⟩
  replace H2 := (g2.block w.heap.size (box_lt H2) (fun e => by injection e; omega)).trans H2
  have G := only_trans (only_below B1 (some rb)) g2
  have z2 := g2.size
  have hrl := Rd.lt R
  clear g2 b1
  obtain ⟨d0, d1, d2, e0, e1, e2⟩ := three_cells H2
  go_wp2
  refine bodyPost_ret (v := .agg #[.int .i64 n, .int .i64 t, .slice a xs.length c2]) (by simp [results, Try.results36, go_sem, *]) rfl ?_
  refine ⟨n, t, a, xs, c2, rfl, lx2, own_cells (own_set (own_set (own_set o _ _ (by simp; omega)) _ _ (by simp; omega)) _ _ (by simp; omega)), ?_⟩
  have B2 : Below w.heap.size w w2 := ⟨G.os, G.tape, G.output, G.size, fun i hi => G.block i hi (fun e => by injection e; omega)⟩
  repeat' (first | exact Below.refl _ _ | exact Nat.le_refl _ | assumption | refine Below.drew ?_ | refine below_drewN ?_ _ | (refine Below.alloc ?_ (by first | exact Nat.le_refl _ | omega | (simp; done) | (simp; omega)) _) | (refine Below.setCell ?_ (by first | exact Nat.le_refl _ | omega | (simp; done) | (simp; omega)) _))

set_option maxHeartbeats 1000000 in
theorem drawTalkAnswer_any (ao : Option Addr) (bs : List Int) (c : Nat) (w : World) (h : Bytes w ao bs) (hc : bs.length ≤ c) (lx : bs.length ≤ 1048576) :
    Calls Try.prog 27 #[.slice ao bs.length c] w fun e w' => ∃ (n t : Int) (a : Option Addr) (xs : List Int) (c : Nat) (k : Int), e = .returned (.tuple #[.agg #[.int .i64 n, .int .i64 t, .slice a xs.length c], .int .i64 k]) ∧ xs.length ≤ 2 ∧ -1 ≤ k ∧ k ≤ 2 ∧ Ints w' a xs ∧ Below w.heap.size w w' := by
  have b0 : Below w.heap.size w (w.alloc (.cells #[.int .i64 0, .int .i64 0, .slice none 0 0] 25)) := (Below.refl _ _).alloc (Nat.le_refl _) _
  have B0 := Lib.hid b0
  have hx0 := h.below b0
  clear b0
  go_enter Try.func27, Try.ntmps27
  go_wp2_with fail
  refine (l6Open_any ao bs c _ hx0 hc (by omega)).mono ?_
  rintro e w1 ⟨rb, rfl, hrb, R, b1⟩
  have H2 := (b1.block _ (by simp)).trans (heap_new_at w (.cells #[.int .i64 0, .int .i64 0, .slice none 0 0] 25) _ rfl)
  simp only [World.size_alloc] at hrb
  have B1 := below_join B0.out b1
  have z1 := b1.size
  simp only [World.size_alloc] at z1
  have hrl0 := Rd.lt R
  go_wp2_with fail
  refine (l92Talk_any rb 0 w1 R (by omega)).mono ?_
  rintro e w2 ⟨n, t, a, xs, c2, rfl, lx2, n0, n1, o, R, g2⟩
  replace H2 := (g2.block w.heap.size (box_lt H2) (fun e => by injection e; omega)).trans H2
  have G := only_trans (only_below B1 (some rb)) g2
  have z2 := g2.size
  have hrl := Rd.lt R
  clear g2 b1
  go_wp2_with fail
  refine name_calls fun W hW => ?_
  have H5 := heap_new_at w2 (.cells #[.int .i64 n, .int .i64 t, .slice a xs.length c2] 25) _ rfl
  replace R := rd_alloc R (.cells #[.int .i64 n, .int .i64 t, .slice a xs.length c2] 25)
  replace G := only_alloc G (.cells #[.int .i64 n, .int .i64 t, .slice a xs.length c2] 25)
  replace H2 := box_alloc H2 (.cells #[.int .i64 n, .int .i64 t, .slice a xs.length c2] 25)
  replace o := World.ownsRow.alloc o (.cells #[.int .i64 n, .int .i64 t, .slice a xs.length c2] 25)
  rw [← hW] at H5 R G H2 o
  clear hW
  refine (pick_any rb _ 3 W R (by omega)).mono ?_
  rintro e w3 ⟨k3, rfl, k30, k31, R', g⟩
  replace R := R'
  replace G := only_trans G g
  replace H2 := (g.block w.heap.size (box_lt H2) (fun e => by injection e; omega)).trans H2
  replace H5 := box_only H5 g hrl
  replace o := own_only o g (fun q hq => by have := (own_in o _ hq).1; simp at this; omega)
  clear g R'
  have n5 : w2.heap.size ≠ w.heap.size := by omega
  have n6 := Ne.symm n5
  obtain ⟨d0, d1, d2, e0, e1, e2⟩ := three_cells H2
  obtain ⟨c0, c1, c3, _, _, _⟩ := three_cells H5
  have HH2 := Lib.hid H2
  have HH5 := Lib.hid H5
  have hlt5 := box_lt H5
  clear H2 H5
  have ho : ∀ v : World, v.ownsRow w1.heap.size 3 1 (.slice a xs.length c2) xs.length (xs.map (Value.int .i64)) → ∀ x y z : Value, Ints (((v.setCell ⟨w.heap.size, 0, none⟩ x).setCell ⟨w.heap.size, 1, none⟩ y).setCell ⟨w.heap.size, 2, none⟩ z) a xs := fun v hv x y z =>
    own_cells (own_set (own_set (own_set hv _ _ (by simp; omega)) _ _ (by simp; omega)) _ _ (by simp; omega))
  have hB : ∀ v : World, w.grownBy v (some rb) → ∀ x y z : Value, Below w.heap.size w (((v.setCell ⟨w.heap.size, 0, none⟩ x).setCell ⟨w.heap.size, 1, none⟩ y).setCell ⟨w.heap.size, 2, none⟩ z) := fun v hv x y z =>
    (((⟨hv.os, hv.tape, hv.output, hv.size, fun i hi => hv.block i hi (fun e => by injection e; omega)⟩ : Below w.heap.size w v).setCell (by simp) _).setCell (by simp) _).setCell (by simp) _
  have HO := Lib.hid ho
  have HB := Lib.hid hB
  clear ho hB
  by_cases hk : 0 < k3
  · go_wp2_with fail
    go_region_held3 (fun v => v.cell? ⟨w2.heap.size, 0, none⟩ = some (.int .i64 n) ∧ v.cell? ⟨w2.heap.size, 1, none⟩ = some (.int .i64 t) ∧ v.cell? ⟨w2.heap.size, 2, none⟩ = some (.slice a xs.length c2))
      (go_keep)
      (fail)
    go_wp2
    refine bodyPost_ret (v := .tuple #[.agg #[.int .i64 n, .int .i64 t, .slice a xs.length c2], .int .i64 n]) (by simp [results, Try.results27, go_sem, *]) rfl ?_
    exact ⟨n, t, a, xs, c2, n, rfl, lx2, n0, n1, Cells.drew (HO.out w3 o _ _ _), (HB.out w3 G _ _ _).drew⟩
  · have hk0 : k3 ≤ 0 := by omega
    clear hk
    go_wp2_with fail
    go_region_held3 (fun v => v.cell? ⟨w2.heap.size, 0, none⟩ = some (.int .i64 n) ∧ v.cell? ⟨w2.heap.size, 1, none⟩ = some (.int .i64 t) ∧ v.cell? ⟨w2.heap.size, 2, none⟩ = some (.slice a xs.length c2))
      (go_keep)
      ((go_at_call 50
        refine (pick_any rb _ 4 _ (Rd.below R (Below.refl _ _).drew) (by omega)).mono ?_
        rintro e w4 ⟨k4, rfl, k40, k41, R4, g4⟩
        obtain ⟨d0', d1', d2', e0', e1', e2'⟩ := three_cells ((g4.block w.heap.size (box_lt HH2.out) (fun e => by injection e; omega)).trans HH2.out)
        obtain ⟨c0', c1', c3', _, _, _⟩ := three_cells (box_only (w := w3.drew) HH5.out g4 hrl)))
    go_wp2
    have hwr : IntKind.i64.wrap (k4 - 1) = k4 - 1 := IntWalk.i64_in _ (by omega)
    refine bodyPost_ret (v := .tuple #[.agg #[.int .i64 n, .int .i64 t, .slice a xs.length c2], .int .i64 (k4 - 1)]) (by simp [results, Try.results27, go_sem, *]) rfl ?_
    have o4 := own_only (w := w3.drew) o g4 (fun q hq => by have := (own_in o _ hq).1; simp at this; omega)
    have G4 : w.grownBy w4 (some rb) := only_trans (only_trans G (only_below (Below.refl _ _).drew _)) g4
    exact ⟨n, t, a, xs, c2, k4 - 1, rfl, lx2, by omega, by omega, HO.out w4 o4 _ _ _, HB.out w4 G4 _ _ _⟩

set_option maxHeartbeats 1000000 in
theorem drawTalkSend_any (ao : Option Addr) (bs : List Int) (c : Nat) (w : World) (h : Bytes w ao bs) (hc : bs.length ≤ c) (lx : bs.length ≤ 1048576) :
    Calls Try.prog 40 #[.slice ao bs.length c] w fun e w' => ∃ (n t : Int) (a : Option Addr) (xs : List Int) (c : Nat) (b : Option Addr) (ys : List Int) (d : Nat), e = .returned (.tuple #[.agg #[.int .i64 n, .int .i64 t, .slice a xs.length c], .slice b ys.length d]) ∧ xs.length ≤ 2 ∧ ys.length ≤ 18 ∧ Ints w' a xs ∧ Ints w' b ys ∧ Below w.heap.size w w' := by
  have b0 : Below w.heap.size w (w.alloc (.cells #[.int .i64 0, .int .i64 0, .slice none 0 0] 25)) := (Below.refl _ _).alloc (Nat.le_refl _) _
  have B0 := Lib.hid b0
  have hx0 := h.below b0
  clear b0
  go_enter Try.func40, Try.ntmps40
  go_wp2_with fail
  refine (l6Open_any ao bs c _ hx0 hc (by omega)).mono ?_
  rintro e w1 ⟨rb, rfl, hrb, R, b1⟩
  have H2 := (b1.block _ (by simp)).trans (heap_new_at w (.cells #[.int .i64 0, .int .i64 0, .slice none 0 0] 25) _ rfl)
  simp only [World.size_alloc] at hrb
  have B1 := below_join B0.out b1
  have z1 := b1.size
  simp only [World.size_alloc] at z1
  have hrl0 := Rd.lt R
  go_wp2_with fail
  refine (l92Talk_any rb 0 w1 R (by omega)).mono ?_
  rintro e w2 ⟨n, t, a, xs, c2, rfl, lx2, n0, n1, o, R, g2⟩
  replace H2 := (g2.block w.heap.size (box_lt H2) (fun e => by injection e; omega)).trans H2
  have G := only_trans (only_below B1 (some rb)) g2
  have z2 := g2.size
  have hrl := Rd.lt R
  clear g2 b1
  go_wp2_with fail
  refine name_calls fun W hW => ?_
  have H5 := heap_new_at w2 (.cells #[.int .i64 n, .int .i64 t, .slice a xs.length c2] 25) _ rfl
  replace R := rd_alloc R (.cells #[.int .i64 n, .int .i64 t, .slice a xs.length c2] 25)
  replace G := only_alloc G (.cells #[.int .i64 n, .int .i64 t, .slice a xs.length c2] 25)
  replace H2 := box_alloc H2 (.cells #[.int .i64 n, .int .i64 t, .slice a xs.length c2] 25)
  replace o := World.ownsRow.alloc o (.cells #[.int .i64 n, .int .i64 t, .slice a xs.length c2] 25)
  rw [← hW] at H5 R G H2 o
  clear hW
  refine (pick_any rb _ 2 W R (by omega)).mono ?_
  rintro e w3 ⟨k3, rfl, k30, k31, R', g⟩
  replace R := R'
  replace G := only_trans G g
  replace H2 := (g.block w.heap.size (box_lt H2) (fun e => by injection e; omega)).trans H2
  replace H5 := box_only H5 g hrl
  replace o := own_only o g (fun q hq => by have := (own_in o _ hq).1; simp at this; omega)
  clear g R'
  by_cases hk : k3 = 0
  case' pos =>
    subst hk
    go_wp2_with fail
    refine (pick_any rb _ 2 w3 R (by omega)).mono ?_
    rintro e w4 ⟨k4, rfl, k40, k41, R', g⟩
    replace R := R'
    replace G := only_trans G g
    replace H2 := (g.block w.heap.size (box_lt H2) (fun e => by injection e; omega)).trans H2
    replace H5 := box_only H5 g hrl
    clear g R' o
    obtain ⟨c0, c1, c3, f0, f1, f3⟩ := three_cells H5
    go_wp2_with fail
    clear c0 c1 c3 f0 f1 f3
    refine name_wp fun W5 hW5 => ?_
    have HD : Hid (∃ (n t : Int) (a : Option Addr) (xs : List Int) (c2 : Nat), Rd W5 rb (0 + 20) ∧ w.grownBy W5 (some rb) ∧ W5.heap[w.heap.size]? = some (.cells #[.int .i64 0, .int .i64 0, .slice none 0 0] 25 (0, 0)) ∧ W5.heap[w2.heap.size]? = some (.cells #[.int .i64 n, .int .i64 t, .slice a xs.length c2] 25 (0, 0)) ∧ xs.length ≤ 2 ∧ OwnI W5 w1.heap.size a c2 xs) := by
      refine Lib.hid ⟨k4, 0, none, [], 0, ?_, ?_, ?_, ?_, by simp, own_nil _ _⟩
      · rw [hW5]; exact rd_set (rd_set (rd_set (R.mono (by omega)) _ _ hrl) _ _ hrl) _ _ hrl
      · rw [hW5]; exact only_set (only_set (only_set G _ _ (by simp; omega)) _ _ (by simp; omega)) _ _ (by simp; omega)
      · rw [hW5]; exact box_set (box_set (box_set H2 _ _ (by simp; omega)) _ _ (by simp; omega)) _ _ (by simp; omega)
      · rw [hW5]; exact three_set2 (three_set1 (three_set0 H5 _) _) _
    clear hW5 R G H2 H5 lx2
  case' neg =>
    have hkb : (k3 == 0) = false := by simpa using hk
    clear hk
    go_wp2_with fail
    clear hkb
    obtain ⟨W5, rfl⟩ : ∃ W5 : World, W5 = w3 := ⟨_, rfl⟩
    have HD : Hid (∃ (n t : Int) (a : Option Addr) (xs : List Int) (c2 : Nat), Rd W5 rb (0 + 20) ∧ w.grownBy W5 (some rb) ∧ W5.heap[w.heap.size]? = some (.cells #[.int .i64 0, .int .i64 0, .slice none 0 0] 25 (0, 0)) ∧ W5.heap[w2.heap.size]? = some (.cells #[.int .i64 n, .int .i64 t, .slice a xs.length c2] 25 (0, 0)) ∧ xs.length ≤ 2 ∧ OwnI W5 w1.heap.size a c2 xs) :=
      Lib.hid ⟨n, t, a, xs, c2, R.mono (by omega), G, H2, H5, lx2, o⟩
    clear R G H2 H5 o lx2
  all_goals
    obtain ⟨n', t', a', xs', c', R, G, H2, H5, lx2, o⟩ := HD.out
    clear HD
    have n5 : w2.heap.size ≠ w.heap.size := by omega
    have n6 := Ne.symm n5
    obtain ⟨d0, d1, d2, e0, e1, e2⟩ := three_cells H2
    obtain ⟨c0, c1, c3, _, _, _⟩ := three_cells H5
    have HH2 := Lib.hid H2
    have HH5 := Lib.hid H5
    have hlt5 := box_lt H5
    have hlt2 := box_lt H2
    clear H2 H5
    go_region_held3 (fun v => v.cell? ⟨w2.heap.size, 0, none⟩ = some (.int .i64 n') ∧ v.cell? ⟨w2.heap.size, 1, none⟩ = some (.int .i64 t') ∧ v.cell? ⟨w2.heap.size, 2, none⟩ = some (.slice a' xs'.length c'))
      (go_keep)
      ((go_at_call 52
        refine (l92Body_any rb _ _ (Rd.below R (Below.refl _ _).drew) (by omega)).mono ?_
        rintro e w6 ⟨b6, ys, d6, rfl, ly, o6, R6, g6⟩
        obtain ⟨d0', d1', d2', e0', e1', e2'⟩ := three_cells ((g6.block w.heap.size hlt2 (fun e => by injection e; omega)).trans HH2.out)
        obtain ⟨c0', c1', c3', _, _, _⟩ := three_cells (box_only (w := W5.drew) HH5.out g6 hrl)))
    go_wp2
    refine bodyPost_ret (v := .tuple #[.agg #[.int .i64 n', .int .i64 t', .slice a' xs'.length c'], .slice b6 ys.length d6]) (by simp [results, Try.results40, go_sem, *]) rfl ?_
    have o4 := own_only (w := W5.drew) o g6 (fun q hq => by have := (own_in o _ hq).1; simp at this; omega)
    have G4 : w.grownBy w6 (some rb) := only_trans (only_trans G (only_below (Below.refl _ _).drew _)) g6
    have B4 : Below w.heap.size w w6 := ⟨G4.os, G4.tape, G4.output, G4.size, fun i hi => G4.block i hi (fun e => by injection e; omega)⟩
    have o6' : w6.ownsRow W5.heap.size _ _ _ _ _ := o6
    refine ⟨n', t', a', xs', c', b6, ys, d6, rfl, lx2, ly, ?_, ?_, ?_⟩
    · exact own_cells (own_set (own_set (own_set o4 _ _ (by simp; omega)) _ _ (by simp; omega)) _ _ (by simp; omega))
    · exact own_cells (own_set (own_set (own_set o6' _ _ hlt2) _ _ hlt2) _ _ hlt2)
    · repeat' (first | exact Below.refl _ _ | exact Nat.le_refl _ | assumption | refine Below.drew ?_ | refine below_drewN ?_ _ | (refine Below.alloc ?_ (by first | exact Nat.le_refl _ | omega | (simp; done) | (simp; omega)) _) | (refine Below.setCell ?_ (by first | exact Nat.le_refl _ | omega | (simp; done) | (simp; omega)) _))

set_option maxHeartbeats 2000000 in
theorem drawTalkHear_any (ao : Option Addr) (bs : List Int) (c : Nat) (w : World) (h : Bytes w ao bs) (hc : bs.length ≤ c) (lx : bs.length ≤ 1048576) :
    Calls Try.prog 33 #[.slice ao bs.length c] w fun e w' => ∃ (x : Int) (a : Option Addr) (xs : List Int) (c : Nat), e = .returned (.tuple #[.int .i64 x, .slice a xs.length c]) ∧ xs.length ≤ 20 ∧ xs.length ≤ c ∧ Ints w' a xs ∧ Below w.heap.size w w' := by
  go_enter Try.func33, Try.ntmps33
  go_wp2_with fail
  refine (l6Open_any ao bs c _ h hc (by omega)).mono ?_
  rintro e w1 ⟨rb, rfl, hrb, R, b1⟩
  have G := only_below b1 (some rb)
  have z1 := b1.size
  have hrl0 := Rd.lt R
  clear b1
  go_wp2_with fail
  refine (pick_any rb _ 2 w1 R (by omega)).mono ?_
  rintro e w2 ⟨k1, rfl, k10, k11, R2, g⟩
  replace G := only_trans G g
  clear g
  go_wp2_with fail
  refine (pick_any rb _ 2 w2 R2 (by omega)).mono ?_
  rintro e w3 ⟨k2, rfl, k20, k21, R3, g⟩
  replace G := only_trans G g
  clear g
  go_wp2_with fail
  refine (l92Body_any rb _ w3 R3 (by omega)).mono ?_
  rintro e w4 ⟨a4, ys, c4, rfl, ly, o4, R4, g⟩
  replace G := only_trans G g
  clear g
  have hlr := sendR_len k2 0 [] ys
  have hz4 := G.size
  go_wp2_with fail
  refine (specTalkSend_any k2 0 none a4 [] ys 0 c4 w4 (Cells.nil _ _) (by simp) o4.ints (by omega)).mono ?_
  rintro e w5 ⟨⟨a5, c5, a6, c6, rfl, o5, o6, ap⟩, b5⟩
  have R5 := R4.below b5
  replace G := only_grown (row := none) G (only_below b5 none) (fun g hg => by cases hg)
  have hrl4 := Rd.lt R4
  have hp0 : (sendR k2 0 [] ys).ok = true → 0 < (sendR k2 0 [] ys).p.length := by
    unfold sendR
    split
    · intro _
      show 0 < (packetL k2 ys).length
      rw [packetL_length]; omega
    · intro h; cases h
  generalize sendR k2 0 [] ys = Q at *
  have hl20 := hlr.2
  have hl17 := hlr.1
  clear o4 R4 ap R R2 R3 hlr
  have ob : ∀ v, OwnI v w4.heap.size a6 c6 Q.p → Q.p.length ≤ c6 := fun v hv => own_cap hv
  cases hok : Q.ok
  · go_wp2_with fail
    refine name_calls fun WA hWA => ?_
    have rA := ints_new (w5.alloc (.cells #[.int .i64 Q.k.n, .int .i64 Q.k.t, .slice a5 Q.k.b.length c5] 25)) [-1, 0, 2] #[.int .i64 (-1), .int .i64 0, .int .i64 2] 3 rfl
    have RA := rd_alloc (rd_alloc R5 (.cells #[.int .i64 Q.k.n, .int .i64 Q.k.t, .slice a5 Q.k.b.length c5] 25)) (.cells #[.int .i64 (-1), .int .i64 0, .int .i64 2] 3)
    replace G := only_alloc (only_alloc G (.cells #[.int .i64 Q.k.n, .int .i64 Q.k.t, .slice a5 Q.k.b.length c5] 25)) (.cells #[.int .i64 (-1), .int .i64 0, .int .i64 2] 3)
    rw [← hWA] at rA RA G
    clear hWA hp0 o5 o6 ob
    refine (pick_any rb _ 3 WA RA (by omega)).mono ?_
    rintro e w7 ⟨kA, rfl, kA0, kA1, R7, g⟩
    replace G := only_trans G g
    have z5 := b5.size
    replace rA := cells_only rA g (by simp; omega)
    rw [World.size_alloc] at rA
    clear g
    obtain ⟨j, rfl⟩ := Int.eq_ofNat_of_zero_le kA0
    have hj : j < 3 := by omega
    have hjI : (j : Int) < 3 := by omega
    obtain ⟨b, off, v, hb, hv, hcv⟩ := Ints.at_ rA (k := j) hj
    injection hb with hb
    injection hb with hb1 hb2 hb3
    subst hb1 hb2
    rw [Nat.zero_add] at hcv
    clear hv rA kA1 hb3
    go_wp2
    go_ret2
    refine ⟨v, _, [0, 5], _, rfl, by simp, by simp, ints_new _ _ _ _ rfl, ?_⟩
    have B7 : Below w.heap.size w w7 := ⟨G.os, G.tape, G.output, G.size, fun i hi => G.block i hi (fun e => by injection e; omega)⟩
    exact B7.alloc B7.size _
  · have hp := hp0 hok
    clear hp0
    go_wp2_with fail
    refine name_calls fun WA hWA => ?_
    have RA := rd_alloc R5 (.cells #[.int .i64 Q.k.n, .int .i64 Q.k.t, .slice a5 Q.k.b.length c5] 25)
    replace G := only_alloc G (.cells #[.int .i64 Q.k.n, .int .i64 Q.k.t, .slice a5 Q.k.b.length c5] 25)
    replace o6 := World.ownsRow.alloc o6 (.cells #[.int .i64 Q.k.n, .int .i64 Q.k.t, .slice a5 Q.k.b.length c5] 25)
    rw [← hWA] at RA G o6
    clear hWA o5
    refine (pick_any rb _ 6 WA RA (by omega)).mono ?_
    rintro e w7 ⟨k7, rfl, k70, k71, R7, g⟩
    replace G := only_trans G g
    replace o6 := own_only o6 g (fun q hq => by have := (own_in o6 _ hq).1; simp at this; omega)
    clear g RA R5
    by_cases hk : k7 = 0
    · subst hk
      go_wp2_with fail
      refine (pick_any rb _ Q.p.length w7 R7 (by omega)).mono ?_
      rintro e w8 ⟨k8, rfl, k80, k81, R8, g⟩
      replace G := only_trans G g
      replace o6 := own_only o6 g (fun q hq => by have := (own_in o6 _ hq).1; simp at this; omega)
      clear g
      go_wp2_with fail
      refine (pick_any rb _ 256 w8 R8 (by omega)).mono ?_
      rintro e w9 ⟨k9, rfl, k90, k91, R9, g⟩
      replace G := only_trans G g
      replace o6 := own_only o6 g (fun q hq => by have := (own_in o6 _ hq).1; simp at this; omega)
      clear g
      obtain ⟨j, rfl⟩ := Int.eq_ofNat_of_zero_le k80
      have hj : j < Q.p.length := by omega
      have hjI : (j : Int) < (Q.p.length : Int) := by omega
      obtain ⟨gg, u, rfl, hgb, hgs, hcu, hfu, o9⟩ := OwnI.put o6 hj k9
      have O9 := Lib.hid o9
      have hcap := own_cap o6
      clear k81 o6 o9
      go_wp2
      go_ret2
      have B9 : Below w.heap.size w w9 := ⟨G.os, G.tape, G.output, G.size, fun i hi => G.block i hi (fun e => by injection e; omega)⟩
      refine ⟨k1, _, Q.p.set j k9, c6, by rw [List.length_set]; rfl, by rw [List.length_set]; exact hl20, by rw [List.length_set]; exact hcap, O9.out.ints, ?_⟩
      exact B9.setCell (by simp; omega) _
    · have hkb : (k7 == 0) = false := by simpa using hk
      clear hk
      have hcap := own_cap o6
      go_wp2
      go_ret2
      have B9 : Below w.heap.size w w7 := ⟨G.os, G.tape, G.output, G.size, fun i hi => G.block i hi (fun e => by injection e; omega)⟩
      exact ⟨k1, a6, Q.p, c6, rfl, hl20, hcap, own_cells o6, B9⟩
end Go.Proofs.Ytjamcfnclnpdkaa
