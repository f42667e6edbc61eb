/- Records: the tree of records that come in order of time: each node has no earlier tree; a chain of nodes. -/
import Derived.Test.YtnapcacgdidgdaaBetween
import Derived.Test.YtnapcacgdidgdaaBox2
import Derived.Deep.CutRange
import Derived.Deep.RegionHeld3
namespace Go.Proofs.Ytnapcacgdidgdaa
open Go.RowKit

/-- A chain of nodes from p on; its blocks and its rows lie from lo on and below hi; those of a later node behind those of an earlier one. -/
def Spine (w : World) : Nat → Nat → Option Addr → List (Int × List Rec) → Prop
  | lo, hi, p, [] => p = none ∧ lo ≤ hi
  | lo, hi, p, (t, rs) :: G => ∃ b a c q mid, p = some ⟨b, 0, none⟩ ∧ lo ≤ b ∧ b < mid ∧ (∀ x, a = some x → x.block < mid) ∧
      w.heap[b]? = some (.cells #[.int .i64 t, .slice a rs.length c, .pointer none, .pointer q] 63 (0, 0)) ∧ OwnR w lo a c rs ∧ Spine w mid hi q G
theorem Spine.le {w : World} {lo hi : Nat} {p : Option Addr} {G : List (Int × List Rec)} (h : Spine w lo hi p G) : lo ≤ hi := by
  induction G generalizing lo p with
  | nil => exact h.2
  | cons g G ih =>
    obtain ⟨t, rs⟩ := g
    obtain ⟨b, a, c, q, mid, _, h1, h2, _, _, _, h3⟩ := h
    have := ih h3
    omega
theorem own_keepB {w w' : World} {B base e size n c : Nat} {ao : Option Addr} {vs : List Value} (h : w.ownsRow base e size (.slice ao n c) n vs) (hb : Below B w w') (ha : ∀ x, ao = some x → x.block < B) : w'.ownsRow base e size (.slice ao n c) n vs := by
  refine ⟨h.1, ?_⟩
  rcases h.2 with hn | ⟨g, cap, cur, hv, h1, hh, rest⟩
  · exact .inl hn
  · have hao : ao = some ⟨g, 0, none⟩ := by injection hv
    exact .inr ⟨g, cap, cur, hv, h1, (hb.block g (ha _ hao)).trans hh, rest⟩
theorem Spine.below {w w' : World} {lo hi : Nat} {p : Option Addr} {G : List (Int × List Rec)} (h : Spine w lo hi p G) (hb : Below hi w w') : Spine w' lo hi p G := by
  induction G generalizing lo p with
  | nil => exact h
  | cons g G ih =>
    obtain ⟨t, rs⟩ := g
    obtain ⟨b, a, c, q, mid, h0, h1, h2, h3, h4, h5, h6⟩ := h
    have hm := h6.le
    exact ⟨b, a, c, q, mid, h0, h1, h2, h3, (hb.block b (by omega)).trans h4, own_keepB h5 hb (fun x hx => by have := h3 x hx; omega), ih h6⟩
theorem Spine.up {w : World} {lo hi hi' : Nat} {p : Option Addr} {G : List (Int × List Rec)} (h : Spine w lo hi p G) (hh : hi ≤ hi') : Spine w lo hi' p G := by
  induction G generalizing lo p with
  | nil => exact ⟨h.1, Nat.le_trans h.2 hh⟩
  | cons g G ih =>
    obtain ⟨t, rs⟩ := g
    obtain ⟨b, a, c, q, mid, h0, h1, h2, h3, h4, h5, h6⟩ := h
    exact ⟨b, a, c, q, mid, h0, h1, h2, h3, h4, h5, ih h6⟩
/-- A block below the chain is written. -/
theorem Spine.setBelow {w : World} {lo hi : Nat} {p : Option Addr} {G : List (Int × List Rec)} (h : Spine w lo hi p G) (x : Addr) (u : Value) (hx : x.block < lo) : Spine (w.setCell x u) lo hi p G := by
  induction G generalizing lo p with
  | nil => exact h
  | cons g G ih =>
    obtain ⟨t, rs⟩ := g
    obtain ⟨b, a, c, q, mid, h0, h1, h2, h3, h4, h5, h6⟩ := h
    exact ⟨b, a, c, q, mid, h0, h1, h2, h3, (Below.heap_setCell w x u b (by omega)).trans h4, own_set h5 x u (by omega), ih h6 (by omega)⟩
theorem Spine.drew {w : World} {lo hi : Nat} {p : Option Addr} {G : List (Int × List Rec)} (h : Spine w lo hi p G) : Spine w.drew lo hi p G := h.below ((Below.refl _ w).mono (Nat.le_refl _)).drew
theorem four_set3 {w : World} {b : Nat} {u v x y : Value} {t : TypeId} (h : w.heap[b]? = some (.cells #[u, v, x, y] t (0, 0))) (z : Value) : (w.setCell ⟨b, 3, none⟩ z).heap[b]? = some (.cells #[u, v, x, z] t (0, 0)) := by
  simp [World.setCell, Array.getElem?_modify, h]
theorem four_set1 {w : World} {b : Nat} {u v x y : Value} {t : TypeId} (h : w.heap[b]? = some (.cells #[u, v, x, y] t (0, 0))) (z : Value) : (w.setCell ⟨b, 1, none⟩ z).heap[b]? = some (.cells #[u, z, x, y] t (0, 0)) := by
  simp [World.setCell, Array.getElem?_modify, h]
theorem flatG_cons (t : Int) (rs : List Rec) (G : List (Int × List Rec)) : flatG ((t, rs) :: G) = rs ++ flatG G := by simp [flatG]
set_option maxHeartbeats 1000000 in
set_option maxRecDepth 100000 in
theorem put_any (t x y : Int) (G : List (Int × List Rec)) : ∀ (m : Int) (lo : Nat) (p : Option Addr) (w : World), Spine w lo w.heap.size p G → GroupsOk m G → maxG m G ≤ t → (flatG G).length ≤ 1000 →
    Calls Try.prog 39 #[.pointer p, .agg #[.int .i64 t, .int .i64 x, .int .i64 y]] w fun e w' => ∃ p', e = .returned (.pointer p') ∧ Spine w' lo w'.heap.size p' (putG G ⟨t, x, y⟩) ∧ Below lo w w' := by
  induction G with
  | nil =>
    intro m lo p w hs _ _ _
    obtain ⟨rfl, hlo⟩ := hs
    go_enter Try.func39, Try.ntmps39
    go_wp2
    go_ret
    refine ⟨_, rfl, ?_, (((Below.refl _ _).alloc hlo _).alloc (by simp; omega) _).alloc (by simp; omega) _⟩
    refine ⟨w.heap.size + 2, some ⟨w.heap.size + 1, 0, none⟩, 1, none, w.heap.size + 3, rfl, by omega, by omega, fun x hx => by injection hx with hx; subst hx; simp, heap_new_at _ _ _ (by simp), ?_, rfl, by simp⟩
    exact World.ownsRow.alloc (own_lit_at (w.alloc _) #[.int .i64 t, .int .i64 x, .int .i64 y] _ 3 1 _ _ (by simp) (by simp; omega) (by simp [maxLen]) rfl) _
  | cons g0 G ih =>
    intro m lo p w hs hg hm hl
    obtain ⟨t0, rs⟩ := g0
    obtain ⟨b, a, c, q, mid, rfl, h1, h2, h3, h4, h5, h6⟩ := hs
    have hmid := h6.le
    have hbl := box_lt h4
    have IH := Lib.hid ih
    clear ih
    rw [flatG_cons, List.length_append] at hl
    have hrl : rs.length ≤ 1000 := by omega
    have hb0 : Below w.heap.size w (w.alloc (.cells #[.int .i64 t, .int .i64 x, .int .i64 y] 27)) := (Below.refl _ _).alloc (Nat.le_refl _) _
    have H41 := box_alloc h4 (.cells #[.int .i64 t, .int .i64 x, .int .i64 y] 27)
    have HB := Lib.hid (heap_new_at w (.cells #[.int .i64 t, .int .i64 x, .int .i64 y] 27) _ rfl)
    have h51 := OwnR.below h5 hb0
    have h61 := (h6.below hb0).up (show w.heap.size ≤ (w.alloc (.cells #[.int .i64 t, .int .i64 x, .int .i64 y] 27)).heap.size by simp)
    by_cases ht : t0 < t
    · have hpG : putG ((t0, rs) :: G) ⟨t, x, y⟩ = (t0, rs) :: putG G ⟨t, x, y⟩ := by simp [putG, ht]
      rw [hpG]
      have ht' : ¬ t < t0 := by omega
      obtain ⟨c0, c1, c2, c3⟩ := cells4 H41
      obtain ⟨d0, d1, d2, _, _, _⟩ := three_cells HB.out
      go_enter Try.func39, Try.ntmps39
      go_wp2_with fail
      go_quiet (fail)
      go_wp2_with fail
      go_quiet (fail)
      go_wp2_with fail
      refine name_wp fun W hW => ?_
      have bW : Below w.heap.size w W := by rw [hW]; exact below_drewN (below_drewN hb0 _) _
      have H4W : W.heap[b]? = some (.cells #[.int .i64 t0, .slice a rs.length c, .pointer none, .pointer q] 63 (0, 0)) := by rw [hW]; exact H41
      have HBW : W.heap[w.heap.size]? = some (.cells #[.int .i64 t, .int .i64 x, .int .i64 y] 27 (0, 0)) := by rw [hW]; exact HB.out
      have h6W := (h6.below bW).up bW.size
      have h5W := OwnR.below h5 bW
      have HWb := Lib.hid H4W
      have hbz : b ≠ w.heap.size := Nat.ne_of_lt hbl
      clear hW c0 c1 c2 c3 d0 d1 d2 HB H41 h51 h61 hb0 h4 h5 h6
      obtain ⟨c0, c1, c2, c3⟩ := cells4 H4W
      obtain ⟨d0, d1, d2, _, _, _⟩ := three_cells HBW
      clear H4W HBW
      go_region_law (first
        | (go_simp
           go_at_call 39
           refine (IH.out t0 mid q _ h6W.drew hg.2.2 hm (by omega)).mono ?_
           rintro e w2 ⟨q', rfl, hs2, b2⟩
           have HN := (b2.block b h2).trans HWb.out
           obtain ⟨e0, e1, e2, e3, f0, f1, f2, f3⟩ := four_cells HN
           skip))
      all_goals
        go_wp2
        go_ret
        have o2 := own_keepB (World.ownsRow.drew h5W) b2 h3
        refine ⟨_, rfl, ⟨b, a, c, q', mid, rfl, h1, h2, h3, four_set3 HN _, own_set_ne o2 _ _ (own_box_ne o2 HN (by decide)), ?_⟩, ?_⟩
        · exact (hs2.setBelow ⟨b, 3, none⟩ (.pointer q') h2).up (by simp)
        · exact ((bW.mono (show lo ≤ w.heap.size by omega)).drew.trans (b2.mono (show lo ≤ mid by omega))).setCell h1 _
    · have het : t0 = t := by have := maxG_le hg.2.2; simp only [maxG] at hm; omega
      have hG : G = [] := by
        cases G with
        | nil => rfl
        | cons g G => obtain ⟨t1, rs1⟩ := g; have := maxG_le hg.2.2.2.2; have := hg.2.2.1; simp only [maxG] at hm; omega
      subst hG
      subst het
      have hpG : putG [(t0, rs)] ⟨t0, x, y⟩ = [(t0, rs ++ [⟨t0, x, y⟩])] := by simp [putG]
      rw [hpG]
      obtain ⟨c0, c1, c2, c3⟩ := cells4 H41
      obtain ⟨d0, d1, d2, _, _, _⟩ := three_cells HB.out
      clear ht
      go_enter Try.func39, Try.ntmps39
      go_wp2_with fail
      go_quiet (fail)
      go_wp2_with fail
      go_quiet (fail)
      go_wp2_with fail
      refine name_wp fun W hW => ?_
      have bW : Below w.heap.size w W := by rw [hW]; exact below_drewN (below_drewN hb0 _) _
      have H4W : W.heap[b]? = some (.cells #[.int .i64 t0, .slice a rs.length c, .pointer none, .pointer q] 63 (0, 0)) := by rw [hW]; exact H41
      have HBW : W.heap[w.heap.size]? = some (.cells #[.int .i64 t0, .int .i64 x, .int .i64 y] 27 (0, 0)) := by rw [hW]; exact HB.out
      have h5W := OwnR.below h5 bW
      have HWb := Lib.hid H4W
      have hbz : b ≠ w.heap.size := Nat.ne_of_lt hbl
      have zW := bW.size
      have hbW := box_lt H4W
      obtain ⟨rfl, _⟩ := h6
      clear hW c0 c1 c2 c3 d0 d1 d2 HB H41 h51 h61 hb0 h4 h5
      obtain ⟨c0, c1, c2, c3⟩ := cells4 H4W
      obtain ⟨d0, d1, d2, _, _, _⟩ := three_cells HBW
      clear H4W
      go_region_law (first
        | (refine step_append_row (by rfl) _ _ _ (by rfl) lo 27 _ 3 24 Try.underlying23 rec_info rfl (by decide) a rs.length c (rs.flatMap recCells) (by rfl) ?ho (some ⟨_, 0, none⟩) 1 1 [.int .i64 t0, .int .i64 x, .int .i64 y] (by rfl) ?hn rfl (by simp [Value.oneCell']) (by simp) (by simp only [maxLen]; omega) (by omega) ?hb ?_
           case ho => exact World.ownsRow.alloc (World.ownsRow.drew h5W) _
           case hn => exact cells_new _ #[.int .i64 t0, .int .i64 x, .int .i64 y] _ rfl
           case hb => (simp; omega)
           intro a7 c7 w7 ho7 hg7
           have o7 : OwnR w7 lo a7 c7 (rs ++ [⟨t0, x, y⟩]) := OwnR.snoc1 ho7
           have H7 := box_grow (show ((W.drew).alloc (.cells #[.int .i64 t0, .int .i64 x, .int .i64 y] 27)).heap[b]? = _ from box_alloc HWb.out _) hg7 (own_block_of (own_box_ne h5W HWb.out (by decide)))
           have B7 : Below lo w w7 := (((bW.mono (show lo ≤ w.heap.size by omega)).drew).alloc (show lo ≤ W.heap.size by omega) _).grown hg7 (by simp; omega) (fun k hk => (h5W.lt k hk).1)
           obtain ⟨e0, e1, e2, e3, f0, f1, f2, f3⟩ := four_cells H7
           skip))
      all_goals
        go_wp2
        go_ret
        have hb7 := box_lt H7
        refine ⟨_, rfl, ⟨b, a7, c7, none, w7.heap.size, rfl, h1, hb7, fun z hz => (own_in o7 z hz).2, ?_, own_set_ne o7 _ _ (own_box_ne o7 H7 (by decide)), rfl, by simp⟩, B7.setCell h1 _⟩
        rw [List.length_append]
        exact four_set1 H7 _
end Go.Proofs.Ytnapcacgdidgdaa
