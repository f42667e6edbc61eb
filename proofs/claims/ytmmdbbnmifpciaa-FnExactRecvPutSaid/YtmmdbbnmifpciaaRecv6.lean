/- Receivers: a byte is put: the reference's function, with room. -/
import Derived.Test.YtmmdbbnmifpciaaRecv5
import Derived.Deep.Cut
namespace Go.Proofs.Ytmmdbbnmifpciaa
open Go.RowKit

set_option maxHeartbeats 16000000 in
theorem specRecvPut_room (r t : Int) (ao : Option Addr) (gs : List Gt) (c : Nat) (l : Bool) (a gb gc : Int) (w : World) (hx : Gts w ao gs) (lx : gs.length ≤ 1048576) (hA : ao = none → gs.length = 0 ∧ c = 0) (hv : recvB r t gs a = true) (hg : gtB ⟨gb, gc⟩ = true) (hl : ¬ (gs.length : Int) = r) :
    Calls Try.prog 16 #[.agg #[.int .i64 r, .int .i64 t, .slice ao gs.length c, .bool l, .int .i64 a], .agg #[.int .i64 gb, .int .i64 gc]] w (RPutP w (rputR r t gs l a ⟨gb, gc⟩)) := by
  have hff := recvB_facts hv
  have hr16 := hff.1.2
  have hlr := hff.2.2.1
  have HB : Hid (rputB r t gs a ⟨gb, gc⟩ = true) := Lib.hid (by simp [rputB, hv, hg])
  have hl16 : gs.length ≤ 16 := by omega
  clear hff
  have HR := Lib.hid (rputR_yes (l := l) HB.out (by omega))
  have hlb : ((gs.length : Int) == r) = false := by simpa using hl
  clear hl
  go_enter Try.func16, Try.ntmps16
  go_wp2_with fail
  refine name_calls fun W hW => ?_
  have bW : Below w.heap.size w W := by
    rw [hW]
    repeat (first | exact Below.refl _ _ | refine Below.alloc ?_ (by first | exact Nat.le_refl _ | (simp; done) | (simp; omega)) _)
  have h1 : W.heap[w.heap.size]? = some (.cells #[.int .i64 r, .int .i64 t, .slice ao gs.length c, .bool l, .int .i64 a] 25 (0, 0)) := by rw [hW]; exact box_alloc (box_alloc (heap_new_at w _ _ rfl) _) _
  have h2 : W.heap[w.heap.size + 1]? = some (.cells #[.int .i64 gb, .int .i64 gc] 33 (0, 0)) := by rw [hW]; exact box_alloc (heap_new_at _ _ _ (by simp)) _
  have h3 : W.heap[w.heap.size + 2]? = some (.cells #[.int .i64 0, .int .i64 0, .slice none 0 0, .bool false, .int .i64 0] 25 (0, 0)) := by rw [hW]; exact heap_new_at _ _ _ (by simp)
  have zW : W.heap.size = w.heap.size + 3 := by rw [hW]; simp
  clear hW
  refine (specRecvValid_any r t ao gs c l a W (hx.below bW) (by omega)).mono ?_
  rintro e w1 ⟨rfl, b1⟩
  have z1 := b1.size
  have B1 := bW.trans (b1.mono bW.size)
  have H1 := Lib.hid ((b1.block _ (by omega)).trans h1)
  have H2 := Lib.hid ((b1.block _ (by omega)).trans h2)
  have H3 := Lib.hid ((b1.block _ (by omega)).trans h3)
  clear h1 h2 h3 b1 bW
  obtain ⟨c0, c1⟩ := cells2 H2.out
  go_wp2_with fail
  refine (l11Got_any gb gc w1).mono ?_
  rintro e w2 ⟨rfl, b2⟩
  have z2 := b2.size
  have B2 := B1.trans (b2.mono B1.size)
  have K1 := Lib.hid ((b2.block _ (by omega)).trans H1.out)
  have K2 := Lib.hid ((b2.block _ (by omega)).trans H2.out)
  have K3 := Lib.hid ((b2.block _ (by omega)).trans H3.out)
  clear c0 c1 H1 H2 H3 b2 B1
  obtain ⟨c0, c1, c2, c3, c4⟩ := cells5 K1.out
  obtain ⟨g0, g1⟩ := cells2 K2.out
  have hx2 := hx.below B2
  have HA := Lib.hid hA
  clear hA hv
  have hB1 : w.heap.size + 2 ≤ w2.heap.size := by omega
  have HS := Lib.hid (fun (v : World) (hv : Below (w.heap.size + 2) w2 v) => (⟨(hv.cell (p := ⟨w.heap.size, 0, none⟩) (by simp)).trans c0, (hv.cell (p := ⟨w.heap.size, 1, none⟩) (by simp)).trans c1, (hv.cell (p := ⟨w.heap.size, 2, none⟩) (by simp)).trans c2, (hv.cell (p := ⟨w.heap.size, 3, none⟩) (by simp)).trans c3, (hv.cell (p := ⟨w.heap.size, 4, none⟩) (by simp)).trans c4, (hv.cell (p := ⟨w.heap.size + 1, 0, none⟩) (by simp)).trans g0, (hv.cell (p := ⟨w.heap.size + 1, 1, none⟩) (by simp)).trans g1, hv⟩ : v.cell? ⟨w.heap.size, 0, none⟩ = some (.int .i64 r) ∧ v.cell? ⟨w.heap.size, 1, none⟩ = some (.int .i64 t) ∧ v.cell? ⟨w.heap.size, 2, none⟩ = some (.slice ao gs.length c) ∧ v.cell? ⟨w.heap.size, 3, none⟩ = some (.bool l) ∧ v.cell? ⟨w.heap.size, 4, none⟩ = some (.int .i64 a) ∧ v.cell? ⟨w.heap.size + 1, 0, none⟩ = some (.int .i64 gb) ∧ v.cell? ⟨w.heap.size + 1, 1, none⟩ = some (.int .i64 gc) ∧ Below (w.heap.size + 2) w2 v))
  go_wp2_with fail
  clear c0 c1 c2 c3 c4 g0 g1
  go_region_held3 (fun v => v.cell? ⟨w.heap.size, 0, none⟩ = some (.int .i64 r) ∧ v.cell? ⟨w.heap.size, 1, none⟩ = some (.int .i64 t) ∧ v.cell? ⟨w.heap.size, 2, none⟩ = some (.slice ao gs.length c) ∧ v.cell? ⟨w.heap.size, 3, none⟩ = some (.bool l) ∧ v.cell? ⟨w.heap.size, 4, none⟩ = some (.int .i64 a) ∧ v.cell? ⟨w.heap.size + 1, 0, none⟩ = some (.int .i64 gb) ∧ v.cell? ⟨w.heap.size + 1, 1, none⟩ = some (.int .i64 gc) ∧ Below (w.heap.size + 2) w2 v)
    ((refine HS.out _ ?_; go_split_ands; repeat (first | with_reducible assumption | with_reducible exact Below.refl _ _ | with_reducible refine Below.drew ?_ | with_reducible refine below_allocB ?_ hB1 _ | (with_reducible refine Below.setCell ?_ ?hs _; case hs => (first | (simp; done) | (simp; omega))))))
    (first
      | (refine step_append_row (by rfl) _ _ _ (by rfl) w2.heap.size 33 _ 2 16 Try.underlying23 gt_info rfl (by decide) (some ⟨_, 0, none⟩) 0 0 [] (by rfl) ?ho ao gs.length c (gs.flatMap gtCells) (by rfl) ?hn (flatN_length gtCells 2 gtCells_length _) (gts_one _) HA.out (by simp only [maxLen]; omega) (by omega) ?hb ?_
         case ho => first | exact own_made_at _ #[] _ _ 0 _ _ rfl (by first | exact Nat.le_refl _ | (simp; done) | (simp; omega)) (by simp) rfl | exact World.ownsRow.alloc (own_made_at _ #[] _ _ 0 _ _ rfl (Nat.le_refl _) (by simp) rfl) _ | exact own_made_at _ #[] _ _ 0 _ _ (by simp) (by simp) (by simp) rfl
         case hn => (go_split_ands; exact (hx.below (B2.trans (Below.mono (by with_reducible assumption) (Nat.le_add_right _ _)))))
         case hb => (go_split_ands; exact Below.size (by with_reducible assumption))
         intro aA dA wA hoA hgA
         rw [Nat.zero_add, List.nil_append] at hoA
         rw [Nat.zero_add]
         have bA : Below (w.heap.size + 2) w2 wA := (by go_split_ands; exact below_growB (by with_reducible assumption) hgA hB1 (fun k hk => by simp [Value.ownBlock] at hk; omega))
         have hA4 := box_grow (b := w.heap.size + 2) (by first | exact box_alloc K3.out _ | exact box_alloc (box_alloc K3.out _) _) hgA (fun k hk => by simp [Value.ownBlock] at hk; omega))
      | (refine step_append_row (by rfl) _ _ _ (by rfl) w2.heap.size 33 _ 2 16 Try.underlying23 gt_info rfl (by decide) aA gs.length dA (gs.flatMap gtCells) (by rfl) ?ho (some ⟨_, 0, none⟩) 1 1 [.int .i64 gb, .int .i64 gc] (by rfl) ?hn (by rfl) ?h1 (by simp) (by simp only [maxLen]; omega) (by omega) ?hb ?_
         case ho => first | exact hoA | exact hoA.alloc _
         case hn => first | exact cells_new _ #[.int .i64 gb, .int .i64 gc] _ rfl | exact cells_grow (Cells.drew (cells_new _ #[.int .i64 gb, .int .i64 gc] _ (by simp))) hgA (by simp [Value.ownBlock]) | exact cells_grow (Cells.drew (Cells.keep (cells_new _ #[.int .i64 gb, .int .i64 gc] _ rfl) (Keeps.alloc _ _))) hgA (by simp [Value.ownBlock])
         case h1 => (simp [Value.oneCell'])
         case hb => (go_split_ands; exact Below.size (by with_reducible assumption))
         intro aC dC wC hoC hgC
         have bC : Below (w.heap.size + 2) w2 wC := (by go_split_ands; exact below_growB (by with_reducible assumption) hgC hB1 (fun k hk => by have := (hoA.lt k hk).1; omega))
         have hC4 := box_grow (b := w.heap.size + 2) (by first | exact hA4 | exact box_alloc hA4 _) hgC (fun k hk => by have := (hoA.lt k hk).1; omega)
         have zC := bC.size)
      | (go_at_call 38
         refine (l11With_any r t ao aC gs.length (gs.length + 1) c dC l a _).mono ?_
         rintro e wD ⟨rfl, bD⟩
         have bE : Below (w.heap.size + 2) w2 wD := bC.trans (bD.mono (by have := bC.size; omega))
         have hoD := own_below hoC bD
         obtain ⟨e0, e1, e2, e3, e4, k0, k1, k2, k3, k4⟩ := five_cells ((bD.block _ (by have := bC.size; omega)).trans hC4)))
  all_goals
    go_wp2
    have BE : Below w.heap.size w wD := B2.trans (bE.mono (by omega))
    refine bodyPost_ret (v := .tuple #[.agg #[.int .i64 r, .int .i64 t, .slice aC (gs ++ [(⟨gb, gc⟩ : Gt)]).length dC, .bool l, .int .i64 0], .bool true]) (by simp [results, Try.results16, go_sem, *]) rfl ?_
    rw [HR.out]
    refine ⟨aC, dC, rfl, ?_, ?_⟩
    · refine own_base (base := w2.heap.size) ?_ (by omega)
      iterate 5 refine own_set ?_ _ _ (by simp; omega)
      exact OwnG.snoc (g := ⟨gb, gc⟩) hoD
    · exact ((((BE.setCell (by simp; try omega) _).setCell (by simp; try omega) _).setCell (by simp; try omega) _).setCell (by simp; try omega) _).setCell (by simp; try omega) _
end Go.Proofs.Ytmmdbbnmifpciaa
