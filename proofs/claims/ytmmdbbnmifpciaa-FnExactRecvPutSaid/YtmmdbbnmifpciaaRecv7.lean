/- Receivers: a byte is put: the reference's function, without room. -/
import Derived.Test.YtmmdbbnmifpciaaRecv5
import Derived.Deep.Cut
namespace Go.Proofs.Ytmmdbbnmifpciaa
open Go.RowKit

set_option maxHeartbeats 16000000 in
theorem specRecvPut_full (r t : Int) (ao : Option Addr) (gs : List Gt) (c : Nat) (l : Bool) (a gb gc : Int) (w : World) (hx : Gts w ao gs) (lx : gs.length ≤ 1048576) (hA : ao = none → gs.length = 0 ∧ c = 0) (hv : recvB r t gs a = true) (hg : gtB ⟨gb, gc⟩ = true) (hl : (gs.length : Int) = r) :
    Calls Try.prog 16 #[.agg #[.int .i64 r, .int .i64 t, .slice ao gs.length c, .bool l, .int .i64 a], .agg #[.int .i64 gb, .int .i64 gc]] w (RPutP w (rputR r t gs l a ⟨gb, gc⟩)) := by
  have hff := recvB_facts hv
  have hr16 := hff.1.2
  have hlr := hff.2.2.1
  have HB : Hid (rputB r t gs a ⟨gb, gc⟩ = true) := Lib.hid (by simp [rputB, hv, hg])
  have hl16 : gs.length ≤ 16 := by omega
  clear hff
  have HR := Lib.hid (rputR_full (l := l) HB.out (by omega))
  have hlb : ((gs.length : Int) == r) = true := by simpa using hl
  clear hl
  go_enter Try.func16, Try.ntmps16
  go_wp2_with fail
  refine name_calls fun W hW => ?_
  have bW : Below w.heap.size w W := by
    rw [hW]
    repeat (first | exact Below.refl _ _ | refine Below.alloc ?_ (by first | exact Nat.le_refl _ | (simp; done) | (simp; omega)) _)
  have h1 : W.heap[w.heap.size]? = some (.cells #[.int .i64 r, .int .i64 t, .slice ao gs.length c, .bool l, .int .i64 a] 25 (0, 0)) := by rw [hW]; exact box_alloc (box_alloc (heap_new_at w _ _ rfl) _) _
  have h2 : W.heap[w.heap.size + 1]? = some (.cells #[.int .i64 gb, .int .i64 gc] 33 (0, 0)) := by rw [hW]; exact box_alloc (heap_new_at _ _ _ (by simp)) _
  have h3 : W.heap[w.heap.size + 2]? = some (.cells #[.int .i64 0, .int .i64 0, .slice none 0 0, .bool false, .int .i64 0] 25 (0, 0)) := by rw [hW]; exact heap_new_at _ _ _ (by simp)
  have zW : W.heap.size = w.heap.size + 3 := by rw [hW]; simp
  clear hW
  refine (specRecvValid_any r t ao gs c l a W (hx.below bW) (by omega)).mono ?_
  rintro e w1 ⟨rfl, b1⟩
  have z1 := b1.size
  have B1 := bW.trans (b1.mono bW.size)
  have H1 := Lib.hid ((b1.block _ (by omega)).trans h1)
  have H2 := Lib.hid ((b1.block _ (by omega)).trans h2)
  have H3 := Lib.hid ((b1.block _ (by omega)).trans h3)
  clear h1 h2 h3 b1 bW
  obtain ⟨c0, c1⟩ := cells2 H2.out
  go_wp2_with fail
  refine (l11Got_any gb gc w1).mono ?_
  rintro e w2 ⟨rfl, b2⟩
  have z2 := b2.size
  have B2 := B1.trans (b2.mono B1.size)
  have K1 := Lib.hid ((b2.block _ (by omega)).trans H1.out)
  have K2 := Lib.hid ((b2.block _ (by omega)).trans H2.out)
  have K3 := Lib.hid ((b2.block _ (by omega)).trans H3.out)
  clear c0 c1 H1 H2 H3 b2 B1
  obtain ⟨c0, c1, c2, c3, c4⟩ := cells5 K1.out
  obtain ⟨g0, g1⟩ := cells2 K2.out
  have hx2 := hx.below B2
  have HA := Lib.hid hA
  clear hA hv
  have hB1 : w.heap.size + 2 ≤ w2.heap.size := by omega
  have HS := Lib.hid (fun (v : World) (hv : Below (w.heap.size + 2) w2 v) => (⟨(hv.cell (p := ⟨w.heap.size, 0, none⟩) (by simp)).trans c0, (hv.cell (p := ⟨w.heap.size, 1, none⟩) (by simp)).trans c1, (hv.cell (p := ⟨w.heap.size, 2, none⟩) (by simp)).trans c2, (hv.cell (p := ⟨w.heap.size, 3, none⟩) (by simp)).trans c3, (hv.cell (p := ⟨w.heap.size, 4, none⟩) (by simp)).trans c4, (hv.cell (p := ⟨w.heap.size + 1, 0, none⟩) (by simp)).trans g0, (hv.cell (p := ⟨w.heap.size + 1, 1, none⟩) (by simp)).trans g1, hv⟩ : v.cell? ⟨w.heap.size, 0, none⟩ = some (.int .i64 r) ∧ v.cell? ⟨w.heap.size, 1, none⟩ = some (.int .i64 t) ∧ v.cell? ⟨w.heap.size, 2, none⟩ = some (.slice ao gs.length c) ∧ v.cell? ⟨w.heap.size, 3, none⟩ = some (.bool l) ∧ v.cell? ⟨w.heap.size, 4, none⟩ = some (.int .i64 a) ∧ v.cell? ⟨w.heap.size + 1, 0, none⟩ = some (.int .i64 gb) ∧ v.cell? ⟨w.heap.size + 1, 1, none⟩ = some (.int .i64 gc) ∧ Below (w.heap.size + 2) w2 v))
  go_wp2_with fail
  have hB2 : w2.heap.size ≤ w2.heap.size := Nat.le_refl _
  clear HS
  have HS := Lib.hid (fun (v : World) (hv : Below w2.heap.size w2 v) => (⟨(hv.cell (p := ⟨w.heap.size, 0, none⟩) (by simp; omega)).trans c0, (hv.cell (p := ⟨w.heap.size, 1, none⟩) (by simp; omega)).trans c1, (hv.cell (p := ⟨w.heap.size, 2, none⟩) (by simp; omega)).trans c2, (hv.cell (p := ⟨w.heap.size, 3, none⟩) (by simp; omega)).trans c3, (hv.cell (p := ⟨w.heap.size, 4, none⟩) (by simp; omega)).trans c4, hv⟩ : v.cell? ⟨w.heap.size, 0, none⟩ = some (.int .i64 r) ∧ v.cell? ⟨w.heap.size, 1, none⟩ = some (.int .i64 t) ∧ v.cell? ⟨w.heap.size, 2, none⟩ = some (.slice ao gs.length c) ∧ v.cell? ⟨w.heap.size, 3, none⟩ = some (.bool l) ∧ v.cell? ⟨w.heap.size, 4, none⟩ = some (.int .i64 a) ∧ Below w2.heap.size w2 v))
  clear c0 c1 c2 c3 c4 g0 g1
  go_cut [6] from 7 (fun s6 wx => ∃ g a1 c1, s6 = .pointer (some ⟨g, 0, none⟩) ∧ wx.heap[g]? = some (.cells #[.int .i64 r, .int .i64 t, .slice a1 gs.length c1, .bool l, .int .i64 0] 25 (0, 0)) ∧ OwnG wx w2.heap.size a1 c1 gs ∧ Below w2.heap.size w2 wx ∧ w2.heap.size ≤ g)
  case first =>
    go_region_held3 (fun v => v.cell? ⟨w.heap.size, 0, none⟩ = some (.int .i64 r) ∧ v.cell? ⟨w.heap.size, 1, none⟩ = some (.int .i64 t) ∧ v.cell? ⟨w.heap.size, 2, none⟩ = some (.slice ao gs.length c) ∧ v.cell? ⟨w.heap.size, 3, none⟩ = some (.bool l) ∧ v.cell? ⟨w.heap.size, 4, none⟩ = some (.int .i64 a) ∧ Below w2.heap.size w2 v)
      ((refine HS.out _ ?_; go_split_ands; repeat (first | with_reducible assumption | with_reducible exact Below.refl _ _ | with_reducible refine Below.drew ?_ | with_reducible refine below_allocB ?_ hB2 _ | (with_reducible refine Below.setCell ?_ ?hs _; case hs => (first | (simp; done) | (simp; omega))))))
      (first
        | (refine step_append_row (by rfl) _ _ _ (by rfl) w2.heap.size 33 _ 2 16 Try.underlying23 gt_info rfl (by decide) (some ⟨_, 0, none⟩) 0 0 [] (by rfl) ?ho ao gs.length c (gs.flatMap gtCells) (by rfl) ?hn (flatN_length gtCells 2 gtCells_length _) (gts_one _) HA.out (by simp only [maxLen]; omega) (by omega) ?hb ?_
           case ho => first | exact own_made_at _ #[] _ _ 0 _ _ rfl (by first | exact Nat.le_refl _ | (simp; done) | (simp; omega)) (by simp) rfl | exact World.ownsRow.alloc (own_made_at _ #[] _ _ 0 _ _ rfl (Nat.le_refl _) (by simp) rfl) _ | exact own_made_at _ #[] _ _ 0 _ _ (by simp) (by simp) (by simp) rfl
           case hn => (go_split_ands; exact hx2.below (by with_reducible assumption))
           case hb => (go_split_ands; exact Below.size (by with_reducible assumption))
           intro aA dA wA hoA hgA
           rw [Nat.zero_add, List.nil_append] at hoA
           rw [Nat.zero_add]
           have bA : Below w2.heap.size w2 wA := (by go_split_ands; exact below_growB (by with_reducible assumption) hgA hB2 (fun k hk => by simp [Value.ownBlock] at hk; omega))
           have zA := bA.size
           first
             | have hA8 := box_grow (show (((w2.alloc (.cells #[.int .i64 0, .int .i64 0, .slice none 0 0, .bool false, .int .i64 0] 25)).alloc (.cells #[] 33)).drew).heap[w2.heap.size]? = some (.cells #[.int .i64 0, .int .i64 0, .slice none 0 0, .bool false, .int .i64 0] 25 (0, 0)) from box_alloc (heap_new_at w2 _ _ rfl) _) hgA (fun k hk => by simp [Value.ownBlock] at hk; omega)
             | have hA8 := box_grow (show (((w2.alloc (.cells #[] 33)).alloc (.cells #[.int .i64 0, .int .i64 0, .slice none 0 0, .bool false, .int .i64 0] 25)).drew).heap[w2.heap.size + 1]? = some (.cells #[.int .i64 0, .int .i64 0, .slice none 0 0, .bool false, .int .i64 0] 25 (0, 0)) from heap_new_at (w2.alloc _) _ _ (by simp)) hgA (fun k hk => by simp [Value.ownBlock] at hk; omega)
             | skip)
        | (go_at_call 38
           refine name_calls fun W hW => ?_
           have oW : OwnG W w2.heap.size aA dA gs := by rw [hW]; first | exact hoA | exact World.ownsRow.alloc hoA _
           have bW : Below w2.heap.size w2 W := by rw [hW]; repeat (first | with_reducible assumption | with_reducible refine Below.drew ?_ | with_reducible refine below_allocB ?_ hB2 _)
           have zW := bW.size
           first
             | (have hW8 := hA8; rw [← hW] at hW8)
             | have hW8 : W.heap[wA.heap.size]? = some (.cells #[.int .i64 0, .int .i64 0, .slice none 0 0, .bool false, .int .i64 0] 25 (0, 0)) := by rw [hW]; exact heap_new_at wA _ _ rfl
             | skip
           clear hW
           refine (l11With_any r t ao aA gs.length gs.length c dA l a W).mono ?_
           rintro e wB ⟨rfl, bB⟩
           have oB := own_below oW bB
           have bC := bW.trans (bB.mono zW)
           have zB := bC.size
           first
             | (have hC8 := (bB.block _ (box_lt hW8)).trans hW8; obtain ⟨e0, e1, e2, e3, e4, k0, k1, k2, k3, k4⟩ := five_cells hC8)
             | skip))
    all_goals
      go_wp2
      go_meet
      case rel =>
        refine ⟨_, aA, dA, rfl, ?_, ?_, ?_, ?_⟩
        · first | exact five_set (five_set (five_set (five_set (five_set hC8 _) _) _) _) _ | exact heap_new_at wB _ _ rfl
        · first
            | (have hn := own_box_ne oB hC8 (by decide); exact own_set_ne (own_set_ne (own_set_ne (own_set_ne (own_set_ne oB _ _ hn) _ _ hn) _ _ hn) _ _ hn) _ _ hn)
            | exact World.ownsRow.alloc oB _
        · repeat (first | with_reducible assumption | with_reducible exact Below.refl _ _ | with_reducible refine Below.drew ?_ | with_reducible refine below_allocB ?_ hB2 _ | (with_reducible refine Below.setCell ?_ ?hs _; case hs => (first | (simp; done) | (simp; omega))))
        · omega
  case rest =>
    obtain ⟨g, aC, dC, rfl, Hg, oC, bC, hgz⟩ := hcut
    have zc := bC.size
    have BC := B2.trans (bC.mono B2.size)
    obtain ⟨c0, c1, c2, c3, c4, f0, f1, f2, f3, f4⟩ := five_cells Hg
    obtain ⟨d0, d1, d2, d3, d4, e0, e1, e2, e3, e4⟩ := five_cells ((bC.block _ (by omega)).trans K3.out)
    go_wp2
    refine bodyPost_ret (v := .tuple #[.agg #[.int .i64 r, .int .i64 t, .slice aC gs.length dC, .bool true, .int .i64 0], .bool true]) (by simp [results, Try.results16, go_sem, *]) rfl ?_
    rw [HR.out]
    refine ⟨aC, dC, rfl, ?_, ?_⟩
    · refine own_base (base := w2.heap.size) ?_ (by omega)
      iterate 5 refine own_set ?_ _ _ (by simp; omega)
      exact own_set_ne oC _ _ (own_box_ne oC Hg (by decide))
    · exact (((((BC.setCell (by simp; omega) _).setCell (by simp; try omega) _).setCell (by simp; try omega) _).setCell (by simp; try omega) _).setCell (by simp; try omega) _).setCell (by simp; try omega) _
end Go.Proofs.Ytmmdbbnmifpciaa
