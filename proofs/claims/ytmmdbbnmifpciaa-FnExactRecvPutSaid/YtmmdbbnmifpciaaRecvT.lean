/- Receivers: time passes. -/
import Derived.Test.YtmmdbbnmifpciaaRecv5
import Derived.Deep.Cut
namespace Go.Proofs.Ytmmdbbnmifpciaa
open Go.RowKit

def ageN (gs : List Gt) (a : Int) : Int := if gs.length = 0 then 0 else if a + 1 ≤ 99 then a + 1 else 99
def rtickR (r t : Int) (gs : List Gt) (l : Bool) (a : Int) : RvR := if recvB r t gs a then ⟨r, t, gs, l, ageN gs a, true⟩ else ⟨0, 0, [], false, 0, false⟩
theorem rtickR_no {r t a : Int} {gs : List Gt} {l : Bool} (h : recvB r t gs a = false) : rtickR r t gs l a = ⟨0, 0, [], false, 0, false⟩ := by simp [rtickR, h]
theorem rtickR_yes {r t a : Int} {gs : List Gt} {l : Bool} (h : recvB r t gs a = true) : rtickR r t gs l a = ⟨r, t, gs, l, ageN gs a, true⟩ := by simp [rtickR, h]
theorem ageN_0 {gs : List Gt} {a : Int} (h : gs.length = 0) : ageN gs a = 0 := by simp [ageN, h]
theorem ageN_1 {gs : List Gt} {a : Int} (h : ¬ gs.length = 0) (h2 : a + 1 ≤ 99) : ageN gs a = a + 1 := by simp only [ageN, if_neg h, if_pos h2]
theorem ageN_2 {gs : List Gt} {a : Int} (h : ¬ gs.length = 0) (h2 : ¬ a + 1 ≤ 99) : ageN gs a = 99 := by simp only [ageN, if_neg h, if_neg h2]
set_option maxHeartbeats 16000000 in
theorem l11Tick_any (r t : Int) (ao : Option Addr) (gs : List Gt) (c : Nat) (l : Bool) (a : Int) (w : World) (hx : Gts w ao gs) (lx : gs.length ≤ 1048576) (hA : ao = none → gs.length = 0 ∧ c = 0) (ha0 : 0 ≤ a) (ha9 : a ≤ 99) :
    Calls Try.prog 39 #[.agg #[.int .i64 r, .int .i64 t, .slice ao gs.length c, .bool l, .int .i64 a]] w fun e w' => ∃ a1 c1, e = .returned (.agg #[.int .i64 r, .int .i64 t, .slice a1 gs.length c1, .bool l, .int .i64 (ageN gs a)]) ∧ OwnG w' w.heap.size a1 c1 gs ∧ Below w.heap.size w w' := by
  have HA := Lib.hid hA
  clear hA
  go_enter Try.func39, Try.ntmps39
  go_wp2_with fail
  refine name_wp fun W2 hW => ?_
  have B2 : Below w.heap.size w W2 := by
    rw [hW]
    repeat (first | exact Below.refl _ _ | refine Below.alloc ?_ (by first | exact Nat.le_refl _ | (simp; done) | (simp; omega)) _)
  have h1 : W2.heap[w.heap.size]? = some (.cells #[.int .i64 r, .int .i64 t, .slice ao gs.length c, .bool l, .int .i64 a] 25 (0, 0)) := by rw [hW]; exact box_alloc (heap_new_at w _ _ rfl) _
  have h2 : W2.heap[w.heap.size + 1]? = some (.cells #[.int .i64 0, .int .i64 0, .slice none 0 0, .bool false, .int .i64 0] 25 (0, 0)) := by rw [hW]; exact heap_new_at _ _ _ (by simp)
  have zW2 : w.heap.size + 2 ≤ W2.heap.size := by rw [hW]; simp
  clear hW
  have K1 := Lib.hid h1
  have K2 := Lib.hid h2
  clear h1 h2
  obtain ⟨c0, c1, c2, c3, c4⟩ := cells5 K1.out
  have hx2 := hx.below B2
  have hB2 : W2.heap.size ≤ W2.heap.size := Nat.le_refl _
  have HS := Lib.hid (fun (v : World) (hv : Below W2.heap.size W2 v) => (⟨(hv.cell (p := ⟨w.heap.size, 0, none⟩) (by simp; omega)).trans c0, (hv.cell (p := ⟨w.heap.size, 1, none⟩) (by simp; omega)).trans c1, (hv.cell (p := ⟨w.heap.size, 2, none⟩) (by simp; omega)).trans c2, (hv.cell (p := ⟨w.heap.size, 3, none⟩) (by simp; omega)).trans c3, (hv.cell (p := ⟨w.heap.size, 4, none⟩) (by simp; omega)).trans c4, hv⟩ : v.cell? ⟨w.heap.size, 0, none⟩ = some (.int .i64 r) ∧ v.cell? ⟨w.heap.size, 1, none⟩ = some (.int .i64 t) ∧ v.cell? ⟨w.heap.size, 2, none⟩ = some (.slice ao gs.length c) ∧ v.cell? ⟨w.heap.size, 3, none⟩ = some (.bool l) ∧ v.cell? ⟨w.heap.size, 4, none⟩ = some (.int .i64 a) ∧ Below W2.heap.size W2 v))
  clear c0 c1 c2 c3 c4
  go_cut [3] from 4 (fun s6 wx => ∃ g a1 c1, s6 = .pointer (some ⟨g, 0, none⟩) ∧ wx.heap[g]? = some (.cells #[.int .i64 r, .int .i64 t, .slice a1 gs.length c1, .bool l, .int .i64 0] 25 (0, 0)) ∧ OwnG wx W2.heap.size a1 c1 gs ∧ Below W2.heap.size W2 wx ∧ W2.heap.size ≤ g)
  case first =>
    go_region_held3 (fun v => v.cell? ⟨w.heap.size, 0, none⟩ = some (.int .i64 r) ∧ v.cell? ⟨w.heap.size, 1, none⟩ = some (.int .i64 t) ∧ v.cell? ⟨w.heap.size, 2, none⟩ = some (.slice ao gs.length c) ∧ v.cell? ⟨w.heap.size, 3, none⟩ = some (.bool l) ∧ v.cell? ⟨w.heap.size, 4, none⟩ = some (.int .i64 a) ∧ Below W2.heap.size W2 v)
      ((refine HS.out _ ?_; go_split_ands; repeat (first | with_reducible assumption | with_reducible exact Below.refl _ _ | with_reducible refine Below.drew ?_ | with_reducible refine below_allocB ?_ hB2 _ | (with_reducible refine Below.setCell ?_ ?hs _; case hs => (first | (simp; done) | (simp; omega))))))
      (first
        | (refine step_append_row (by rfl) _ _ _ (by rfl) W2.heap.size 33 _ 2 16 Try.underlying23 gt_info rfl (by decide) (some ⟨_, 0, none⟩) 0 0 [] (by rfl) ?ho ao gs.length c (gs.flatMap gtCells) (by rfl) ?hn (flatN_length gtCells 2 gtCells_length _) (gts_one _) HA.out (by simp only [maxLen]; omega) (by omega) ?hb ?_
           case ho => first | exact own_made_at _ #[] _ _ 0 _ _ rfl (by first | exact Nat.le_refl _ | (simp; done) | (simp; omega)) (by simp) rfl | exact World.ownsRow.alloc (own_made_at _ #[] _ _ 0 _ _ rfl (Nat.le_refl _) (by simp) rfl) _ | exact own_made_at _ #[] _ _ 0 _ _ (by simp) (by simp) (by simp) rfl
           case hn => (go_split_ands; exact hx2.below (by with_reducible assumption))
           case hb => (go_split_ands; exact Below.size (by with_reducible assumption))
           intro aA dA wA hoA hgA
           rw [Nat.zero_add, List.nil_append] at hoA
           rw [Nat.zero_add]
           have bA : Below W2.heap.size W2 wA := (by go_split_ands; exact below_growB (by with_reducible assumption) hgA hB2 (fun k hk => by simp [Value.ownBlock] at hk; omega))
           have zA := bA.size
           first
             | have hA8 := box_grow (show (((W2.alloc (.cells #[.int .i64 0, .int .i64 0, .slice none 0 0, .bool false, .int .i64 0] 25)).alloc (.cells #[] 33)).drew).heap[W2.heap.size]? = some (.cells #[.int .i64 0, .int .i64 0, .slice none 0 0, .bool false, .int .i64 0] 25 (0, 0)) from box_alloc (heap_new_at W2 _ _ rfl) _) hgA (fun k hk => by simp [Value.ownBlock] at hk; omega)
             | have hA8 := box_grow (show (((W2.alloc (.cells #[] 33)).alloc (.cells #[.int .i64 0, .int .i64 0, .slice none 0 0, .bool false, .int .i64 0] 25)).drew).heap[W2.heap.size + 1]? = some (.cells #[.int .i64 0, .int .i64 0, .slice none 0 0, .bool false, .int .i64 0] 25 (0, 0)) from heap_new_at (W2.alloc _) _ _ (by simp)) hgA (fun k hk => by simp [Value.ownBlock] at hk; omega)
             | skip)
        | (go_at_call 38
           refine name_calls fun Wc hWc => ?_
           have oW : OwnG Wc W2.heap.size aA dA gs := by rw [hWc]; first | exact hoA | exact World.ownsRow.alloc hoA _
           have bW : Below W2.heap.size W2 Wc := by rw [hWc]; repeat (first | with_reducible assumption | with_reducible refine Below.drew ?_ | with_reducible refine below_allocB ?_ hB2 _)
           have zW := bW.size
           first
             | (have hW8 := hA8; rw [← hWc] at hW8)
             | have hW8 : Wc.heap[wA.heap.size]? = some (.cells #[.int .i64 0, .int .i64 0, .slice none 0 0, .bool false, .int .i64 0] 25 (0, 0)) := by rw [hWc]; exact heap_new_at wA _ _ rfl
             | skip
           clear hWc
           refine (l11With_any r t ao aA gs.length gs.length c dA l a Wc).mono ?_
           rintro e wB ⟨rfl, bB⟩
           have oB := own_below oW bB
           have bC := bW.trans (bB.mono zW)
           have zB := bC.size
           first
             | (have hC8 := (bB.block _ (box_lt hW8)).trans hW8; obtain ⟨e0, e1, e2, e3, e4, k0, k1, k2, k3, k4⟩ := five_cells hC8)
             | skip))
    all_goals
      go_wp2
      go_meet
      case rel =>
        refine ⟨_, aA, dA, rfl, ?_, ?_, ?_, ?_⟩
        · first | exact five_set (five_set (five_set (five_set (five_set hC8 _) _) _) _) _ | exact heap_new_at wB _ _ rfl
        · first
            | (have hn := own_box_ne oB hC8 (by decide); exact own_set_ne (own_set_ne (own_set_ne (own_set_ne (own_set_ne oB _ _ hn) _ _ hn) _ _ hn) _ _ hn) _ _ hn)
            | exact World.ownsRow.alloc oB _
        · repeat (first | with_reducible assumption | with_reducible exact Below.refl _ _ | with_reducible refine Below.drew ?_ | with_reducible refine below_allocB ?_ hB2 _ | (with_reducible refine Below.setCell ?_ ?hs _; case hs => (first | (simp; done) | (simp; omega))))
        · omega
  case rest =>
    obtain ⟨g, aC, dC, rfl, Hg, oC, bC, hgz⟩ := hcut
    have zc := bC.size
    have BC := B2.trans (bC.mono B2.size)
    obtain ⟨c0, c1, c2, c3, c4, f0, f1, f2, f3, f4⟩ := five_cells Hg
    obtain ⟨p0, p1, p2, p3, p4⟩ := cells5 ((bC.block _ (by omega)).trans K1.out)
    obtain ⟨d0, d1, d2, d3, d4, e0, e1, e2, e3, e4⟩ := five_cells ((bC.block _ (by omega)).trans K2.out)
    by_cases h0 : gs.length = 0
    · have HAge := Lib.hid (ageN_0 (a := a) h0)
      have hb : (gs.length : Int) ≤ 0 := by omega
      have hd : decide ((0 : Int) < (gs.length : Int)) = false := by simp [h0]
      clear h0
      go_wp2
      refine bodyPost_ret (v := .agg #[.int .i64 r, .int .i64 t, .slice aC gs.length dC, .bool l, .int .i64 (0)]) (by simp [results, Try.results39, go_sem, *]) rfl ?_
      rw [HAge.out]
      refine ⟨aC, dC, rfl, ?_, ?_⟩
      · refine own_base (base := W2.heap.size) ?_ (by omega)
        iterate 5 refine own_set ?_ _ _ (by simp; try omega)
        have oC' : wc.ownsRow W2.heap.size 33 2 (.slice aC gs.length dC) gs.length (gs.flatMap gtCells) := oC
        first | with_reducible exact oC' | exact own_set_ne oC _ _ (own_box_ne oC Hg (by decide))
      · repeat (first | with_reducible exact BC | refine Below.setCell ?_ (by first | (simp; done) | (simp; omega)) _)
    have hb : (0 : Int) < (gs.length : Int) := by omega
    by_cases h9 : a + 1 ≤ 99
    · have HAge := Lib.hid (ageN_1 (a := a) h0 h9)
      clear h0
      go_wp2
      refine bodyPost_ret (v := .agg #[.int .i64 r, .int .i64 t, .slice aC gs.length dC, .bool l, .int .i64 (a + 1)]) (by simp [results, Try.results39, go_sem, *]) rfl ?_
      rw [HAge.out]
      refine ⟨aC, dC, rfl, ?_, ?_⟩
      · refine own_base (base := W2.heap.size) ?_ (by omega)
        iterate 5 refine own_set ?_ _ _ (by simp; try omega)
        have oC' : wc.ownsRow W2.heap.size 33 2 (.slice aC gs.length dC) gs.length (gs.flatMap gtCells) := oC
        first | with_reducible exact oC' | exact own_set_ne oC _ _ (own_box_ne oC Hg (by decide))
      · repeat (first | with_reducible exact BC | refine Below.setCell ?_ (by first | (simp; done) | (simp; omega)) _)
    · have HAge := Lib.hid (ageN_2 (a := a) h0 h9)
      have h9' : 99 < a + 1 := by omega
      clear h0 h9
      go_wp2
      refine bodyPost_ret (v := .agg #[.int .i64 r, .int .i64 t, .slice aC gs.length dC, .bool l, .int .i64 (99)]) (by simp [results, Try.results39, go_sem, *]) rfl ?_
      rw [HAge.out]
      refine ⟨aC, dC, rfl, ?_, ?_⟩
      · refine own_base (base := W2.heap.size) ?_ (by omega)
        iterate 5 refine own_set ?_ _ _ (by simp; try omega)
        have oC' : wc.ownsRow W2.heap.size 33 2 (.slice aC gs.length dC) gs.length (gs.flatMap gtCells) := oC
        first | with_reducible exact oC' | exact own_set_ne oC _ _ (own_box_ne oC Hg (by decide))
      · repeat (first | with_reducible exact BC | refine Below.setCell ?_ (by first | (simp; done) | (simp; omega)) _)
end Go.Proofs.Ytmmdbbnmifpciaa
