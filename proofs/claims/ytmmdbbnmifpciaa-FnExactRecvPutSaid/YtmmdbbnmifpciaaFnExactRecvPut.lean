/- FnExactRecvPut: for all arguments the program's RecvPut answers what the reference's answers, leaves its arguments as they were, and its result shares no memory. No condition. -/
import Derived.Test.YtmmdbbnmifpciaaRecvSaid
import Derived.Deep.Cut
import Derived.Deep.RegionHeld3
namespace Go.Proofs.Ytmmdbbnmifpciaa
open Go.ChangeShapes Go.WideShapes Go.ChangeAt Go.RowKit

set_option maxHeartbeats 4000000 in
set_option maxRecDepth 100000 in
theorem FnExactRecvPut_walk (r0 t0 : Int) (l0 : Bool) (g0 : Int) (a0 : Option Addr) (z0 : List Gt) (cap0 : Nat) (gb1 gc1 : Int) (w : World) (rz0 : Gts w a0 z0) (_lc0 : z0.length ≤ cap0) (lm0 : cap0 ≤ maxLen) :
    Calls Try.prog 7 #[.agg #[.int .i64 r0, .int .i64 t0, .slice a0 z0.length cap0, .bool l0, .int .i64 g0], .agg #[.int .i64 gb1, .int .i64 gc1]] w fun e w' => e = .returned (.bool true) ∧ Below w.heap.size w w' := by
  unfold maxLen at lm0
  by_cases hn0 : (z0.length : Int) ≤ 1048576
  case neg =>
    have hn0' : (1048576 : Int) < (z0.length : Int) := by omega
    go_enter Try.func7, Try.ntmps7
    go_wp2_with fail
    refine name_calls fun W1 hW1 => ?_
    have B2 : Below w.heap.size w W1 := by rw [hW1]; exact ((Below.refl _ _).alloc (Nat.le_refl _) _).alloc (by simp) _
    have H3 := Lib.hid (show W1.heap[w.heap.size]? = some (.cells #[.int .i64 r0, .int .i64 t0, .slice a0 z0.length cap0, .bool l0, .int .i64 g0] 41 (0, 0)) by rw [hW1]; exact box_alloc (heap_new_at w _ _ rfl) _)
    have H4 := Lib.hid (show W1.heap[w.heap.size + 1]? = some (.cells #[.int .i64 gb1, .int .i64 gc1] 42 (0, 0)) by rw [hW1]; exact heap_new_at _ _ _ (by simp))
    have zW1 : W1.heap.size = w.heap.size + 2 := by rw [hW1]; simp
    clear hW1
    refine (szReceiver_no r0 t0 l0 g0 a0 _ cap0 1048576 W1 hn0' (by omega) (by omega)).mono ?_
    rintro e w6 ⟨rfl, b5⟩
    have zw6 := b5.size
    have B7 := B2.trans (b5.mono B2.size)
    clear B2
    replace H3 := Lib.hid ((b5.block _ (Array.getElem?_eq_some_iff.1 H3.out).1).trans H3.out)
    replace H4 := Lib.hid ((b5.block _ (Array.getElem?_eq_some_iff.1 H4.out).1).trans H4.out)
    go_wp2
    go_ret
    exact ⟨rfl, B7⟩
  go_enter Try.func7, Try.ntmps7
  go_wp2_with fail
  refine name_calls fun W8 hW8 => ?_
  have B9 : Below w.heap.size w W8 := by rw [hW8]; exact ((Below.refl _ _).alloc (Nat.le_refl _) _).alloc (by simp) _
  have H10 := Lib.hid (show W8.heap[w.heap.size]? = some (.cells #[.int .i64 r0, .int .i64 t0, .slice a0 z0.length cap0, .bool l0, .int .i64 g0] 41 (0, 0)) by rw [hW8]; exact box_alloc (heap_new_at w _ _ rfl) _)
  have H11 := Lib.hid (show W8.heap[w.heap.size + 1]? = some (.cells #[.int .i64 gb1, .int .i64 gc1] 42 (0, 0)) by rw [hW8]; exact heap_new_at _ _ _ (by simp))
  have zW8 : W8.heap.size = w.heap.size + 2 := by rw [hW8]; simp
  clear hW8
  refine (szReceiver_yes r0 t0 l0 g0 a0 _ cap0 1048576 W8 hn0 (by omega)).mono ?_
  rintro e w13 ⟨rfl, b12⟩
  have zw13 := b12.size
  have B14 := B9.trans (b12.mono B9.size)
  clear B9
  replace H10 := Lib.hid ((b12.block _ (Array.getElem?_eq_some_iff.1 H10.out).1).trans H10.out)
  replace H11 := Lib.hid ((b12.block _ (Array.getElem?_eq_some_iff.1 H11.out).1).trans H11.out)
  obtain ⟨R, hR⟩ : ∃ R, R = rputR r0 t0 z0 l0 g0 ⟨gb1, gc1⟩ := ⟨_, rfl⟩
  have lr : R.g.length ≤ z0.length + 1 := by rw [hR]; exact rputR_len _ _ _ _ _ _
  have HSp := Lib.hid (fun v a c (h : Gts v a z0) (hc : a = none → z0.length = 0 ∧ c = 0) => specRecvPut_any r0 t0 a z0 c l0 g0 gb1 gc1 v h (by omega) hc)
  have HIp := Lib.hid (fun v a c (h : Gts v a z0) (_ : a = none → z0.length = 0 ∧ c = 0) => implRecvPut_any r0 t0 a z0 c l0 g0 gb1 gc1 v h (by omega))
  rw [← hR] at HSp HIp
  clear hR
  go_wp2_with fail
  obtain ⟨p0q15, p1q15, p2q15, p3q15, p4q15⟩ := cells5 H10.out
  obtain ⟨r0q15, r1q15⟩ := cells2 H11.out
  have HSq15 := Lib.hid (fun (v : World) (hv : Below w13.heap.size w13 v) => (⟨(hv.cell (p := ⟨w.heap.size, 0, none⟩) (box_lt H10.out)).trans p0q15, (hv.cell (p := ⟨w.heap.size, 1, none⟩) (box_lt H10.out)).trans p1q15, (hv.cell (p := ⟨w.heap.size, 2, none⟩) (box_lt H10.out)).trans p2q15, (hv.cell (p := ⟨w.heap.size, 3, none⟩) (box_lt H10.out)).trans p3q15, (hv.cell (p := ⟨w.heap.size, 4, none⟩) (box_lt H10.out)).trans p4q15, (hv.cell (p := ⟨w.heap.size + 1, 0, none⟩) (box_lt H11.out)).trans r0q15, (hv.cell (p := ⟨w.heap.size + 1, 1, none⟩) (box_lt H11.out)).trans r1q15, hv⟩ : v.cell? ⟨w.heap.size, 0, none⟩ = some (.int .i64 r0) ∧ v.cell? ⟨w.heap.size, 1, none⟩ = some (.int .i64 t0) ∧ v.cell? ⟨w.heap.size, 2, none⟩ = some (.slice a0 z0.length cap0) ∧ v.cell? ⟨w.heap.size, 3, none⟩ = some (.bool l0) ∧ v.cell? ⟨w.heap.size, 4, none⟩ = some (.int .i64 g0) ∧ v.cell? ⟨w.heap.size + 1, 0, none⟩ = some (.int .i64 gb1) ∧ v.cell? ⟨w.heap.size + 1, 1, none⟩ = some (.int .i64 gc1) ∧ Below w13.heap.size w13 v))
  have hBq15 : w13.heap.size ≤ w13.heap.size := Nat.le_refl _
  clear p0q15 p1q15 p2q15 p3q15 p4q15 r0q15 r1q15
  go_cut [6, 7] from 16 (fun s6 s7 wx => ∃ g a1 c1, s6 = .pointer (some ⟨g, 0, none⟩) ∧ s7 = .bool R.ok ∧ wx.heap[g]? = some (.cells #[.int .i64 R.r, .int .i64 R.t, .slice a1 R.g.length c1, .bool R.l, .int .i64 R.a] 25 (0, 0)) ∧ OwnG wx w13.heap.size a1 c1 R.g ∧ Below w13.heap.size w13 wx ∧ w13.heap.size ≤ g)
  case first =>
    go_region_held3 (fun v => v.cell? ⟨w.heap.size, 0, none⟩ = some (.int .i64 r0) ∧ v.cell? ⟨w.heap.size, 1, none⟩ = some (.int .i64 t0) ∧ v.cell? ⟨w.heap.size, 2, none⟩ = some (.slice a0 z0.length cap0) ∧ v.cell? ⟨w.heap.size, 3, none⟩ = some (.bool l0) ∧ v.cell? ⟨w.heap.size, 4, none⟩ = some (.int .i64 g0) ∧ v.cell? ⟨w.heap.size + 1, 0, none⟩ = some (.int .i64 gb1) ∧ v.cell? ⟨w.heap.size + 1, 1, none⟩ = some (.int .i64 gc1) ∧ Below w13.heap.size w13 v)
      ((refine HSq15.out _ ?_; go_split_ands; repeat (first | with_reducible assumption | with_reducible exact Below.refl _ _ | with_reducible refine Below.drew ?_ | with_reducible refine below_allocB ?_ hBq15 _ | (with_reducible refine Below.setCell ?_ ?hs _; case hs => (first | (simp; done) | (simp; omega))))))
      (first
        | (go_at_call 23
           refine name_calls fun Wc hWc => ?_
           have bc : Below w13.heap.size w13 Wc := by rw [hWc]; repeat (first | with_reducible assumption | with_reducible exact Below.refl _ _ | with_reducible refine Below.drew ?_ | with_reducible refine below_allocB ?_ hBq15 _ | (with_reducible refine Below.setCell ?_ ?hs _; case hs => (first | (simp; done) | (simp; omega))))
           refine (toReceiver_any r0 t0 l0 g0 a0 z0 cap0 Wc (rz0.below (B14.trans (bc.mono B14.size))) (by omega)).mono ?_
           rintro e wAq15 ⟨aA, cA, rfl, oA, b0Aq15⟩
           have bAq15 : Below w13.heap.size w13 wAq15 := bc.trans (b0Aq15.mono bc.size)
           have zAq15 := bAq15.size
           first
             | (have h8n : Wc.heap[w13.heap.size]? = some (.cells #[.int .i64 0, .int .i64 0, .slice none 0 0, .bool false, .int .i64 0] 25 (0, 0)) := (by rw [hWc]; exact heap_new_at w13 _ _ rfl); have h8Aq15 := (b0Aq15.block _ (box_lt h8n)).trans h8n)
             | skip
           have oA1 : OwnG wAq15 w13.heap.size aA cA z0 := OwnG.base oA bc.size
           clear hWc bc b0Aq15
           skip)
        | (go_at_call 24
           refine name_calls fun Wc hWc => ?_
           have bc : Below w13.heap.size w13 Wc := by rw [hWc]; repeat (first | with_reducible assumption | with_reducible exact Below.refl _ _ | with_reducible refine Below.drew ?_ | with_reducible refine below_allocB ?_ hBq15 _ | (with_reducible refine Below.setCell ?_ ?hs _; case hs => (first | (simp; done) | (simp; omega))))
           have oA2 : OwnG Wc w13.heap.size aA cA z0 := by rw [hWc]; first | exact oA1 | exact World.ownsRow.alloc oA1 _
           refine (toGot_any gb1 gc1 Wc).mono ?_
           rintro e wBq15 ⟨rfl, b0Bq15⟩
           have bBq15 : Below w13.heap.size w13 wBq15 := bc.trans (b0Bq15.mono bc.size)
           have zBq15 := bBq15.size
           first
             | (have h8n := h8Aq15; rw [← hWc] at h8n; have h8Bq15 := (b0Bq15.block _ (box_lt h8n)).trans h8n)
             | (have h8n : Wc.heap[wAq15.heap.size]? = some (.cells #[.int .i64 0, .int .i64 0, .slice none 0 0, .bool false, .int .i64 0] 25 (0, 0)) := (by rw [hWc]; exact heap_new_at wAq15 _ _ rfl); have h8Bq15 := (b0Bq15.block _ (box_lt h8n)).trans h8n)
             | skip
           have oB := own_below oA2 b0Bq15
           clear hWc bc b0Bq15
           skip)
        | (go_at_call 16
           refine name_calls fun Wc hWc => ?_
           have bc : Below w13.heap.size w13 Wc := by rw [hWc]; repeat (first | with_reducible assumption | with_reducible exact Below.refl _ _ | with_reducible refine Below.drew ?_ | with_reducible refine below_allocB ?_ hBq15 _ | (with_reducible refine Below.setCell ?_ ?hs _; case hs => (first | (simp; done) | (simp; omega))))
           refine (HSp.out Wc aA cA (by rw [hWc]; first | exact own_cells oB | exact own_cells (World.ownsRow.alloc oB _)) (own_nilcap oB)).mono ?_
           rintro e wCq15 ⟨aC, cC, rfl, oC, b0Cq15⟩
           have bCq15 : Below w13.heap.size w13 wCq15 := bc.trans (b0Cq15.mono bc.size)
           have zCq15 := bCq15.size
           first
             | (have h8n := h8Bq15; rw [← hWc] at h8n; have h8Cq15 := (b0Cq15.block _ (box_lt h8n)).trans h8n; obtain ⟨e0, e1, e2, e3, e4, f0, f1, f2, f3, f4⟩ := five_cells h8Cq15)
             | (have h8n : Wc.heap[wBq15.heap.size]? = some (.cells #[.int .i64 0, .int .i64 0, .slice none 0 0, .bool false, .int .i64 0] 25 (0, 0)) := (by rw [hWc]; exact heap_new_at wBq15 _ _ rfl); have h8Cq15 := (b0Cq15.block _ (box_lt h8n)).trans h8n; obtain ⟨e0, e1, e2, e3, e4, f0, f1, f2, f3, f4⟩ := five_cells h8Cq15)
             | skip
           have oC2 := own_base oC bc.size
           clear hWc bc b0Cq15
           skip))
    all_goals
      go_wp2
      go_meet
      case rel =>
        refine ⟨_, aC, cC, rfl, rfl, ?_, ?_, ?_, ?_⟩
        · first | exact five_set (five_set (five_set (five_set (five_set h8Cq15 _) _) _) _) _ | exact heap_new_at wCq15 _ _ rfl
        · first
            | (have hn := own_box_ne oC2 h8Cq15 (by decide); exact own_set_ne (own_set_ne (own_set_ne (own_set_ne (own_set_ne oC2 _ _ hn) _ _ hn) _ _ hn) _ _ hn) _ _ hn)
            | exact World.ownsRow.alloc oC2 _
        · repeat (first | with_reducible assumption | with_reducible exact Below.refl _ _ | with_reducible refine Below.drew ?_ | with_reducible refine below_allocB ?_ hBq15 _ | (with_reducible refine Below.setCell ?_ ?hs _; case hs => (first | (simp; done) | (simp; omega))))
        · omega
  case rest =>
    obtain ⟨g16, a17, c18, rfl, rfl, H210, o19, b20, hg16⟩ := hcut
    obtain ⟨wx22, hwx22⟩ : ∃ v, v = wc := ⟨_, rfl⟩
    rw [← hwx22] at H210 o19 b20 ⊢
    clear hwx22 HSq15 hBq15
    have hlg16 := box_lt H210
    have H21 := Lib.hid H210
    clear H210
    have zwx22 := b20.size
    have B23 := B14.trans (b20.mono B14.size)
    clear B14
    replace H10 := Lib.hid ((b20.block _ (Array.getElem?_eq_some_iff.1 H10.out).1).trans H10.out)
    replace H11 := Lib.hid ((b20.block _ (Array.getElem?_eq_some_iff.1 H11.out).1).trans H11.out)
    have io19 := own_in o19
    obtain ⟨cc24, cc25, cc26, cc27, cc28⟩ := cells5 H10.out
    have ll29 := (Array.getElem?_eq_some_iff.1 H10.out).1
    go_wp2_with fail
    clear cc24 cc25 cc26 cc27 cc28 ll29
    refine (toReceiver_any r0 t0 l0 g0 a0 z0 cap0 wx22 (rz0.below B23) (by omega)).mono ?_
    rintro e w34 ⟨a30, c31, rfl, o32, b33⟩
    have zw34 := b33.size
    have B35 := B23.trans (b33.mono B23.size)
    clear B23
    replace o19 := own_below o19 b33
    replace H10 := Lib.hid ((b33.block _ (Array.getElem?_eq_some_iff.1 H10.out).1).trans H10.out)
    replace H11 := Lib.hid ((b33.block _ (Array.getElem?_eq_some_iff.1 H11.out).1).trans H11.out)
    replace H21 := Lib.hid ((b33.block _ (Array.getElem?_eq_some_iff.1 H21.out).1).trans H21.out)
    have io32 := own_in o32
    go_wp2_with fail
    refine name_wp fun W36 hW36 => ?_
    have zW36 : W36.heap.size = w34.heap.size + 1 := by rw [hW36]; simp
    have H370 := heap_new_at w34 (.cells #[.int .i64 r0, .int .i64 t0, .slice a30 z0.length c31, .bool l0, .int .i64 g0] 25 (0, 0)) _ rfl
    rw [← hW36] at H370
    have H37 := Lib.hid H370
    clear H370
    have B38 := B35.alloc B35.size (.cells #[.int .i64 r0, .int .i64 t0, .slice a30 z0.length c31, .bool l0, .int .i64 g0] 25 (0, 0))
    rw [← hW36] at B38
    clear B35
    replace o19 := World.ownsRow.alloc o19 (.cells #[.int .i64 r0, .int .i64 t0, .slice a30 z0.length c31, .bool l0, .int .i64 g0] 25 (0, 0))
    rw [← hW36] at o19
    replace o32 := World.ownsRow.alloc o32 (.cells #[.int .i64 r0, .int .i64 t0, .slice a30 z0.length c31, .bool l0, .int .i64 g0] 25 (0, 0))
    rw [← hW36] at o32
    have H100 := (Below.heap_alloc w34 (.cells #[.int .i64 r0, .int .i64 t0, .slice a30 z0.length c31, .bool l0, .int .i64 g0] 25 (0, 0)) _ (Array.getElem?_eq_some_iff.1 H10.out).1).trans H10.out
    rw [← hW36] at H100
    clear H10
    have H10 := Lib.hid H100
    clear H100
    have H110 := (Below.heap_alloc w34 (.cells #[.int .i64 r0, .int .i64 t0, .slice a30 z0.length c31, .bool l0, .int .i64 g0] 25 (0, 0)) _ (Array.getElem?_eq_some_iff.1 H11.out).1).trans H11.out
    rw [← hW36] at H110
    clear H11
    have H11 := Lib.hid H110
    clear H110
    have H210 := (Below.heap_alloc w34 (.cells #[.int .i64 r0, .int .i64 t0, .slice a30 z0.length c31, .bool l0, .int .i64 g0] 25 (0, 0)) _ (Array.getElem?_eq_some_iff.1 H21.out).1).trans H21.out
    rw [← hW36] at H210
    clear H21
    have H21 := Lib.hid H210
    clear H210
    clear hW36
    have yW36 : w34.heap.size + 1 ≤ W36.heap.size := by omega
    clear zW36
    obtain ⟨p0q39, p1q39, p2q39, p3q39, p4q39⟩ := cells5 H37.out
    obtain ⟨r0q39, r1q39⟩ := cells2 H11.out
    have HSq39 := Lib.hid (fun (v : World) (hv : Below W36.heap.size W36 v) => (⟨(hv.cell (p := ⟨w34.heap.size, 0, none⟩) (box_lt H37.out)).trans p0q39, (hv.cell (p := ⟨w34.heap.size, 1, none⟩) (box_lt H37.out)).trans p1q39, (hv.cell (p := ⟨w34.heap.size, 2, none⟩) (box_lt H37.out)).trans p2q39, (hv.cell (p := ⟨w34.heap.size, 3, none⟩) (box_lt H37.out)).trans p3q39, (hv.cell (p := ⟨w34.heap.size, 4, none⟩) (box_lt H37.out)).trans p4q39, (hv.cell (p := ⟨w.heap.size + 1, 0, none⟩) (box_lt H11.out)).trans r0q39, (hv.cell (p := ⟨w.heap.size + 1, 1, none⟩) (box_lt H11.out)).trans r1q39, hv⟩ : v.cell? ⟨w34.heap.size, 0, none⟩ = some (.int .i64 r0) ∧ v.cell? ⟨w34.heap.size, 1, none⟩ = some (.int .i64 t0) ∧ v.cell? ⟨w34.heap.size, 2, none⟩ = some (.slice a30 z0.length c31) ∧ v.cell? ⟨w34.heap.size, 3, none⟩ = some (.bool l0) ∧ v.cell? ⟨w34.heap.size, 4, none⟩ = some (.int .i64 g0) ∧ v.cell? ⟨w.heap.size + 1, 0, none⟩ = some (.int .i64 gb1) ∧ v.cell? ⟨w.heap.size + 1, 1, none⟩ = some (.int .i64 gc1) ∧ Below W36.heap.size W36 v))
    have hBq39 : W36.heap.size ≤ W36.heap.size := Nat.le_refl _
    clear p0q39 p1q39 p2q39 p3q39 p4q39 r0q39 r1q39
    go_cut [9, 10] from 16 (fun s6 s7 wx => ∃ g a1 c1, s6 = .pointer (some ⟨g, 0, none⟩) ∧ s7 = .bool R.ok ∧ wx.heap[g]? = some (.cells #[.int .i64 R.r, .int .i64 R.t, .slice a1 R.g.length c1, .bool R.l, .int .i64 R.a] 25 (0, 0)) ∧ OwnG wx W36.heap.size a1 c1 R.g ∧ Below W36.heap.size W36 wx ∧ W36.heap.size ≤ g)
    case first =>
      go_region_held3 (fun v => v.cell? ⟨w34.heap.size, 0, none⟩ = some (.int .i64 r0) ∧ v.cell? ⟨w34.heap.size, 1, none⟩ = some (.int .i64 t0) ∧ v.cell? ⟨w34.heap.size, 2, none⟩ = some (.slice a30 z0.length c31) ∧ v.cell? ⟨w34.heap.size, 3, none⟩ = some (.bool l0) ∧ v.cell? ⟨w34.heap.size, 4, none⟩ = some (.int .i64 g0) ∧ v.cell? ⟨w.heap.size + 1, 0, none⟩ = some (.int .i64 gb1) ∧ v.cell? ⟨w.heap.size + 1, 1, none⟩ = some (.int .i64 gc1) ∧ Below W36.heap.size W36 v)
        ((refine HSq39.out _ ?_; go_split_ands; repeat (first | with_reducible assumption | with_reducible exact Below.refl _ _ | with_reducible refine Below.drew ?_ | with_reducible refine below_allocB ?_ hBq39 _ | (with_reducible refine Below.setCell ?_ ?hs _; case hs => (first | (simp; done) | (simp; omega))))))
        (first
          | (go_at_call 24
             refine name_calls fun Wc hWc => ?_
             have bc : Below W36.heap.size W36 Wc := by rw [hWc]; repeat (first | with_reducible assumption | with_reducible exact Below.refl _ _ | with_reducible refine Below.drew ?_ | with_reducible refine below_allocB ?_ hBq39 _ | (with_reducible refine Below.setCell ?_ ?hs _; case hs => (first | (simp; done) | (simp; omega))))
             refine (toGot_any gb1 gc1 Wc).mono ?_
             rintro e wBq39 ⟨rfl, b0Bq39⟩
             have bBq39 : Below W36.heap.size W36 wBq39 := bc.trans (b0Bq39.mono bc.size)
             have zBq39 := bBq39.size
             first
               | (have h8n : Wc.heap[W36.heap.size]? = some (.cells #[.int .i64 0, .int .i64 0, .slice none 0 0, .bool false, .int .i64 0] 25 (0, 0)) := (by rw [hWc]; exact heap_new_at W36 _ _ rfl); have h8Bq39 := (b0Bq39.block _ (box_lt h8n)).trans h8n)
               | skip
             clear hWc bc b0Bq39
             skip)
          | (go_at_call 15
             refine name_calls fun Wc hWc => ?_
             have bc : Below W36.heap.size W36 Wc := by rw [hWc]; repeat (first | with_reducible assumption | with_reducible exact Below.refl _ _ | with_reducible refine Below.drew ?_ | with_reducible refine below_allocB ?_ hBq39 _ | (with_reducible refine Below.setCell ?_ ?hs _; case hs => (first | (simp; done) | (simp; omega))))
             refine (HIp.out Wc a30 c31 (own_cells (own_below o32 bc)) (own_nilcap o32)).mono ?_
             rintro e wCq39 ⟨aC, cC, rfl, oC, b0Cq39⟩
             have bCq39 : Below W36.heap.size W36 wCq39 := bc.trans (b0Cq39.mono bc.size)
             have zCq39 := bCq39.size
             first
               | (have h8n := h8Bq39; rw [← hWc] at h8n; have h8Cq39 := (b0Cq39.block _ (box_lt h8n)).trans h8n; obtain ⟨e0, e1, e2, e3, e4, f0, f1, f2, f3, f4⟩ := five_cells h8Cq39)
               | (have h8n : Wc.heap[wBq39.heap.size]? = some (.cells #[.int .i64 0, .int .i64 0, .slice none 0 0, .bool false, .int .i64 0] 25 (0, 0)) := (by rw [hWc]; exact heap_new_at wBq39 _ _ rfl); have h8Cq39 := (b0Cq39.block _ (box_lt h8n)).trans h8n; obtain ⟨e0, e1, e2, e3, e4, f0, f1, f2, f3, f4⟩ := five_cells h8Cq39)
               | skip
             have oC2 := own_base oC bc.size
             clear hWc bc b0Cq39
             skip))
      all_goals
        go_wp2
        go_meet
        case rel =>
          refine ⟨_, aC, cC, rfl, rfl, ?_, ?_, ?_, ?_⟩
          · first | exact five_set (five_set (five_set (five_set (five_set h8Cq39 _) _) _) _) _ | exact heap_new_at wCq39 _ _ rfl
          · first
              | (have hn := own_box_ne oC2 h8Cq39 (by decide); exact own_set_ne (own_set_ne (own_set_ne (own_set_ne (own_set_ne oC2 _ _ hn) _ _ hn) _ _ hn) _ _ hn) _ _ hn)
              | exact World.ownsRow.alloc oC2 _
          · repeat (first | with_reducible assumption | with_reducible exact Below.refl _ _ | with_reducible refine Below.drew ?_ | with_reducible refine below_allocB ?_ hBq39 _ | (with_reducible refine Below.setCell ?_ ?hs _; case hs => (first | (simp; done) | (simp; omega))))
          · omega
    case rest =>
      obtain ⟨g40, a41, c42, rfl, rfl, H450, o43, b44, hg40⟩ := hcut
      obtain ⟨wx46, hwx46⟩ : ∃ v, v = wc := ⟨_, rfl⟩
      rw [← hwx46] at H450 o43 b44 ⊢
      clear hwx46 HSq39 hBq39
      have hlg40 := box_lt H450
      have H45 := Lib.hid H450
      clear H450
      have zwx46 := b44.size
      have B47 := B38.trans (b44.mono B38.size)
      clear B38
      replace o19 := own_below o19 b44
      replace o32 := own_below o32 b44
      replace H10 := Lib.hid ((b44.block _ (Array.getElem?_eq_some_iff.1 H10.out).1).trans H10.out)
      replace H11 := Lib.hid ((b44.block _ (Array.getElem?_eq_some_iff.1 H11.out).1).trans H11.out)
      replace H21 := Lib.hid ((b44.block _ (Array.getElem?_eq_some_iff.1 H21.out).1).trans H21.out)
      replace H37 := Lib.hid ((b44.block _ (Array.getElem?_eq_some_iff.1 H37.out).1).trans H37.out)
      have io43 := own_in o43
      obtain ⟨cc48, cc49, cc50, cc51, cc52⟩ := cells5 H45.out
      have ll53 := (Array.getElem?_eq_some_iff.1 H45.out).1
      obtain ⟨cc54, cc55, cc56, cc57, cc58⟩ := cells5 H21.out
      have ll59 := (Array.getElem?_eq_some_iff.1 H21.out).1
      go_wp2_with fail
      clear cc48 cc49 cc50 cc51 cc52 ll53 cc54 cc55 cc56 cc57 cc58 ll59
      refine (eqReceiver_any R.r R.t R.l R.a R.r R.t R.l R.a a41 a17 R.g R.g c42 c18 wx46 (own_cells o43) (own_cells o19) (by omega) (by omega)).mono ?_
      rintro e w61 ⟨rfl, b60⟩
      have zw61 := b60.size
      have B62 := B47.trans (b60.mono B47.size)
      clear B47
      replace o19 := own_below o19 b60
      replace o32 := own_below o32 b60
      replace o43 := own_below o43 b60
      replace H10 := Lib.hid ((b60.block _ (Array.getElem?_eq_some_iff.1 H10.out).1).trans H10.out)
      replace H11 := Lib.hid ((b60.block _ (Array.getElem?_eq_some_iff.1 H11.out).1).trans H11.out)
      replace H21 := Lib.hid ((b60.block _ (Array.getElem?_eq_some_iff.1 H21.out).1).trans H21.out)
      replace H37 := Lib.hid ((b60.block _ (Array.getElem?_eq_some_iff.1 H37.out).1).trans H37.out)
      replace H45 := Lib.hid ((b60.block _ (Array.getElem?_eq_some_iff.1 H45.out).1).trans H45.out)
      obtain ⟨cc63, cc64, cc65, cc66, cc67⟩ := cells5 H37.out
      have ll68 := (Array.getElem?_eq_some_iff.1 H37.out).1
      obtain ⟨cc69, cc70, cc71, cc72, cc73⟩ := cells5 H10.out
      have ll74 := (Array.getElem?_eq_some_iff.1 H10.out).1
      go_wp2_with fail
      go_region_held3 (fun v => v.cell? ⟨w34.heap.size, 0, none⟩ = some (.int .i64 r0) ∧ v.cell? ⟨w34.heap.size, 1, none⟩ = some (.int .i64 t0) ∧ v.cell? ⟨w34.heap.size, 2, none⟩ = some (.slice a30 z0.length c31) ∧ v.cell? ⟨w34.heap.size, 3, none⟩ = some (.bool l0) ∧ v.cell? ⟨w34.heap.size, 4, none⟩ = some (.int .i64 g0) ∧ v.cell? ⟨w.heap.size, 0, none⟩ = some (.int .i64 r0) ∧ v.cell? ⟨w.heap.size, 1, none⟩ = some (.int .i64 t0) ∧ v.cell? ⟨w.heap.size, 2, none⟩ = some (.slice a0 z0.length cap0) ∧ v.cell? ⟨w.heap.size, 3, none⟩ = some (.bool l0) ∧ v.cell? ⟨w.heap.size, 4, none⟩ = some (.int .i64 g0))
        (go_keep)
        (first
          | (go_at_call 23
             refine (toReceiver_any r0 t0 l0 g0 a0 z0 cap0 _ (Cells.drew (rz0.below B62)) (by omega)).mono ?_
             rintro e w75 ⟨a77, c78, rfl, o79, b800⟩
             have b80 : Below w61.heap.size w61 w75 := (Below.refl _ w61).drew.trans b800
             have cc63A := Keeps.of_below b80 _ _ _ cc63
             have cc64A := Keeps.of_below b80 _ _ _ cc64
             have cc65A := Keeps.of_below b80 _ _ _ cc65
             have cc66A := Keeps.of_below b80 _ _ _ cc66
             have cc67A := Keeps.of_below b80 _ _ _ cc67
             have cc69A := Keeps.of_below b80 _ _ _ cc69
             have cc70A := Keeps.of_below b80 _ _ _ cc70
             have cc71A := Keeps.of_below b80 _ _ _ cc71
             have cc72A := Keeps.of_below b80 _ _ _ cc72
             have cc73A := Keeps.of_below b80 _ _ _ cc73
             skip)
          | (go_at_call 25
             refine (eqReceiver_any r0 t0 l0 g0 r0 t0 l0 g0 a30 a77 z0 z0 c31 c78 _ (own_cells (own_below o32 b80)) (own_cells o79) (by omega) (by omega)).mono ?_
             rintro e w76 ⟨rfl, b81⟩
             have cc63B := Keeps.of_below b81 _ _ _ cc63A
             have cc64B := Keeps.of_below b81 _ _ _ cc64A
             have cc65B := Keeps.of_below b81 _ _ _ cc65A
             have cc66B := Keeps.of_below b81 _ _ _ cc66A
             have cc67B := Keeps.of_below b81 _ _ _ cc67A
             have cc69B := Keeps.of_below b81 _ _ _ cc69A
             have cc70B := Keeps.of_below b81 _ _ _ cc70A
             have cc71B := Keeps.of_below b81 _ _ _ cc71A
             have cc72B := Keeps.of_below b81 _ _ _ cc72A
             have cc73B := Keeps.of_below b81 _ _ _ cc73A
             skip))
      have b82 := below_join b80 b81
      clear ll68 ll74 cc63 cc63A cc63B cc64 cc64A cc64B cc65 cc65A cc65B cc66 cc66A cc66B cc67 cc67A cc67B cc69 cc69A cc69B cc70 cc70A cc70B cc71 cc71A cc71B cc72 cc72A cc72B cc73 cc73A cc73B o79
      have zw76 := b82.size
      have B83 := B62.trans (b82.mono B62.size)
      clear B62
      replace o19 := own_below o19 b82
      replace o32 := own_below o32 b82
      replace o43 := own_below o43 b82
      replace H10 := Lib.hid ((b82.block _ (Array.getElem?_eq_some_iff.1 H10.out).1).trans H10.out)
      replace H11 := Lib.hid ((b82.block _ (Array.getElem?_eq_some_iff.1 H11.out).1).trans H11.out)
      replace H21 := Lib.hid ((b82.block _ (Array.getElem?_eq_some_iff.1 H21.out).1).trans H21.out)
      replace H37 := Lib.hid ((b82.block _ (Array.getElem?_eq_some_iff.1 H37.out).1).trans H37.out)
      replace H45 := Lib.hid ((b82.block _ (Array.getElem?_eq_some_iff.1 H45.out).1).trans H45.out)
      clear b80 b81 b800
      obtain ⟨cc84, cc85, cc86, cc87, cc88⟩ := cells5 H37.out
      have ll89 := (Array.getElem?_eq_some_iff.1 H37.out).1
      go_wp2_with fail
      clear cc84 cc85 cc86 cc87 cc88 ll89
      refine (markReceiver_any _ r0 t0 l0 g0 a30 _ c31 1 _ w76 o32 (by omega) (by omega)).mono ?_
      rintro e w90 ⟨rfl, o91, g92⟩
      have zw90 := g92.size
      have B93 := below_mark B83 io32 (by omega) B83.size g92
      clear B83
      replace o19 := own_apart o19 io19 io32 (by omega) g92
      replace o43 := own_apart o43 io43 io32 (by omega) g92
      replace H10 := Lib.hid (box_mark H10.out io32 (by omega) g92)
      replace H11 := Lib.hid (box_mark H11.out io32 (by omega) g92)
      replace H21 := Lib.hid (box_mark H21.out io32 (by omega) g92)
      replace H37 := Lib.hid (box_mark H37.out io32 (by omega) g92)
      replace H45 := Lib.hid (box_mark H45.out io32 (by omega) g92)
      clear o32 g92
      clear o91
      obtain ⟨cc94, cc95, cc96, cc97, cc98⟩ := cells5 H45.out
      have ll99 := (Array.getElem?_eq_some_iff.1 H45.out).1
      obtain ⟨cc100, cc101, cc102, cc103, cc104⟩ := cells5 H21.out
      have ll105 := (Array.getElem?_eq_some_iff.1 H21.out).1
      go_wp2_with fail
      clear cc94 cc95 cc96 cc97 cc98 ll99 cc100 cc101 cc102 cc103 cc104 ll105
      refine (eqReceiver_any R.r R.t R.l R.a R.r R.t R.l R.a a41 a17 R.g R.g c42 c18 w90 (own_cells o43) (own_cells o19) (by omega) (by omega)).mono ?_
      rintro e w107 ⟨rfl, b106⟩
      have zw107 := b106.size
      have B108 := B93.trans (b106.mono B93.size)
      clear B93
      replace o19 := own_below o19 b106
      replace o43 := own_below o43 b106
      replace H10 := Lib.hid ((b106.block _ (Array.getElem?_eq_some_iff.1 H10.out).1).trans H10.out)
      replace H11 := Lib.hid ((b106.block _ (Array.getElem?_eq_some_iff.1 H11.out).1).trans H11.out)
      replace H21 := Lib.hid ((b106.block _ (Array.getElem?_eq_some_iff.1 H21.out).1).trans H21.out)
      replace H37 := Lib.hid ((b106.block _ (Array.getElem?_eq_some_iff.1 H37.out).1).trans H37.out)
      replace H45 := Lib.hid ((b106.block _ (Array.getElem?_eq_some_iff.1 H45.out).1).trans H45.out)
      obtain ⟨cc109, cc110, cc111, cc112, cc113⟩ := cells5 H45.out
      have ll114 := (Array.getElem?_eq_some_iff.1 H45.out).1
      go_wp2_with fail
      clear cc109 cc110 cc111 cc112 cc113 ll114
      refine (markReceiver_any _ R.r R.t R.l R.a a41 _ c42 1 _ w107 o43 (by omega) (by omega)).mono ?_
      rintro e w115 ⟨rfl, o116, g117⟩
      have zw115 := g117.size
      have B118 := below_mark B108 io43 (by omega) B108.size g117
      clear B108
      replace o19 := own_apart o19 io19 io43 (by omega) g117
      replace H10 := Lib.hid (box_mark H10.out io43 (by omega) g117)
      replace H11 := Lib.hid (box_mark H11.out io43 (by omega) g117)
      replace H21 := Lib.hid (box_mark H21.out io43 (by omega) g117)
      replace H37 := Lib.hid (box_mark H37.out io43 (by omega) g117)
      replace H45 := Lib.hid (box_grow H45.out g117 (own_block_of (own_box_ne o43 H45.out (by decide))))
      clear o43 g117
      obtain ⟨cc119, cc120, cc121, cc122, cc123⟩ := cells5 H45.out
      have ll124 := (Array.getElem?_eq_some_iff.1 H45.out).1
      go_wp2_with fail
      clear cc119 cc120 cc121 cc122 cc123 ll124
      refine (heldReceiver_any R.r R.t R.l R.a a41 _ c42 1 w115 (own_cells o116) (by omega) (by omega)).mono ?_
      rintro e w126 ⟨rfl, b125⟩
      have zw126 := b125.size
      have B127 := B118.trans (b125.mono B118.size)
      clear B118
      replace o19 := own_below o19 b125
      replace o116 := own_below o116 b125
      replace H10 := Lib.hid ((b125.block _ (Array.getElem?_eq_some_iff.1 H10.out).1).trans H10.out)
      replace H11 := Lib.hid ((b125.block _ (Array.getElem?_eq_some_iff.1 H11.out).1).trans H11.out)
      replace H21 := Lib.hid ((b125.block _ (Array.getElem?_eq_some_iff.1 H21.out).1).trans H21.out)
      replace H37 := Lib.hid ((b125.block _ (Array.getElem?_eq_some_iff.1 H37.out).1).trans H37.out)
      replace H45 := Lib.hid ((b125.block _ (Array.getElem?_eq_some_iff.1 H45.out).1).trans H45.out)
      go_wp2_with fail
      obtain ⟨p0q128, p1q128, p2q128, p3q128, p4q128⟩ := cells5 H10.out
      obtain ⟨r0q128, r1q128⟩ := cells2 H11.out
      have HSq128 := Lib.hid (fun (v : World) (hv : Below w126.heap.size w126 v) => (⟨(hv.cell (p := ⟨w.heap.size, 0, none⟩) (box_lt H10.out)).trans p0q128, (hv.cell (p := ⟨w.heap.size, 1, none⟩) (box_lt H10.out)).trans p1q128, (hv.cell (p := ⟨w.heap.size, 2, none⟩) (box_lt H10.out)).trans p2q128, (hv.cell (p := ⟨w.heap.size, 3, none⟩) (box_lt H10.out)).trans p3q128, (hv.cell (p := ⟨w.heap.size, 4, none⟩) (box_lt H10.out)).trans p4q128, (hv.cell (p := ⟨w.heap.size + 1, 0, none⟩) (box_lt H11.out)).trans r0q128, (hv.cell (p := ⟨w.heap.size + 1, 1, none⟩) (box_lt H11.out)).trans r1q128, hv⟩ : v.cell? ⟨w.heap.size, 0, none⟩ = some (.int .i64 r0) ∧ v.cell? ⟨w.heap.size, 1, none⟩ = some (.int .i64 t0) ∧ v.cell? ⟨w.heap.size, 2, none⟩ = some (.slice a0 z0.length cap0) ∧ v.cell? ⟨w.heap.size, 3, none⟩ = some (.bool l0) ∧ v.cell? ⟨w.heap.size, 4, none⟩ = some (.int .i64 g0) ∧ v.cell? ⟨w.heap.size + 1, 0, none⟩ = some (.int .i64 gb1) ∧ v.cell? ⟨w.heap.size + 1, 1, none⟩ = some (.int .i64 gc1) ∧ Below w126.heap.size w126 v))
      have hBq128 : w126.heap.size ≤ w126.heap.size := Nat.le_refl _
      clear p0q128 p1q128 p2q128 p3q128 p4q128 r0q128 r1q128
      go_cut [14, 15] from 16 (fun s6 s7 wx => ∃ g a1 c1, s6 = .pointer (some ⟨g, 0, none⟩) ∧ s7 = .bool R.ok ∧ wx.heap[g]? = some (.cells #[.int .i64 R.r, .int .i64 R.t, .slice a1 R.g.length c1, .bool R.l, .int .i64 R.a] 25 (0, 0)) ∧ OwnG wx w126.heap.size a1 c1 R.g ∧ Below w126.heap.size w126 wx ∧ w126.heap.size ≤ g)
      case first =>
        go_region_held3 (fun v => v.cell? ⟨w.heap.size, 0, none⟩ = some (.int .i64 r0) ∧ v.cell? ⟨w.heap.size, 1, none⟩ = some (.int .i64 t0) ∧ v.cell? ⟨w.heap.size, 2, none⟩ = some (.slice a0 z0.length cap0) ∧ v.cell? ⟨w.heap.size, 3, none⟩ = some (.bool l0) ∧ v.cell? ⟨w.heap.size, 4, none⟩ = some (.int .i64 g0) ∧ v.cell? ⟨w.heap.size + 1, 0, none⟩ = some (.int .i64 gb1) ∧ v.cell? ⟨w.heap.size + 1, 1, none⟩ = some (.int .i64 gc1) ∧ Below w126.heap.size w126 v)
          ((refine HSq128.out _ ?_; go_split_ands; repeat (first | with_reducible assumption | with_reducible exact Below.refl _ _ | with_reducible refine Below.drew ?_ | with_reducible refine below_allocB ?_ hBq128 _ | (with_reducible refine Below.setCell ?_ ?hs _; case hs => (first | (simp; done) | (simp; omega))))))
          (first
            | (go_at_call 23
               refine name_calls fun Wc hWc => ?_
               have bc : Below w126.heap.size w126 Wc := by rw [hWc]; repeat (first | with_reducible assumption | with_reducible exact Below.refl _ _ | with_reducible refine Below.drew ?_ | with_reducible refine below_allocB ?_ hBq128 _ | (with_reducible refine Below.setCell ?_ ?hs _; case hs => (first | (simp; done) | (simp; omega))))
               refine (toReceiver_any r0 t0 l0 g0 a0 z0 cap0 Wc (rz0.below (B127.trans (bc.mono B127.size))) (by omega)).mono ?_
               rintro e wAq128 ⟨aA, cA, rfl, oA, b0Aq128⟩
               have bAq128 : Below w126.heap.size w126 wAq128 := bc.trans (b0Aq128.mono bc.size)
               have zAq128 := bAq128.size
               first
                 | (have h8n : Wc.heap[w126.heap.size]? = some (.cells #[.int .i64 0, .int .i64 0, .slice none 0 0, .bool false, .int .i64 0] 25 (0, 0)) := (by rw [hWc]; exact heap_new_at w126 _ _ rfl); have h8Aq128 := (b0Aq128.block _ (box_lt h8n)).trans h8n)
                 | skip
               have oA1 : OwnG wAq128 w126.heap.size aA cA z0 := OwnG.base oA bc.size
               clear hWc bc b0Aq128
               skip)
            | (go_at_call 24
               refine name_calls fun Wc hWc => ?_
               have bc : Below w126.heap.size w126 Wc := by rw [hWc]; repeat (first | with_reducible assumption | with_reducible exact Below.refl _ _ | with_reducible refine Below.drew ?_ | with_reducible refine below_allocB ?_ hBq128 _ | (with_reducible refine Below.setCell ?_ ?hs _; case hs => (first | (simp; done) | (simp; omega))))
               have oA2 : OwnG Wc w126.heap.size aA cA z0 := by rw [hWc]; first | exact oA1 | exact World.ownsRow.alloc oA1 _
               refine (toGot_any gb1 gc1 Wc).mono ?_
               rintro e wBq128 ⟨rfl, b0Bq128⟩
               have bBq128 : Below w126.heap.size w126 wBq128 := bc.trans (b0Bq128.mono bc.size)
               have zBq128 := bBq128.size
               first
                 | (have h8n := h8Aq128; rw [← hWc] at h8n; have h8Bq128 := (b0Bq128.block _ (box_lt h8n)).trans h8n)
                 | (have h8n : Wc.heap[wAq128.heap.size]? = some (.cells #[.int .i64 0, .int .i64 0, .slice none 0 0, .bool false, .int .i64 0] 25 (0, 0)) := (by rw [hWc]; exact heap_new_at wAq128 _ _ rfl); have h8Bq128 := (b0Bq128.block _ (box_lt h8n)).trans h8n)
                 | skip
               have oB := own_below oA2 b0Bq128
               clear hWc bc b0Bq128
               skip)
            | (go_at_call 15
               refine name_calls fun Wc hWc => ?_
               have bc : Below w126.heap.size w126 Wc := by rw [hWc]; repeat (first | with_reducible assumption | with_reducible exact Below.refl _ _ | with_reducible refine Below.drew ?_ | with_reducible refine below_allocB ?_ hBq128 _ | (with_reducible refine Below.setCell ?_ ?hs _; case hs => (first | (simp; done) | (simp; omega))))
               refine (HIp.out Wc aA cA (by rw [hWc]; first | exact own_cells oB | exact own_cells (World.ownsRow.alloc oB _)) (own_nilcap oB)).mono ?_
               rintro e wCq128 ⟨aC, cC, rfl, oC, b0Cq128⟩
               have bCq128 : Below w126.heap.size w126 wCq128 := bc.trans (b0Cq128.mono bc.size)
               have zCq128 := bCq128.size
               first
                 | (have h8n := h8Bq128; rw [← hWc] at h8n; have h8Cq128 := (b0Cq128.block _ (box_lt h8n)).trans h8n; obtain ⟨e0, e1, e2, e3, e4, f0, f1, f2, f3, f4⟩ := five_cells h8Cq128)
                 | (have h8n : Wc.heap[wBq128.heap.size]? = some (.cells #[.int .i64 0, .int .i64 0, .slice none 0 0, .bool false, .int .i64 0] 25 (0, 0)) := (by rw [hWc]; exact heap_new_at wBq128 _ _ rfl); have h8Cq128 := (b0Cq128.block _ (box_lt h8n)).trans h8n; obtain ⟨e0, e1, e2, e3, e4, f0, f1, f2, f3, f4⟩ := five_cells h8Cq128)
                 | skip
               have oC2 := own_base oC bc.size
               clear hWc bc b0Cq128
               skip))
        all_goals
          go_wp2
          go_meet
          case rel =>
            refine ⟨_, aC, cC, rfl, rfl, ?_, ?_, ?_, ?_⟩
            · first | exact five_set (five_set (five_set (five_set (five_set h8Cq128 _) _) _) _) _ | exact heap_new_at wCq128 _ _ rfl
            · first
                | (have hn := own_box_ne oC2 h8Cq128 (by decide); exact own_set_ne (own_set_ne (own_set_ne (own_set_ne (own_set_ne oC2 _ _ hn) _ _ hn) _ _ hn) _ _ hn) _ _ hn)
                | exact World.ownsRow.alloc oC2 _
            · repeat (first | with_reducible assumption | with_reducible exact Below.refl _ _ | with_reducible refine Below.drew ?_ | with_reducible refine below_allocB ?_ hBq128 _ | (with_reducible refine Below.setCell ?_ ?hs _; case hs => (first | (simp; done) | (simp; omega))))
            · omega
      case rest =>
        obtain ⟨g129, a130, c131, rfl, rfl, H1340, o132, b133, hg129⟩ := hcut
        obtain ⟨wx135, hwx135⟩ : ∃ v, v = wc := ⟨_, rfl⟩
        rw [← hwx135] at H1340 o132 b133 ⊢
        clear hwx135 HSq128 hBq128
        have hlg129 := box_lt H1340
        have H134 := Lib.hid H1340
        clear H1340
        have zwx135 := b133.size
        have B136 := B127.trans (b133.mono B127.size)
        clear B127
        replace o19 := own_below o19 b133
        replace o116 := own_below o116 b133
        replace H10 := Lib.hid ((b133.block _ (Array.getElem?_eq_some_iff.1 H10.out).1).trans H10.out)
        replace H11 := Lib.hid ((b133.block _ (Array.getElem?_eq_some_iff.1 H11.out).1).trans H11.out)
        replace H21 := Lib.hid ((b133.block _ (Array.getElem?_eq_some_iff.1 H21.out).1).trans H21.out)
        replace H37 := Lib.hid ((b133.block _ (Array.getElem?_eq_some_iff.1 H37.out).1).trans H37.out)
        replace H45 := Lib.hid ((b133.block _ (Array.getElem?_eq_some_iff.1 H45.out).1).trans H45.out)
        have io132 := own_in o132
        obtain ⟨cc137, cc138, cc139, cc140, cc141⟩ := cells5 H134.out
        have ll142 := (Array.getElem?_eq_some_iff.1 H134.out).1
        obtain ⟨cc143, cc144, cc145, cc146, cc147⟩ := cells5 H21.out
        have ll148 := (Array.getElem?_eq_some_iff.1 H21.out).1
        go_wp2_with fail
        clear cc137 cc138 cc139 cc140 cc141 ll142 cc143 cc144 cc145 cc146 cc147 ll148
        refine (eqReceiver_any R.r R.t R.l R.a R.r R.t R.l R.a a130 a17 R.g R.g c131 c18 wx135 (own_cells o132) (own_cells o19) (by omega) (by omega)).mono ?_
        rintro e w150 ⟨rfl, b149⟩
        have zw150 := b149.size
        have B151 := B136.trans (b149.mono B136.size)
        clear B136
        replace o19 := own_below o19 b149
        replace o116 := own_below o116 b149
        replace o132 := own_below o132 b149
        replace H10 := Lib.hid ((b149.block _ (Array.getElem?_eq_some_iff.1 H10.out).1).trans H10.out)
        replace H11 := Lib.hid ((b149.block _ (Array.getElem?_eq_some_iff.1 H11.out).1).trans H11.out)
        replace H21 := Lib.hid ((b149.block _ (Array.getElem?_eq_some_iff.1 H21.out).1).trans H21.out)
        replace H37 := Lib.hid ((b149.block _ (Array.getElem?_eq_some_iff.1 H37.out).1).trans H37.out)
        replace H45 := Lib.hid ((b149.block _ (Array.getElem?_eq_some_iff.1 H45.out).1).trans H45.out)
        replace H134 := Lib.hid ((b149.block _ (Array.getElem?_eq_some_iff.1 H134.out).1).trans H134.out)
        clear o132
        obtain ⟨cc152, cc153, cc154, cc155, cc156⟩ := cells5 H45.out
        have ll157 := (Array.getElem?_eq_some_iff.1 H45.out).1
        go_wp2_with fail
        clear cc152 cc153 cc154 cc155 cc156 ll157
        refine (heldReceiver_any R.r R.t R.l R.a a41 _ c42 1 w150 (own_cells o116) (by omega) (by omega)).mono ?_
        rintro e w159 ⟨rfl, b158⟩
        have zw159 := b158.size
        have B160 := B151.trans (b158.mono B151.size)
        clear B151
        replace o19 := own_below o19 b158
        replace o116 := own_below o116 b158
        replace H10 := Lib.hid ((b158.block _ (Array.getElem?_eq_some_iff.1 H10.out).1).trans H10.out)
        replace H11 := Lib.hid ((b158.block _ (Array.getElem?_eq_some_iff.1 H11.out).1).trans H11.out)
        replace H21 := Lib.hid ((b158.block _ (Array.getElem?_eq_some_iff.1 H21.out).1).trans H21.out)
        replace H37 := Lib.hid ((b158.block _ (Array.getElem?_eq_some_iff.1 H37.out).1).trans H37.out)
        replace H45 := Lib.hid ((b158.block _ (Array.getElem?_eq_some_iff.1 H45.out).1).trans H45.out)
        replace H134 := Lib.hid ((b158.block _ (Array.getElem?_eq_some_iff.1 H134.out).1).trans H134.out)
        go_wp2
        go_ret
        exact ⟨rfl, B160⟩

set_option linter.unusedVariables false in
set_option maxRecDepth 100000 in
theorem FnExactRecvPut_lifted (os : Os) (started : os.Started) (H : Type) (enc : TypeId × Value → H) :
    ReturnsInHanded {} Try.checked os 7 .any (Rows.fnExactRecvPutSpec.pre6 enc Try.prog Try.f7 Rows.fnExactRecvPutRow.domain false) (Rows.fnExactRecvPutSpec.post enc Try.prog Try.f7 false true false false) := by
  refine returnsInHanded_of_change (C := Try.checked) own_knob started (by kernel_rfl) Try.func7
    (ChangeSpec.witness6 (enc := enc) (C := Try.checked) false ⟨#[], #[.agg #[.int .i64 0, .int .i64 0, .slice none 0 0, .bool false, .int .i64 0], .agg #[.int .i64 0, .int .i64 0]], []⟩ 8 (by kernel_rfl) (by kernel_rfl) (by kernel_rfl) (by kernel_rfl)) ?_
  intro W base args ds gs before hval0 hW hcnd _
  have hval : ∀ (j : Nat) t v, Try.f7.params[j]? = some t → args[j]? = some v → Value.okWide Try.prog W .any base t v := hval0
  have hW' := hW
  obtain ⟨p, q, hA0, hV, rfl, hfz, hnd⟩ := hW
  have hA : DataW.TrodAll enc Try.prog W 0 (fun _ => true) true Try.f7.params.toList args.toList ds p := hA0
  rw [Try.params7] at hA hval
  obtain ⟨v0, vs0, d0, ds0, p0, q0, hargs, rfl, rfl, h0, r0⟩ := trodAll_cons hA
  obtain ⟨v1, vs1, d1, ds1, p1, q1, rfl, rfl, rfl, h1, r1⟩ := trodAll_cons r0
  obtain ⟨rfl, rfl, rfl⟩ := trodAll_nil r1
  obtain rfl : args = #[v0, v1] := by cases args; simp_all
  obtain ⟨rfl, rfl⟩ := trodVars_none hV
  have k0 := h0
  have lt0 : ∀ x ∈ p0, x.block < W.heap.size := by obtain ⟨m, hm⟩ := k0; exact DataW.trod_lt m _ _ _ hm
  obtain ⟨rm0, tr0, ls0, ag0, a0, cap0, z0, rfl, lc0, lm0, rz0⟩ := rd_receiver (hval 0 41 v0 rfl rfl) h0
  have k1 := h1
  have lt1 : ∀ x ∈ p1, x.block < W.heap.size := by obtain ⟨m, hm⟩ := k1; exact DataW.trod_lt m _ _ _ hm
  obtain ⟨gb1, gc1, rfl⟩ := rd_got (hval 1 42 v1 rfl rfl) h1
  clear hA0 hval0
  refine (FnExactRecvPut_walk rm0 tr0 ls0 ag0 a0 z0 cap0 gb1 gc1 W rz0 lc0 lm0 ).mono fun e W' ⟨he, bel⟩ => ?_
  subst he
  exact ⟨_, rfl, _, _, _, [], _, [], hW', trodAll_mk1 (shut_bool Try.underlying4 _), (trodAll_cons_mk (Below.trod laid_out (by kernel_rfl) (of_decide_eq_true (by kernel_rfl)) k0 bel lt0) (trodAll_cons_mk (Below.trod laid_out (by kernel_rfl) (of_decide_eq_true (by kernel_rfl)) k1 bel lt1) trodAll_mk0)), rfl, bel.frame _, fun h => by cases h⟩

theorem FnExactRecvPut_holds : Rows.FnExactRecvPutSaid :=
  OpenClaim.holds_of_wide 7 Try.f7 rfl rfl rfl rfl rfl rfl rfl ⟨rfl, rfl, rfl, rfl, rfl⟩ rfl rfl rfl rfl rfl (by kernel_rfl) Try.func7 (by kernel_rfl)
    (of_decide_eq_true (by kernel_rfl)) (by unfold Func.isWrapper; first | (rw [if_pos (by decide +kernel)]; kernel_rfl) | (rw [if_neg (by decide +kernel)]; exact ⟨rfl, rfl⟩))
    (fun os started H enc _ => FnExactRecvPut_lifted os started H enc)
end Go.Proofs.Ytmmdbbnmifpciaa
