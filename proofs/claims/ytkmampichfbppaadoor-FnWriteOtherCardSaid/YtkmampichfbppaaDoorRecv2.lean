/- Receivers: validity of both. -/
import Derived.Test.YtkmampichfbppaaDoorRecv
namespace Go.Proofs.YtkmampichfbppaaDoor
open Go.RowKit

theorem five_cells {w : World} {b : Nat} {u v x y z : Value} {t : TypeId} (h : w.heap[b]? = some (.cells #[u, v, x, y, z] t (0, 0))) :
    w.cell? ⟨b, 0, none⟩ = some u ∧ w.cell? ⟨b, 1, none⟩ = some v ∧ w.cell? ⟨b, 2, none⟩ = some x ∧ w.cell? ⟨b, 3, none⟩ = some y ∧ w.cell? ⟨b, 4, none⟩ = some z ∧ w.frozen? ⟨b, 0, none⟩ = false ∧ w.frozen? ⟨b, 1, none⟩ = false ∧ w.frozen? ⟨b, 2, none⟩ = false ∧ w.frozen? ⟨b, 3, none⟩ = false ∧ w.frozen? ⟨b, 4, none⟩ = false := by
  simp [World.cell?, World.frozen?, h]
theorem cells5 {w : World} {b : Nat} {u v x y z : Value} {t : TypeId} (h : w.heap[b]? = some (.cells #[u, v, x, y, z] t (0, 0))) :
    w.cell? ⟨b, 0, none⟩ = some u ∧ w.cell? ⟨b, 1, none⟩ = some v ∧ w.cell? ⟨b, 2, none⟩ = some x ∧ w.cell? ⟨b, 3, none⟩ = some y ∧ w.cell? ⟨b, 4, none⟩ = some z := by
  simp [World.cell?, h]
set_option maxHeartbeats 1000000 in
theorem implRecvValid_any (r t : Int) (ao : Option Addr) (gs : List Gt) (c : Nat) (lost : Bool) (a : Int) (w : World) (hx : Gts w ao gs) (_lx : gs.length ≤ 4611686018427387904) :
    Calls Tryd.prog 43 #[.agg #[.int .i64 r, .int .i64 t, .slice ao gs.length c, .bool lost, .int .i64 a]] w fun e w' => e = .returned (.bool (recvB r t gs a)) ∧ Below w.heap.size w w' := by
  have b0 : Below w.heap.size w (w.alloc (.cells #[.int .i64 r, .int .i64 t, .slice ao gs.length c, .bool lost, .int .i64 a] 27)) := (Below.refl _ _).alloc (Nat.le_refl _) _
  by_cases h1 : r < 1
  · have HF : Hid (recvB r t gs a = false) := Lib.hid (recvB_no (by omega))
    go_enter Tryd.func43, Tryd.ntmps43
    go_wp2
    all_goals
      go_ret
      exact ⟨ret_bool HF.out.symm, b0⟩
  have h1' : 1 ≤ r := by omega
  have d1 : decide (r < 1) = false := by simpa using h1'
  by_cases h2 : 16 < r
  · clear h1
    have HF : Hid (recvB r t gs a = false) := Lib.hid (recvB_no (by omega))
    go_enter Tryd.func43, Tryd.ntmps43
    go_wp2
    all_goals
      go_ret
      exact ⟨ret_bool HF.out.symm, b0⟩
  have h2' : r ≤ 16 := by omega
  have d2 : decide (16 < r) = false := by simpa using h2'
  by_cases h3 : t < 1
  · clear h1 h2
    have HF : Hid (recvB r t gs a = false) := Lib.hid (recvB_no (by omega))
    go_enter Tryd.func43, Tryd.ntmps43
    go_wp2
    all_goals
      go_ret
      exact ⟨ret_bool HF.out.symm, b0⟩
  have h3' : 1 ≤ t := by omega
  have d3 : decide (t < 1) = false := by simpa using h3'
  by_cases h4 : r < t
  · clear h1 h2 h3
    have HF : Hid (recvB r t gs a = false) := Lib.hid (recvB_no (by omega))
    go_enter Tryd.func43, Tryd.ntmps43
    go_wp2
    all_goals
      go_ret
      exact ⟨ret_bool HF.out.symm, b0⟩
  have h4' : t ≤ r := by omega
  have d4 : decide (r < t) = false := by simpa using h4'
  by_cases h5 : r < (gs.length : Int)
  · clear h1 h2 h3 h4
    have HF : Hid (recvB r t gs a = false) := Lib.hid (recvB_no (by omega))
    go_enter Tryd.func43, Tryd.ntmps43
    go_wp2
    all_goals
      go_ret
      exact ⟨ret_bool HF.out.symm, b0⟩
  have h5' : (gs.length : Int) ≤ r := by omega
  have d5 : decide (r < (gs.length : Int)) = false := by simpa using h5'
  by_cases h6 : a < 0
  · clear h1 h2 h3 h4 h5
    have HF : Hid (recvB r t gs a = false) := Lib.hid (recvB_no (by omega))
    go_enter Tryd.func43, Tryd.ntmps43
    go_wp2
    all_goals
      go_ret
      exact ⟨ret_bool HF.out.symm, b0⟩
  have h6' : 0 ≤ a := by omega
  have d6 : decide (a < 0) = false := by simpa using h6'
  by_cases h7 : 99 < a
  · clear h1 h2 h3 h4 h5 h6
    have HF : Hid (recvB r t gs a = false) := Lib.hid (recvB_no (by omega))
    go_enter Tryd.func43, Tryd.ntmps43
    go_wp2
    all_goals
      go_ret
      exact ⟨ret_bool HF.out.symm, b0⟩
  have h7' : a ≤ 99 := by omega
  have d7 : decide (99 < a) = false := by simpa using h7'
  clear h1 h2 h3 h4 h5 h6 h7
  have HF : Hid (recvB r t gs a = gtsB gs) := Lib.hid (by simp only [recvB, decide_eq_true (show 1 ≤ r ∧ r ≤ 16 ∧ 1 ≤ t ∧ t ≤ r ∧ (gs.length : Int) ≤ r ∧ 0 ≤ a ∧ a ≤ 99 by omega), Bool.true_and])
  rw [HF.out]
  go_enter Tryd.func43, Tryd.ntmps43
  go_wp2
  go_loopw [44] (fun i wr => ∃ k : Nat, k ≤ gs.length ∧ i = .int .i64 k ∧ Below w.heap.size w wr ∧ gtsB (gs.take k) = true) (fun i _ => gs.length - (intOf i).toNat)
  case atStart => exact ⟨0, Nat.zero_le _, rfl, b0, rfl⟩
  case round =>
    clear b0
    obtain ⟨k, hk, rfl, hb, hall⟩ := hrel
    have HA := Lib.hid hall
    clear hall
    by_cases hlt : k < gs.length
    · obtain ⟨b, off, ⟨gb, gc⟩, rfl, er, _, x0, x1⟩ := (hx.below hb).at_ hlt
      have ER := Lib.hid er
      clear er hx
      dsimp only at x0 x1
      cases hv : gtB ⟨gb, gc⟩
      · go_wp2_with fail
        refine (gotValid_any gb gc _).mono ?_
        rintro e w1 ⟨rfl, b1⟩
        have hb2 := (hb.alloc hb.size (.cells #[.int .i64 gb, .int .i64 gc] 82)).trans (b1.mono (by simp; have := hb.size; omega))
        go_wp2
        go_ret
        exact ⟨ret_bool (gts_no ER.out hv).symm, hb2⟩
      · go_wp2_with fail
        refine (gotValid_any gb gc _).mono ?_
        rintro e w1 ⟨rfl, b1⟩
        have hb2 := (hb.alloc hb.size (.cells #[.int .i64 gb, .int .i64 gc] 82)).trans (b1.mono (by simp; have := hb.size; omega))
        go_wp2
        go_roundw
        case rel => exact ⟨k + 1, by omega, by go_num, hb2, gts_step ER.out HA.out hv⟩
        case measure => simp [intOf]; omega
    · have he : k = gs.length := by omega
      go_wp2
      go_ret
      refine ⟨ret_bool ?_, hb⟩
      have := HA.out
      rw [he, List.take_length] at this
      exact this.symm
set_option maxHeartbeats 1000000 in
theorem specRecvValid_any (r t : Int) (ao : Option Addr) (gs : List Gt) (c : Nat) (lost : Bool) (a : Int) (w : World) (hx : Gts w ao gs) (lx : gs.length ≤ 4611686018427387904) :
    Calls Tryd.prog 41 #[.agg #[.int .i64 r, .int .i64 t, .slice ao gs.length c, .bool lost, .int .i64 a]] w fun e w' => e = .returned (.bool (recvB r t gs a)) ∧ Below w.heap.size w w' := by
  have b0 : Below w.heap.size w (w.alloc (.cells #[.int .i64 r, .int .i64 t, .slice ao gs.length c, .bool lost, .int .i64 a] 27)) := (Below.refl _ _).alloc (Nat.le_refl _) _
  have H0 := heap_new_at w (.cells #[.int .i64 r, .int .i64 t, .slice ao gs.length c, .bool lost, .int .i64 a] 27) _ rfl
  go_enter Tryd.func41, Tryd.ntmps41
  go_wp2
  go_loopw [3] (fun i wr => ∃ k : Nat, k ≤ gs.length ∧ i = .int .i64 k ∧ Below w.heap.size w wr ∧ gtsB (gs.take k) = true ∧ wr.heap[w.heap.size]? = some (.cells #[.int .i64 r, .int .i64 t, .slice ao gs.length c, .bool lost, .int .i64 a] 27 (0, 0))) (fun i _ => gs.length - (intOf i).toNat)
  case atStart => exact ⟨0, Nat.zero_le _, rfl, b0, rfl, H0⟩
  case round =>
    clear b0 H0
    obtain ⟨k, hk, rfl, hb, hall, hH⟩ := hrel
    have HA := Lib.hid hall
    clear hall
    obtain ⟨c0, c1, c2, c3, c4⟩ := cells5 hH
    by_cases hlt : k < gs.length
    · obtain ⟨b, off, ⟨gb, gc⟩, rfl, er, _, x0, x1⟩ := (hx.below hb).at_ hlt
      have ER := Lib.hid er
      clear er hx
      dsimp only at x0 x1
      cases hv : gtB ⟨gb, gc⟩
      · go_wp2_with fail
        refine (l11Got_any gb gc _).mono ?_
        rintro e w1 ⟨rfl, b1⟩
        have hb2 := hb.trans (b1.mono hb.size)
        go_wp2
        go_ret
        exact ⟨ret_bool (by simp [recvB, gts_no ER.out hv]), hb2⟩
      · go_wp2_with fail
        refine (l11Got_any gb gc _).mono ?_
        rintro e w1 ⟨rfl, b1⟩
        have hb2 := hb.trans (b1.mono hb.size)
        have hH2 := (b1.block _ (box_lt hH)).trans hH
        clear c0 c1 c2 c3 c4
        go_wp2
        go_roundw
        case rel => exact ⟨k + 1, by omega, by go_num, hb2, gts_step ER.out HA.out hv, hH2⟩
        case measure => simp [intOf]; omega
    · have he : k = gs.length := by omega
      have hge : (gs.length : Int) ≤ (k : Int) := by omega
      have hG := HA.out
      rw [he, List.take_length] at hG
      clear hlt HA
      cases h1 : inB r 1 16
      · go_wp2_with fail
        refine (l6In_any r 1 16 _).mono ?_
        rintro e w1 ⟨rfl, rfl⟩
        go_wp2
        go_ret
        exact ⟨ret_bool (recvB_no (by simp [inB] at h1; omega)).symm, hb⟩
      cases h2 : inB t 1 r
      · go_wp2_with fail
        refine (l6In_any r 1 16 _).mono ?_
        rintro e w1 ⟨rfl, rfl⟩
        go_wp2_with fail
        refine (l6In_any t 1 r _).mono ?_
        rintro e w1 ⟨rfl, rfl⟩
        go_wp2
        go_ret
        exact ⟨ret_bool (recvB_no (by simp [inB] at h2; omega)).symm, hb⟩
      by_cases h3 : (gs.length : Int) ≤ r
      case neg =>
        have h3' : r < (gs.length : Int) := by omega
        have hd : decide ((gs.length : Int) ≤ r) = false := by simpa using h3
        clear h3
        go_wp2_with fail
        refine (l6In_any r 1 16 _).mono ?_
        rintro e w1 ⟨rfl, rfl⟩
        go_wp2_with fail
        refine (l6In_any t 1 r _).mono ?_
        rintro e w1 ⟨rfl, rfl⟩
        go_wp2
        go_ret
        exact ⟨ret_bool (recvB_no (by omega)).symm, hb⟩
      have HF : Hid (recvB r t gs a = inB a 0 99) := Lib.hid (by
        rw [Bool.eq_iff_iff]
        simp [inB] at h1 h2
        simp [recvB, inB, hG]
        omega)
      go_wp2_with fail
      refine (l6In_any r 1 16 _).mono ?_
      rintro e w1 ⟨rfl, rfl⟩
      go_wp2_with fail
      refine (l6In_any t 1 r _).mono ?_
      rintro e w1 ⟨rfl, rfl⟩
      go_wp2_with fail
      refine (l6In_any a 0 99 _).mono ?_
      rintro e w1 ⟨rfl, rfl⟩
      go_wp2
      go_ret
      exact ⟨ret_bool HF.out.symm, hb⟩
end Go.Proofs.YtkmampichfbppaaDoor
