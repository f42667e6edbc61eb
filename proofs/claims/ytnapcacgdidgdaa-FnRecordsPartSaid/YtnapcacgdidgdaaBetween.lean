/- Records between two times: the reference's function. -/
import Derived.Test.YtnapcacgdidgdaaTreeLaw
namespace Go.Proofs.Ytnapcacgdidgdaa
open Go.RowKit

theorem OwnR.snoc1 {w : World} {base c : Nat} {ao : Option Addr} {L : List Rec} {r : Rec} (h : w.ownsRow base 27 3 (.slice ao (L.length + 1) c) (L.length + 1) (L.flatMap recCells ++ [.int .i64 r.t, .int .i64 r.w, .int .i64 r.b])) : OwnR w base ao c (L ++ [r]) := by
  have e : (L ++ [r]).flatMap recCells = L.flatMap recCells ++ [.int .i64 r.t, .int .i64 r.w, .int .i64 r.b] := by rw [List.flatMap_append]; rfl
  unfold OwnR
  rw [e, List.length_append]
  exact h
set_option maxHeartbeats 400000 in
theorem specRecordsBetween_any (ao : Option Addr) (rs : List Rec) (c : Nat) (lo hi : Int) (w : World) (hx : Recs w ao rs) (lx : rs.length ≤ 1048576) :
    Calls Try.prog 26 #[.slice ao rs.length c, .int .i64 lo, .int .i64 hi] w fun e w' => ∃ ao' c', e = .returned (.slice ao' (betL rs lo hi).length c') ∧ OwnR w' w.heap.size ao' c' (betL rs lo hi) ∧ Below w.heap.size w w' := by
  have e0 : betL rs lo hi = if recsB rs then betOf rs lo hi else [] := rfl
  have E0 := Lib.hid e0
  clear e0
  go_enter Try.func26, Try.ntmps26
  go_wp2
  go_loopw [7, 8] (fun v i wr => ∃ (k : Nat) (L : List Rec) (ao' : Option Addr) (c' : Nat), k ≤ rs.length ∧ i = .int .i64 k ∧ v = .slice ao' L.length c' ∧ OwnR wr w.heap.size ao' c' L ∧ Below w.heap.size w wr ∧ L = betOf (rs.take k) lo hi ∧ (0 < k → recsB rs = true)) (fun _ i _ => rs.length - (intOf i).toNat)
  case atStart => exact ⟨0, [], _, 0, Nat.zero_le _, rfl, rfl, World.ownsRow_made w #[] 0 (Nat.le_refl _) (by simp) (by simp), (Below.refl _ _).alloc (Nat.le_refl _) _, rfl, fun h => absurd h (by omega)⟩
  case round =>
    obtain ⟨k, L, ao', c', hk, rfl, rfl, ho, hb, hL, hkv⟩ := hrel
    have HL := Lib.hid hL
    have HK := Lib.hid hkv
    clear hL hkv
    have hll : L.length ≤ rs.length := by rw [HL.out]; exact Nat.le_trans (betOf_length _ _ _) (Nat.le_trans (List.length_take_le _ _) hk)
    by_cases hlt : k < rs.length
    · cases hv : recsB rs
      · go_wp2_with fail
        refine (specRecordsValid_any ao rs c _ (hx.below hb) (by omega)).mono ?_
        rintro e w1 ⟨rfl, hb1⟩
        go_wp2
        go_ret
        have hk0 : k = 0 := by
          rcases Nat.eq_zero_or_pos k with h | h
          · exact h
          · have := HK.out h; rw [hv] at this; cases this
        have e1 : L = betL rs lo hi := by rw [E0.out, hv, HL.out, hk0]; rfl
        rw [← e1]
        exact ⟨ao', c', rfl, ho.below hb1, hb.trans (hb1.mono hb.size)⟩
      · go_wp2_with fail
        refine (specRecordsValid_any ao rs c _ (hx.below hb) (by omega)).mono ?_
        rintro e w1 ⟨rfl, hb1⟩
        have hbn := hb.trans (hb1.mono hb.size)
        have hon := ho.below hb1
        obtain ⟨b, off, ⟨t, x, y⟩, rfl, er, _, x0, x1, x2⟩ := (hx.below hbn).at_ hlt
        have ER := Lib.hid er
        clear er hx ho hb hb1
        dsimp only at x0 x1 x2
        by_cases h1 : lo ≤ t
        case neg =>
          have h1' : t < lo := by omega
          clear h1
          go_wp2
          go_roundw
          case rel => exact ⟨k + 1, L, ao', c', by omega, by go_num, rfl, hon, hbn, by rw [betOf_miss ER.out (by dsimp only; omega), ← HL.out], by simp⟩
          case measure => simp [intOf]; omega
        by_cases h2 : t < hi
        case neg =>
          have h2' : hi ≤ t := by omega
          clear h2
          go_wp2
          go_roundw
          case rel => exact ⟨k + 1, L, ao', c', by omega, by go_num, rfl, hon, hbn, by rw [betOf_miss ER.out (by dsimp only; omega), ← HL.out], by simp⟩
          case measure => simp [intOf]; omega
        go_wp2_with (
          at_builtin
          refine name_list fun W hW => ?_
          have hoW : OwnR W w.heap.size ao' c' L := by rw [hW]; exact hon.alloc _
          have hbW : Below w.heap.size w W := by rw [hW]; exact hbn.alloc hbn.size _
          have hcW : Cells W (some ⟨w1.heap.size, 0, none⟩) [.int .i64 t, .int .i64 x, .int .i64 y] := by rw [hW]; exact cells_new _ #[.int .i64 t, .int .i64 x, .int .i64 y] _ rfl
          clear hW x0 x1 x2 hon
          refine wpList_append_row W rfl _ _ _ rfl w.heap.size 27 _ 3 24 Try.underlying23 rec_info rfl (by decide) ao' L.length c' _ (by rfl) hoW (some ⟨w1.heap.size, 0, none⟩) 1 1 [.int .i64 t, .int .i64 x, .int .i64 y] (by rfl) hcW rfl (by simp [Value.oneCell']) (by simp) (by simp only [maxLen]; omega) (by omega) hbW.size ?_
          intro ao2 c2 w2 ho2 hg2
          have hb2 := below_append hbW hoW hg2 hbW.size
          have ho3 : OwnR w2 w.heap.size ao2 c2 (L ++ [⟨t, x, y⟩]) := OwnR.snoc1 ho2
          clear hoW ho2 hg2 hcW)
        go_roundw
        case rel => exact ⟨k + 1, L ++ [⟨t, x, y⟩], ao2, c2, by omega, by go_num, by simp, ho3, hb2, by rw [betOf_hit ER.out h1 h2, ← HL.out], by simp⟩
        case measure => simp [intOf]; omega
    · have he : k = rs.length := by omega
      go_wp2
      go_ret
      have e1 : L = betL rs lo hi := by
        rw [E0.out, HL.out, he, List.take_length]
        cases hv : recsB rs
        · have : k = 0 := by
            rcases Nat.eq_zero_or_pos k with h | h
            · exact h
            · have := HK.out h; rw [hv] at this; cases this
          have : rs = [] := List.eq_nil_of_length_eq_zero (by omega)
          subst this; rfl
        · rfl
      rw [← e1]
      exact ⟨ao', c', rfl, ho, hb⟩
end Go.Proofs.Ytnapcacgdidgdaa
