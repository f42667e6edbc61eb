/- Records: the bytes of one way. -/
import Derived.Test.YtnapcacgdidgdaaRec2
namespace Go.Proofs.Ytnapcacgdidgdaa
open Go.RowKit

def bytesOf (rs : List Rec) (way : Int) : List Int := (rs.filter fun r => decide (r.w = way)).map (·.b)
noncomputable def bytesL (rs : List Rec) (way : Int) : List Int := if recsB rs then bytesOf rs way else []
theorem bytesOf_hit {rs : List Rec} {way : Int} {k : Nat} {r : Rec} (h : rs[k]? = some r) (hw : r.w = way) : bytesOf (rs.take (k + 1)) way = bytesOf (rs.take k) way ++ [r.b] := by
  rw [bytesOf, take_succ_of h, List.filter_append, List.map_append]; simp [bytesOf, hw]
theorem bytesOf_miss {rs : List Rec} {way : Int} {k : Nat} {r : Rec} (h : rs[k]? = some r) (hw : r.w ≠ way) : bytesOf (rs.take (k + 1)) way = bytesOf (rs.take k) way := by
  rw [bytesOf, take_succ_of h, List.filter_append, List.map_append]; simp [bytesOf, hw]
theorem bytesOf_length (rs : List Rec) (way : Int) : (bytesOf rs way).length ≤ rs.length := by
  unfold bytesOf; rw [List.length_map]; exact List.length_filter_le _ _

set_option maxHeartbeats 400000 in
theorem implRecordsBytes_any (ao : Option Addr) (rs : List Rec) (c : Nat) (way : Int) (w : World) (hx : Recs w ao rs) (lx : rs.length ≤ 1048576) :
    Calls Try.prog 17 #[.slice ao rs.length c, .int .i64 way] w fun e w' => ∃ ao' c', e = .returned (.slice ao' (bytesL rs way).length c') ∧ OwnI w' w.heap.size ao' c' (bytesL rs way) ∧ Below w.heap.size w w' := by
  cases hv : recsB rs
  · have e0 : bytesL rs way = [] := by simp [bytesL, hv]
    have E0 := Lib.hid e0
    clear e0
    go_enter Try.func17, Try.ntmps17
    go_wp2_with fail
    refine (implRecordsValid_any ao rs c w hx (by omega)).mono ?_
    rintro e w1 ⟨rfl, hb1⟩
    go_wp2
    go_ret
    rw [E0.out]
    exact ⟨none, 0, rfl, World.ownsRow_nil _ _ _ _, hb1⟩
  · have e0 : bytesL rs way = bytesOf rs way := by simp [bytesL, hv]
    have E0 := Lib.hid e0
    clear e0
    go_enter Try.func17, Try.ntmps17
    go_wp2_with fail
    refine (implRecordsValid_any ao rs c w hx (by omega)).mono ?_
    rintro e w1 ⟨rfl, hb1⟩
    go_wp2
    go_loopw [5, 13] (fun v i wr => ∃ (k : Nat) (L : List Int) (ao' : Option Addr) (c' : Nat), k ≤ rs.length ∧ i = .int .i64 k ∧ v = .slice ao' L.length c' ∧ OwnI wr w.heap.size ao' c' L ∧ Below w.heap.size w wr ∧ L = bytesOf (rs.take k) way) (fun _ i _ => rs.length - (intOf i).toNat)
    case atStart => exact ⟨0, [], none, 0, Nat.zero_le _, rfl, rfl, World.ownsRow_nil _ _ _ _, hb1, rfl⟩
    case round =>
      obtain ⟨k, L, ao', c', hk, rfl, rfl, ho, hb, hL⟩ := hrel
      have HL := Lib.hid hL
      clear hL
      have hll : L.length ≤ rs.length := by rw [HL.out]; exact Nat.le_trans (bytesOf_length _ _) (Nat.le_trans (List.length_take_le _ _) hk)
      by_cases hlt : k < rs.length
      · obtain ⟨b, off, ⟨t, x, y⟩, rfl, er, _, x0, x1, x2⟩ := (hx.below hb).at_ hlt
        have ER := Lib.hid er
        clear er hx
        dsimp only at x0 x1 x2
        by_cases hxw : x = way
        · have hbq : (x == way) = true := by simpa using hxw
          have HX := Lib.hid hxw
          clear hxw
          go_wp2_with (
            at_builtin
            refine name_list fun W hW => ?_
            have hoW : OwnI W w.heap.size ao' c' L := by rw [hW]; exact (ho.alloc _).alloc _
            have hbW : Below w.heap.size w W := by rw [hW]; exact (hb.alloc hb.size _).alloc (by simp; have := hb.size; omega) _
            have hcW : Cells W (some ⟨wr.heap.size + 1, 0, none⟩) [.int .i64 y] := by rw [hW]; exact cells_new _ #[.int .i64 y] _ (by simp)
            clear hW x0 x1 x2 ho
            refine wpList_append_row W rfl _ _ _ rfl w.heap.size 3 _ 1 8 Try.underlying36 int_info rfl (by decide) ao' L.length c' _ (by rfl) hoW (some ⟨wr.heap.size + 1, 0, none⟩) 1 1 [.int .i64 y] (by rfl) hcW rfl (by simp [Value.oneCell']) (by simp) (by simp only [maxLen]; omega) (by omega) hbW.size ?_
            intro ao2 c2 w2 ho2 hg2
            have hb2 := below_append hbW hoW hg2 hbW.size
            have ho3 := OwnI.snoc ho2
            clear hoW ho2 hg2 hcW)
          go_roundw
          case rel => exact ⟨k + 1, L ++ [y], ao2, c2, by omega, by go_num, by simp, ho3, hb2, by rw [bytesOf_hit ER.out HX.out, ← HL.out]⟩
          case measure => simp [intOf]; omega
        · have hbq : (x == way) = false := by simpa using hxw
          have HX := Lib.hid hxw
          clear hxw
          go_wp2
          go_roundw
          case rel => exact ⟨k + 1, L, ao', c', by omega, by go_num, rfl, ho.alloc _, hb.alloc hb.size _, by rw [bytesOf_miss ER.out HX.out, ← HL.out]⟩
          case measure => simp [intOf]; omega
      · have he : k = rs.length := by omega
        go_wp2
        go_ret
        have e1 : L = bytesL rs way := by rw [E0.out, HL.out, he, List.take_length]
        rw [← e1]
        exact ⟨ao', c', rfl, ho, hb⟩

set_option maxHeartbeats 400000 in
theorem specRecordsBytes_any (ao : Option Addr) (rs : List Rec) (c : Nat) (way : Int) (w : World) (hx : Recs w ao rs) (lx : rs.length ≤ 1048576) :
    Calls Try.prog 18 #[.slice ao rs.length c, .int .i64 way] w fun e w' => ∃ ao' c', e = .returned (.slice ao' (bytesL rs way).length c') ∧ OwnI w' w.heap.size ao' c' (bytesL rs way) ∧ Below w.heap.size w w' := by
  have e0 : bytesL rs way = if recsB rs then bytesOf rs way else [] := rfl
  have E0 := Lib.hid e0
  clear e0
  go_enter Try.func18, Try.ntmps18
  go_wp2
  go_loopw [5, 6] (fun v i wr => ∃ (k : Nat) (L : List Int) (ao' : Option Addr) (c' : Nat), k ≤ rs.length ∧ i = .int .i64 k ∧ v = .slice ao' L.length c' ∧ OwnI wr w.heap.size ao' c' L ∧ Below w.heap.size w wr ∧ L = bytesOf (rs.take k) way ∧ (0 < k → recsB rs = true)) (fun _ i _ => rs.length - (intOf i).toNat)
  case atStart => exact ⟨0, [], _, 0, Nat.zero_le _, rfl, rfl, World.ownsRow_made w #[] 0 (Nat.le_refl _) (by simp) (by simp), (Below.refl _ _).alloc (Nat.le_refl _) _, rfl, fun h => absurd h (by omega)⟩
  case round =>
    obtain ⟨k, L, ao', c', hk, rfl, rfl, ho, hb, hL, hkv⟩ := hrel
    have HL := Lib.hid hL
    have HK := Lib.hid hkv
    clear hL hkv
    have hll : L.length ≤ rs.length := by rw [HL.out]; exact Nat.le_trans (bytesOf_length _ _) (Nat.le_trans (List.length_take_le _ _) hk)
    by_cases hlt : k < rs.length
    · cases hv : recsB rs
      · go_wp2_with fail
        refine (specRecordsValid_any ao rs c _ (hx.below hb) (by omega)).mono ?_
        rintro e w1 ⟨rfl, hb1⟩
        go_wp2
        go_ret
        have hk0 : k = 0 := by
          rcases Nat.eq_zero_or_pos k with h | h
          · exact h
          · have := HK.out h; rw [hv] at this; cases this
        have e1 : L = bytesL rs way := by rw [E0.out, hv, HL.out, hk0]; rfl
        rw [← e1]
        exact ⟨ao', c', rfl, ho.below hb1, hb.trans (hb1.mono hb.size)⟩
      · go_wp2_with fail
        refine (specRecordsValid_any ao rs c _ (hx.below hb) (by omega)).mono ?_
        rintro e w1 ⟨rfl, hb1⟩
        have hbn := hb.trans (hb1.mono hb.size)
        have hon := ho.below hb1
        obtain ⟨b, off, ⟨t, x, y⟩, rfl, er, _, x0, x1, x2⟩ := (hx.below hbn).at_ hlt
        have ER := Lib.hid er
        clear er hx ho hb hb1
        dsimp only at x0 x1 x2
        by_cases hxw : x = way
        · have hbq : (x == way) = true := by simpa using hxw
          have HX := Lib.hid hxw
          clear hxw
          go_wp2_with (
            at_builtin
            refine name_list fun W hW => ?_
            have hoW : OwnI W w.heap.size ao' c' L := by rw [hW]; exact hon.alloc _
            have hbW : Below w.heap.size w W := by rw [hW]; exact hbn.alloc hbn.size _
            have hcW : Cells W (some ⟨w1.heap.size, 0, none⟩) [.int .i64 y] := by rw [hW]; exact cells_new _ #[.int .i64 y] _ rfl
            clear hW x0 x1 x2 hon
            refine wpList_append_row W rfl _ _ _ rfl w.heap.size 3 _ 1 8 Try.underlying36 int_info rfl (by decide) ao' L.length c' _ (by rfl) hoW (some ⟨w1.heap.size, 0, none⟩) 1 1 [.int .i64 y] (by rfl) hcW rfl (by simp [Value.oneCell']) (by simp) (by simp only [maxLen]; omega) (by omega) hbW.size ?_
            intro ao2 c2 w2 ho2 hg2
            have hb2 := below_append hbW hoW hg2 hbW.size
            have ho3 := OwnI.snoc ho2
            clear hoW ho2 hg2 hcW)
          go_roundw
          case rel => exact ⟨k + 1, L ++ [y], ao2, c2, by omega, by go_num, by simp, ho3, hb2, by rw [bytesOf_hit ER.out HX.out, ← HL.out], by simp⟩
          case measure => simp [intOf]; omega
        · have hbq : (x == way) = false := by simpa using hxw
          have HX := Lib.hid hxw
          clear hxw
          go_wp2
          go_roundw
          case rel => exact ⟨k + 1, L, ao', c', by omega, by go_num, rfl, hon, hbn, by rw [bytesOf_miss ER.out HX.out, ← HL.out], by simp⟩
          case measure => simp [intOf]; omega
    · have he : k = rs.length := by omega
      go_wp2
      go_ret
      have e1 : L = bytesL rs way := by
        rw [E0.out, HL.out, he, List.take_length]
        cases hv : recsB rs
        · have : k = 0 := by
            rcases Nat.eq_zero_or_pos k with h | h
            · exact h
            · have := HK.out h; rw [hv] at this; cases this
          have : rs = [] := List.eq_nil_of_length_eq_zero (by omega)
          subst this; rfl
        · rfl
      rw [← e1]
      exact ⟨ao', c', rfl, ho, hb⟩
end Go.Proofs.Ytnapcacgdidgdaa
