/- Bytes that came as a linked list: a byte is put; a list of bytes; the bytes of a list. -/
import Derived.Test.YtkmampichfbppaaDoorGotList
namespace Go.Proofs.YtkmampichfbppaaDoor
open Go.RowKit

theorem run_make_room {P : Program} (t e : TypeId) {z : Value} {size bytes : Nat} (ht : P.underlying t = some (.slice e)) (hi : (P.info? e).map (fun i => (i.zero, i.size, i.bytes)) = some (some z, size, bytes))
    (n : Nat) (hb : bytes * n ≤ 281474976710656) (h63 : n ≤ 9223372036854775807) (w : World) :
    (Instr.makeSlice t (.int .i64 0) (.int .i64 (n : Int))).run P w = .ok (.slice (some ⟨w.heap.size, 0, none⟩) 0 n) (w.alloc (.cells (newRow z (n * size)) e)) := by
  obtain ⟨i, hi0, hz0, hz1, hz2⟩ := info_parts hi
  have hb' : (i.bytes : Int) * (n : Int) ≤ 281474976710656 := by
    rw [hz2]
    have h : ((bytes * n : Nat) : Int) ≤ 281474976710656 := by omega
    rwa [Int.natCast_mul] at h
  have hr := run_make (P := P) w t e i z ht hi0 hz0 .i64 .i64 0 n (by omega) (by omega) hb' (by omega)
  simp only [Int.toNat_natCast, Int.toNat_zero] at hr
  rw [hr, hz1]; rfl
set_option maxHeartbeats 1000000 in
theorem glPut_any (lb : Nat) (gs : List Gt) (b c : Int) (w : World) (h : GL w lb gs) (hl : gs.length ≤ 1000) :
    Calls Tryd.prog 58 #[.pointer (some ⟨lb, 0, none⟩), .agg #[.int .i64 b, .int .i64 c]] w fun e w' => ∃ v, e = .returned v ∧ GL w' lb (gs ++ [⟨b, c⟩]) ∧ Below lb w w' := by
  have hlt := h.lt
  have hlne : lb ≠ w.heap.size := Nat.ne_of_lt hlt
  rcases h with ⟨rfl, h⟩ | ⟨gs', g, l, p, rfl, h, hs, hll, hn⟩
  · obtain ⟨c0, c1, c2, f0, f1, f2⟩ := three_cells h
    go_enter Tryd.func58, Tryd.ntmps58
    go_wp2
    refine bodyPost_end (v := .tuple #[]) (by simp [results, Tryd.results58, go_sem]) rfl ?_
    refine ⟨_, rfl, .inr ⟨[], ⟨b, c⟩, w.heap.size + 1, some ⟨w.heap.size + 1, 0, none⟩, rfl, ?_, ⟨rfl, by omega⟩, by omega, ?_⟩, ?_⟩
    · exact box_alloc (box_alloc (three_set2 (three_set1 (three_set0 h _) _) _) _) _
    · exact heap_new_at _ _ _ (by simp)
    · repeat (first | exact Below.refl _ _ | refine Below.alloc ?_ (by first | (simp; done) | (simp; omega)) _ | refine Below.setCell ?_ (by first | exact Nat.le_refl _ | (simp; done) | (simp; omega)) _)
  · obtain ⟨c0, c1, c2, f0, f1, f2⟩ := three_cells h
    obtain ⟨d0, d1, d2, e0, e1, e2⟩ := three_cells hn
    have hln := box_lt hn
    have hlb : l ≠ lb := by omega
    have hlb2 := Ne.symm hlb
    have hnn : ((gs' ++ [g]).length : Int) + 1 = (((gs' ++ [g]) ++ [(⟨b, c⟩ : Gt)]).length : Int) := by simp; omega
    have HNN := Lib.hid hnn
    obtain ⟨nn, hnl⟩ : ∃ nn, nn = (gs' ++ [g]).length := ⟨_, rfl⟩
    have HNL := Lib.hid hnl
    rw [← hnl] at c2 h hl
    clear hnn hnl
    go_enter Tryd.func58, Tryd.ntmps58
    go_wp2
    refine bodyPost_end (v := .tuple #[]) (by simp [results, Tryd.results58, go_sem]) rfl ?_
    refine ⟨_, rfl, .inr ⟨gs' ++ [g], ⟨b, c⟩, w.heap.size + 1, p, rfl, ?_, ?_, by omega, ?_⟩, ?_⟩
    · rw [← HNN.out, ← HNL.out]
      exact box_alloc (box_alloc (three_set2 (three_set1 (box_set h _ _ hlb2) _) _) _) _
    · refine Seg.snoc (l := l) (hs.same fun x hx hx2 => ?_) (box_alloc (box_alloc (box_set (box_set (three_set2 hn _) _ _ hlb) _ _ hlb) _) _) _ (by omega)
      exact (Below.heap_alloc _ _ x (by simp; omega)).trans ((Below.heap_alloc _ _ x (by simp; omega)).trans ((Below.heap_setCell _ _ _ x (by simp; omega)).trans ((Below.heap_setCell _ _ _ x (by simp; omega)).trans (Below.heap_setCell _ _ _ x (by simp; omega)))))
    · exact heap_new_at _ _ _ (by simp)
    · repeat (first | exact Below.refl _ _ | refine Below.alloc ?_ (by first | (simp; done) | (simp; omega)) _ | refine Below.setCell ?_ (by first | exact Nat.le_refl _ | (simp; done) | (simp; omega)) _)
set_option maxHeartbeats 1000000 in
theorem gotListOf_any (ao : Option Addr) (gs : List Gt) (c : Nat) (w : World) (hx : Gts w ao gs) (hl : gs.length ≤ 999) :
    Calls Tryd.prog 50 #[.slice ao gs.length c] w fun e w' => ∃ lb, e = .returned (.pointer (some ⟨lb, 0, none⟩)) ∧ w.heap.size ≤ lb ∧ GL w' lb gs ∧ Below w.heap.size w w' := by
  go_enter Tryd.func50, Tryd.ntmps50
  go_wp2_with fail
  refine name_wp fun W hW => ?_
  have hb : Below w.heap.size w W := by rw [hW]; exact (Below.refl _ _).alloc (Nat.le_refl _) _
  have hg : GL W w.heap.size [] := .inl ⟨rfl, by rw [hW]; exact heap_new_at _ _ _ rfl⟩
  clear hW
  go_loopw [10] (fun i wr => ∃ k : Nat, k ≤ gs.length ∧ i = .int .i64 k ∧ GL wr w.heap.size (gs.take k) ∧ Below w.heap.size w wr) (fun i _ => gs.length - (intOf i).toNat)
  case atStart => exact ⟨0, Nat.zero_le _, rfl, by simpa using hg, hb⟩
  case round =>
    clear hg hb
    obtain ⟨k, hk, rfl, hg, hb⟩ := hrel
    by_cases hlt : k < gs.length
    · obtain ⟨b, off, ⟨gb, gc⟩, rfl, er, _, x0, x1⟩ := (hx.below hb).at_ hlt
      have ER := Lib.hid er
      clear er hx
      dsimp only at x0 x1
      go_wp2_with fail
      refine name_calls fun W2 hW2 => ?_
      have bW : Below wr.heap.size wr W2 := by rw [hW2]; exact (Below.refl _ _).alloc (Nat.le_refl _) _
      clear hW2 x0 x1
      refine (glPut_any w.heap.size (gs.take k) gb gc W2 (hg.below bW) (by rw [List.length_take]; omega)).mono ?_
      rintro e w3 ⟨v, rfl, hg3, b3⟩
      have hb3 := (hb.trans (bW.mono hb.size)).trans b3
      go_wp2
      go_roundw
      case rel => exact ⟨k + 1, by omega, by go_num, by rw [take_succ_of ER.out]; exact hg3, hb3⟩
      case measure => simp [intOf]; omega
    · have he : k = gs.length := by omega
      subst he
      rw [List.take_length] at hg
      go_wp2
      go_ret
      exact ⟨_, rfl, Nat.le_refl _, hg, hb⟩
end Go.Proofs.YtkmampichfbppaaDoor
