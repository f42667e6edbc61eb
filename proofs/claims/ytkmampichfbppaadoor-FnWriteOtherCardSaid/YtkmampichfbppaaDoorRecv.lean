/- Receivers: the bytes of a list; validity of both. -/
import Derived.Test.YtkmampichfbppaaDoorGotList2
namespace Go.Proofs.YtkmampichfbppaaDoor
open Go.RowKit

def slLen : Value → Nat
  | .slice _ n _ => n
  | _ => 0
set_option maxHeartbeats 1000000 in
theorem glItems_any (lb : Nat) (gs : List Gt) (w : World) (h : GL w lb gs) (hl : gs.length ≤ 1000) :
    Calls Tryd.prog 51 #[.pointer (some ⟨lb, 0, none⟩)] w fun e w' => ∃ a c, e = .returned (.slice a gs.length c) ∧ OwnG w' w.heap.size a c gs ∧ Below w.heap.size w w' := by
  obtain ⟨p, q, n, hh, rfl, hs⟩ := h.chain
  have hmk := run_make_room (P := Tryd.prog) 25 82 Tryd.underlying25 gt_info gs.length (by omega) (by omega)
  obtain ⟨c0, c1, c2, _, _, _⟩ := three_cells hh
  have hlb := box_lt hh
  go_enter Tryd.func51, Tryd.ntmps51
  go_wp2_with fail
  refine name_wp fun W hW => ?_
  have hb : Below w.heap.size w W := by rw [hW]; exact (Below.refl _ _).alloc (Nat.le_refl _) _
  have o : W.ownsRow w.heap.size 82 2 (.slice (some ⟨w.heap.size, 0, none⟩) 0 gs.length) 0 [] := by
    rw [hW]; exact own_made_at _ _ _ _ _ _ _ rfl (Nat.le_refl _) (by simp only [maxLen]; omega) (by simp [newRow, madeCells])
  clear hW c0 c1 c2 hmk hh
  go_loopw [3, 4] (fun v nd wr => ∃ (k : Nat) (a : Option Addr) (c : Nat) (p : Option Addr) (lo : Nat), k ≤ gs.length ∧ v = .slice a k c ∧ nd = .pointer p ∧ Seg wr lo w.heap.size p (gs.drop k) none ∧ wr.ownsRow w.heap.size 82 2 (.slice a k c) k ((gs.take k).flatMap gtCells) ∧ Below w.heap.size w wr) (fun v _ _ => gs.length - slLen v)
  case atStart => exact ⟨0, _, _, p, lb + 1, Nat.zero_le _, rfl, rfl, by simpa using hs.below hb, by simpa using o, hb⟩
  case round =>
    clear o hb hs
    obtain ⟨k, a, c, p, lo, hk, rfl, rfl, hs, o, hb⟩ := hrel
    by_cases hlt : k < gs.length
    · have hx := List.getElem?_eq_getElem hlt
      rw [List.drop_eq_getElem_cons hlt] at hs
      generalize gs[k] = g at hx hs
      obtain ⟨b, r, rfl, hlo, hn, hs2⟩ := hs
      have hle := hs2.le
      obtain ⟨d0, d1, d2, _, _, _⟩ := three_cells hn
      have hbl := box_lt hn
      have HX := Lib.hid hx
      have HN := Lib.hid hn
      clear hx hn
      go_wp2_with (
        at_builtin
        refine name_list fun W hW => ?_
        have hoW : W.ownsRow w.heap.size 82 2 (.slice a k c) k ((gs.take k).flatMap gtCells) := by rw [hW]; exact World.ownsRow.alloc o _
        have hbW : Below w.heap.size w W := by rw [hW]; exact hb.alloc hb.size _
        have hbr : Below w.heap.size wr W := by rw [hW]; exact (Below.refl _ _).alloc hb.size _
        have hcW : Cells W (some ⟨wr.heap.size, 0, none⟩) [.int .i64 g.b, .int .i64 g.c] := by rw [hW]; exact cells_new _ #[.int .i64 g.b, .int .i64 g.c] _ rfl
        clear hW d0 d1 d2
        refine wpList_append_row W rfl _ _ _ rfl w.heap.size 82 _ 2 16 Tryd.underlying25 gt_info rfl (by decide) a k c _ (by rfl) hoW (some ⟨wr.heap.size, 0, none⟩) 1 1 [.int .i64 g.b, .int .i64 g.c] (by rfl) hcW rfl (by simp [Value.oneCell']) (by simp) (by simp only [maxLen]; omega) (by omega) hbW.size ?_
        intro a2 c2 w2 ho2 hg2
        have hb2 := below_append hbW hoW hg2 hbW.size
        have hbr2 := below_append hbr hoW hg2 hbW.size
        obtain ⟨d0, d1, d2, _, _, _⟩ := three_cells ((hbr2.block b (by omega)).trans HN.out)
        clear hoW hg2 hcW hbW hbr)
      go_roundw
      case rel =>
        refine ⟨k + 1, a2, c2, r, b + 1, by omega, rfl, rfl, hs2.below hbr2, ?_, hb2⟩
        rw [take_succ_of HX.out, List.flatMap_append]
        exact ho2
      case measure => simp [slLen]; omega
    · have he : k = gs.length := by omega
      subst he
      rw [List.drop_length] at hs
      rw [List.take_length] at o
      obtain ⟨rfl, _⟩ := hs
      go_wp2
      go_ret
      exact ⟨a, c, rfl, o, hb⟩
end Go.Proofs.YtkmampichfbppaaDoor
