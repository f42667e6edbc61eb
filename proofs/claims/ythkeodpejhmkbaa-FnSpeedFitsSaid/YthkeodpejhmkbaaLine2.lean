/- Lines: the bits of a frame. -/
import Derived.Test.YthkeodpejhmkbaaLine
namespace Go.Proofs.Ythkeodpejhmkbaa
open Go.RowKit

set_option maxHeartbeats 2000000 in
set_option maxRecDepth 100000 in
theorem l1Bits_any (b p s x : Int) (w : World) (hf : fmtB b p s = true) (hx0 : 0 ≤ x) (hx1 : x ≤ 255) : Calls Try.prog 41 #[.agg #[.int .i64 b, .int .i64 p, .int .i64 s], .int .i64 x] w fun e w' => ∃ a xs c, e = .returned (.slice a xs.length c) ∧ 1 ≤ xs.length ∧ xs.length ≤ 12 ∧ OwnI w' w.heap.size a c xs ∧ Below w.heap.size w w' := by
  have hff := fmtB_facts hf
  have hb5 := hff.1.1
  have hb8 := hff.1.2
  have hp0 := hff.2.1.1
  have hp2 := hff.2.1.2
  have hs1 := hff.2.2.1
  have hs2 := hff.2.2.2
  clear hff hf
  obtain ⟨nb, hnb⟩ : ∃ nb : Nat, b = (nb : Int) := Int.eq_ofNat_of_zero_le (by omega)
  obtain ⟨ns, hns⟩ : ∃ ns : Nat, s = (ns : Int) := Int.eq_ofNat_of_zero_le (by omega)
  have HNB := Lib.hid hnb
  have HNS := Lib.hid hns
  have hnb8 : nb ≤ 8 := by omega
  have hns2 : ns ≤ 2 := by omega
  clear hnb hns
  go_enter Try.func41, Try.ntmps41
  go_wp2_with fail
  refine name_wp fun W hW => ?_
  have hH : W.heap[w.heap.size]? = some (.cells #[.int .i64 b, .int .i64 p, .int .i64 s] 40 (0, 0)) := by rw [hW]; exact box_alloc (heap_new_at w _ _ rfl) _
  have hb : Below w.heap.size w W := by rw [hW]; exact ((Below.refl _ _).alloc (Nat.le_refl _) _).alloc (by simp) _
  have o : OwnI W w.heap.size (some ⟨w.heap.size + 1, 0, none⟩) 1 [0] := by rw [hW]; exact own_lit_at (w.alloc _) #[.int .i64 0] _ _ 1 _ _ (by simp) (by simp) (by simp [maxLen]) rfl
  clear hW
  go_loopw [5, 6, 7] (fun v y i wr => ∃ (k : Nat) (L : List Int) (a : Option Addr) (c : Nat) (z : Int), k ≤ nb ∧ i = .int .i64 k ∧ v = .slice a L.length c ∧ L.length = k + 1 ∧ y = .int .i64 z ∧ 0 ≤ z ∧ z ≤ 255 ∧ OwnI wr w.heap.size a c L ∧ Below w.heap.size w wr ∧ wr.heap[w.heap.size]? = some (.cells #[.int .i64 b, .int .i64 p, .int .i64 s] 40 (0, 0))) (fun _ _ i _ => nb - (intOf i).toNat)
  case atStart => exact ⟨0, [0], _, 1, x, Nat.zero_le _, rfl, rfl, rfl, rfl, hx0, hx1, o, hb, hH⟩
  case round =>
    clear o hb hH
    obtain ⟨k, L, a, c, z, hk, rfl, rfl, hL, rfl, z0, z1, o, hb, hH⟩ := hrel
    have HL := Lib.hid hL
    have hl9 : L.length ≤ 9 := by omega
    obtain ⟨c0, c1, c2, _, _, _⟩ := three_cells hH
    clear hL
    by_cases hlt : (k : Int) < b
    · have hkl : k < nb := by have := HNB.out; omega
      have hm0 : 0 ≤ z % 2 := by omega
      have hm1 : z % 2 ≤ 1 := by omega
      have hd0 : 0 ≤ z / 2 := by omega
      have hd1 : z / 2 ≤ 255 := by omega
      go_wp2_with (
        at_builtin
        refine name_list fun W hW => ?_
        have hoW : OwnI W w.heap.size a c L := by rw [hW]; exact World.ownsRow.alloc o _
        have hbW : Below w.heap.size w W := by rw [hW]; exact hb.alloc hb.size _
        have hHW : W.heap[w.heap.size]? = some (.cells #[.int .i64 b, .int .i64 p, .int .i64 s] 40 (0, 0)) := by rw [hW]; exact box_alloc hH _
        have hcW : Cells W (some ⟨wr.heap.size, 0, none⟩) [.int .i64 (z % 2)] := by rw [hW]; exact cells_new _ #[.int .i64 (z % 2)] _ rfl
        clear hW
        refine wpList_append_row W rfl _ _ _ rfl w.heap.size 3 _ 1 8 Try.underlying22 int_info rfl (by decide) a L.length c _ (by rfl) hoW (some ⟨wr.heap.size, 0, none⟩) 1 1 [.int .i64 (z % 2)] (by rfl) hcW rfl (by simp [Value.oneCell']) (by simp) (by simp only [maxLen]; omega) (by omega) hbW.size ?_
        intro a2 c2 w2 ho2 hg2
        have hb2 := below_append hbW hoW hg2 hbW.size
        have hH2 := box_grow hHW hg2 (own_block_of (own_box_ne hoW hHW (by decide)))
        have o2 := OwnI.snoc ho2
        clear hoW ho2 hg2 hcW hHW hbW)
      go_roundw
      case rel => exact ⟨k + 1, L ++ [z % 2], a2, c2, z / 2, by omega, by go_num, by simp, by rw [List.length_append, HL.out]; rfl, by go_num, hd0, hd1, o2, hb2, hH2⟩
      case measure => simp [intOf]; omega
    · have hkb : b ≤ (k : Int) := by omega
      clear hlt
      have hl10 : L.length ≤ 10 := by omega
      have hl1 : 1 ≤ L.length := by have := HL.out; omega
      by_cases hp : p = 0
      · have hpb : (p != 0) = false := by simpa using hp
        have HP0 := Lib.hid hp
        clear hp
        go_wp2_with fail
        clear c0 c1 c2
        go_loopw [5, 8] (fun v i wv => ∃ (k : Nat) (M : List Int) (am : Option Addr) (cm : Nat), k ≤ ns ∧ i = .int .i64 k ∧ v = .slice am M.length cm ∧ M.length = (L).length + k ∧ OwnI wv w.heap.size am cm M ∧ Below w.heap.size w wv ∧ wv.heap[w.heap.size]? = some (.cells #[.int .i64 b, .int .i64 p, .int .i64 s] 40 (0, 0))) (fun _ i _ => ns - (intOf i).toNat)
        case atStart => exact ⟨0, L, a, c, Nat.zero_le _, rfl, rfl, rfl, o, hb, hH⟩
        case round =>
          have HLA := Lib.hid (hl10)
          have HLB := Lib.hid (hl1)
          clear o hb hH
          obtain ⟨k, M, a, c, hk, rfl, rfl, hM, o, hb, hH⟩ := hrel
          have HM := Lib.hid hM
          have hl12 : M.length ≤ 12 := by omega
          obtain ⟨c0, c1, c2, _, _, _⟩ := three_cells hH
          clear hM
          by_cases hlt : (k : Int) < s
          · have hkl : k < ns := by have := HNS.out; omega
            go_wp2_with (
              at_builtin
              refine name_list fun W hW => ?_
              have hoW : OwnI W w.heap.size a c M := by rw [hW]; exact World.ownsRow.alloc o _
              have hbW : Below w.heap.size w W := by rw [hW]; exact hb.alloc hb.size _
              have hHW : W.heap[w.heap.size]? = some (.cells #[.int .i64 b, .int .i64 p, .int .i64 s] 40 (0, 0)) := by rw [hW]; exact box_alloc hH _
              have hcW : Cells W (some ⟨wr.heap.size, 0, none⟩) [.int .i64 1] := by rw [hW]; exact cells_new _ #[.int .i64 1] _ rfl
              clear hW
              refine wpList_append_row W rfl _ _ _ rfl w.heap.size 3 _ 1 8 Try.underlying22 int_info rfl (by decide) a M.length c _ (by rfl) hoW (some ⟨wr.heap.size, 0, none⟩) 1 1 [.int .i64 1] (by rfl) hcW rfl (by simp [Value.oneCell']) (by simp) (by simp only [maxLen]; omega) (by omega) hbW.size ?_
              intro a3 c3 w3 ho3 hg3
              have hb3 := below_append hbW hoW hg3 hbW.size
              have hH3 := box_grow hHW hg3 (own_block_of (own_box_ne hoW hHW (by decide)))
              have o3 := OwnI.snoc ho3
              clear hoW ho3 hg3 hcW hHW hbW)
            go_roundw
            case rel => exact ⟨k + 1, M ++ [1], a3, c3, by omega, by go_num, by simp, by rw [List.length_append, HM.out]; simp; omega, o3, hb3, hH3⟩
            case measure => simp [intOf]; omega
          · have hsk : s ≤ (k : Int) := by omega
            clear hlt
            go_wp2
            go_ret
            exact ⟨a, M, c, rfl, by have := HM.out; have := HLB.out; omega, hl12, o, hb⟩
      · have hpb : (p != 0) = true := by simpa using hp
        clear hp
        go_wp2_with fail
        refine (l1Parity_any b p s x wr hx0 hx1).mono ?_
        rintro e w8 ⟨q, rfl, q0, q1, b8⟩
        replace o := OwnI.below o b8
        replace hH := (b8.block _ (box_lt hH)).trans hH
        replace hb := hb.trans (b8.mono hb.size)
        clear c0 c1 c2 b8
        go_wp2_with (
          at_builtin
          refine name_list fun W hW => ?_
          have hoW : OwnI W w.heap.size a c L := by rw [hW]; exact World.ownsRow.alloc o _
          have hbW : Below w.heap.size w W := by rw [hW]; exact hb.alloc hb.size _
          have hHW : W.heap[w.heap.size]? = some (.cells #[.int .i64 b, .int .i64 p, .int .i64 s] 40 (0, 0)) := by rw [hW]; exact box_alloc hH _
          have hcW : Cells W (some ⟨w8.heap.size, 0, none⟩) [.int .i64 q] := by rw [hW]; exact cells_new _ #[.int .i64 q] _ rfl
          clear hW
          refine wpList_append_row W rfl _ _ _ rfl w.heap.size 3 _ 1 8 Try.underlying22 int_info rfl (by decide) a L.length c _ (by rfl) hoW (some ⟨w8.heap.size, 0, none⟩) 1 1 [.int .i64 q] (by rfl) hcW rfl (by simp [Value.oneCell']) (by simp) (by simp only [maxLen]; omega) (by omega) hbW.size ?_
          intro a2 c2 w2 ho2 hg2
          have hb2 := below_append hbW hoW hg2 hbW.size
          have hH2 := box_grow hHW hg2 (own_block_of (own_box_ne hoW hHW (by decide)))
          have o2 := OwnI.snoc ho2
          clear hoW ho2 hg2 hcW hHW hbW)
        have hl10' : (L ++ [q]).length ≤ 10 := by rw [List.length_append]; simp; omega
        have hl1' : 1 ≤ (L ++ [q]).length := by rw [List.length_append]; simp
        clear o hb hH
        obtain ⟨L2, hL2⟩ : ∃ L2, L2 = L ++ [q] := ⟨_, rfl⟩
        rw [← hL2] at hl10' hl1' o2
        have hll : L.length + 1 = L2.length := by rw [hL2, List.length_append]; rfl
        simp only [hll]
        clear hL2 hll
        go_loopw [5, 8] (fun v i wv => ∃ (k : Nat) (M : List Int) (am : Option Addr) (cm : Nat), k ≤ ns ∧ i = .int .i64 k ∧ v = .slice am M.length cm ∧ M.length = (L2).length + k ∧ OwnI wv w.heap.size am cm M ∧ Below w.heap.size w wv ∧ wv.heap[w.heap.size]? = some (.cells #[.int .i64 b, .int .i64 p, .int .i64 s] 40 (0, 0))) (fun _ i _ => ns - (intOf i).toNat)
        case atStart => exact ⟨0, L2, a2, c2, Nat.zero_le _, rfl, rfl, rfl, o2, hb2, hH2⟩
        case round =>
          have HLA := Lib.hid (hl10')
          have HLB := Lib.hid (hl1')
          clear o2 hb2 hH2
          obtain ⟨k, M, a, c, hk, rfl, rfl, hM, o, hb, hH⟩ := hrel
          have HM := Lib.hid hM
          have hl12 : M.length ≤ 12 := by omega
          obtain ⟨c0, c1, c2, _, _, _⟩ := three_cells hH
          clear hM
          by_cases hlt : (k : Int) < s
          · have hkl : k < ns := by have := HNS.out; omega
            go_wp2_with (
              at_builtin
              refine name_list fun W hW => ?_
              have hoW : OwnI W w.heap.size a c M := by rw [hW]; exact World.ownsRow.alloc o _
              have hbW : Below w.heap.size w W := by rw [hW]; exact hb.alloc hb.size _
              have hHW : W.heap[w.heap.size]? = some (.cells #[.int .i64 b, .int .i64 p, .int .i64 s] 40 (0, 0)) := by rw [hW]; exact box_alloc hH _
              have hcW : Cells W (some ⟨wr.heap.size, 0, none⟩) [.int .i64 1] := by rw [hW]; exact cells_new _ #[.int .i64 1] _ rfl
              clear hW
              refine wpList_append_row W rfl _ _ _ rfl w.heap.size 3 _ 1 8 Try.underlying22 int_info rfl (by decide) a M.length c _ (by rfl) hoW (some ⟨wr.heap.size, 0, none⟩) 1 1 [.int .i64 1] (by rfl) hcW rfl (by simp [Value.oneCell']) (by simp) (by simp only [maxLen]; omega) (by omega) hbW.size ?_
              intro a3 c3 w3 ho3 hg3
              have hb3 := below_append hbW hoW hg3 hbW.size
              have hH3 := box_grow hHW hg3 (own_block_of (own_box_ne hoW hHW (by decide)))
              have o3 := OwnI.snoc ho3
              clear hoW ho3 hg3 hcW hHW hbW)
            go_roundw
            case rel => exact ⟨k + 1, M ++ [1], a3, c3, by omega, by go_num, by simp, by rw [List.length_append, HM.out]; simp; omega, o3, hb3, hH3⟩
            case measure => simp [intOf]; omega
          · have hsk : s ≤ (k : Int) := by omega
            clear hlt
            go_wp2
            go_ret
            exact ⟨a, M, c, rfl, by have := HM.out; have := HLB.out; omega, hl12, o, hb⟩
end Go.Proofs.Ythkeodpejhmkbaa
