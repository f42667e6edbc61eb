/- Rows: how many samples each has; the shortest one; whole bits. -/
import Derived.Test.YthkeodpejhmkbaaRuns
namespace Go.Proofs.Ythkeodpejhmkbaa
open Go.RowKit

noncomputable def runsL (xs : List Int) : List Int := if sampB xs then runs xs else []
theorem runs_bd (xs : List Int) : (runs xs).length ≤ xs.length ∧ ∀ c ∈ runs xs, 1 ≤ c ∧ c ≤ xs.length := by
  obtain ⟨h1, h2⟩ := rows_bd xs
  refine ⟨by unfold runs; rw [List.length_map]; exact h1, fun c hc => ?_⟩
  obtain ⟨p, hp, rfl⟩ := List.mem_map.1 hc
  exact h2 p hp
theorem runsL_bd (xs : List Int) : (runsL xs).length ≤ 500 ∧ ∀ c ∈ runsL xs, 1 ≤ c ∧ c ≤ 500 := by
  unfold runsL
  split
  · rename_i h
    have hl := sampB_len h
    obtain ⟨h1, h2⟩ := runs_bd xs
    exact ⟨by omega, fun c hc => by have := h2 c hc; omega⟩
  · exact ⟨by simp, fun c hc => by simp at hc⟩
theorem rowCells_at {w : World} {ao : Option Addr} {L : List (Int × Int)} (h : Cells w ao (L.flatMap rowCells)) {k : Nat} (hk : k < L.length) :
    ∃ b off y c, ao = some ⟨b, off, none⟩ ∧ L[k]? = some (y, c) ∧ w.cell? ⟨b, off + k * 2, none⟩ = some (.int .i64 y) ∧ w.cell? ⟨b, off + k * 2 + 1, none⟩ = some (.int .i64 c) := by
  have hx : L[k]? = some L[k] := List.getElem?_eq_getElem hk
  have f := fun j (hj : j < 2) => flatN rowCells 2 (fun _ => rfl) L k _ j hx hj
  rcases h with h | ⟨b, off, h, hc⟩
  · have := f 0 (by omega); rw [h] at this; simp [rowCells] at this
  · exact ⟨b, off, L[k].1, L[k].2, h, hx, hc _ _ (f 0 (by omega)), hc _ _ (f 1 (by omega))⟩

set_option maxHeartbeats 400000 in
theorem implRunsOf_any (ao : Option Addr) (xs : List Int) (c : Nat) (w : World) (hx : Ints w ao xs) (lx : xs.length ≤ 4611686018427387904) :
    Calls Try.prog 14 #[.slice ao xs.length c] w fun e w' => ∃ ao' c', e = .returned (.slice ao' (runsL xs).length c') ∧ OwnI w' w.heap.size ao' c' (runsL xs) ∧ Below w.heap.size w w' := by
  cases hv : sampB xs
  · have e0 : runsL xs = [] := by simp [runsL, hv]
    have E0 := Lib.hid e0
    clear e0
    go_enter Try.func14, Try.ntmps14
    go_wp2_with fail
    refine (samplesValid_any ao xs c w hx lx).mono ?_
    rintro e w1 ⟨rfl, hb1⟩
    go_wp2
    go_ret
    rw [E0.out]
    exact ⟨none, 0, rfl, World.ownsRow_nil _ _ _ _, hb1⟩
  · have e0 : runsL xs = (rows xs).map (·.2) := by simp [runsL, hv, runs]
    have E0 := Lib.hid e0
    have hl5 := sampB_len hv
    have hrl := (rows_bd xs).1
    clear e0
    go_enter Try.func14, Try.ntmps14
    go_wp2_with fail
    refine (samplesValid_any ao xs c w hx lx).mono ?_
    rintro e w1 ⟨rfl, hb1⟩
    go_wp2_with fail
    refine (rowsOf_any ao xs c w1 (hx.below hb1) (by omega)).mono ?_
    rintro e w2 ⟨ar, cr, rfl, orr, hb2⟩
    have hB2 := below_join hb1 hb2
    have hrc : Cells w2 ar ((rows xs).flatMap rowCells) := own_cells orr
    have hw2 := hB2.size
    generalize hR : rows xs = R at hrc hrl
    have HR := Lib.hid hR
    clear hR orr
    go_wp2
    go_loopw [3, 12] (fun v i wr => ∃ (k : Nat) (L : List Int) (ao' : Option Addr) (c' : Nat), k ≤ R.length ∧ i = .int .i64 k ∧ v = .slice ao' L.length c' ∧ OwnI wr w2.heap.size ao' c' L ∧ Below w2.heap.size w2 wr ∧ L = (R.take k).map (·.2)) (fun _ i _ => R.length - (intOf i).toNat)
    case atStart => exact ⟨0, [], none, 0, Nat.zero_le _, rfl, rfl, World.ownsRow_nil _ _ _ _, Below.refl _ _, rfl⟩
    case round =>
      obtain ⟨k, L, ao', c', hk, rfl, rfl, ho, hbr, hL⟩ := hrel
      have hll : L.length ≤ R.length := by rw [hL, List.length_map]; exact List.length_take_le' _ _
      have HL := Lib.hid hL
      clear hL
      by_cases hlt : k < R.length
      · obtain ⟨b, off, y, cnt, rfl, er, x0, x1⟩ := rowCells_at (hrc.below hbr) hlt
        have ER := Lib.hid er
        clear er hx hrc
        go_wp2_with (
          at_builtin
          refine name_list fun W hW => ?_
          have hoW : OwnI W w2.heap.size ao' c' L := by rw [hW]; exact (ho.alloc _).alloc _
          have hbW : Below w2.heap.size w2 W := by rw [hW]; exact (hbr.alloc hbr.size _).alloc (by simp; have := hbr.size; omega) _
          have hcW : Cells W (some ⟨wr.heap.size + 1, 0, none⟩) [.int .i64 cnt] := by rw [hW]; exact cells_new _ #[.int .i64 cnt] _ (by simp)
          clear hW x0 x1 ho
          refine wpList_append_row W rfl _ _ _ rfl w2.heap.size 3 _ 1 8 Try.underlying22 int_info rfl (by decide) ao' L.length c' _ (by rfl) hoW (some ⟨wr.heap.size + 1, 0, none⟩) 1 1 [.int .i64 cnt] (by rfl) hcW rfl (by simp [Value.oneCell']) (by simp) (by simp only [maxLen]; omega) (by omega) hbW.size ?_
          intro ao2 c2 w3 ho2 hg2
          have hb3 := below_append hbW hoW hg2 hbW.size
          have ho3 := OwnI.snoc ho2
          clear hoW hcW ho2 hg2)
        go_roundw
        case rel => exact ⟨k + 1, L ++ [cnt], ao2, c2, by omega, by go_num, by simp, ho3, hb3, by rw [take_succ_of ER.out, List.map_append, ← HL.out]; rfl⟩
        case measure => simp [intOf]; omega
      · have he : k = R.length := by omega
        go_wp2
        go_ret
        have e1 : L = runsL xs := by rw [E0.out, HL.out, he, List.take_length, HR.out]
        rw [← e1]
        exact ⟨ao', c', rfl, ho.base hw2, hB2.trans (hbr.mono hw2)⟩

theorem runs_step {xs : List Int} {k : Nat} {x : Int} (h : xs[k]? = some x) : runs (xs.take (k + 1)) = (addRow (rows (xs.take k)) x).map (·.2) := by unfold runs; rw [rows_step h]

/-- The last number of a row, and what it is when one is added. -/
theorem own_bump' {w : World} {base c : Nat} {ao : Option Addr} {L : List Int} {x : Int} (h : OwnI w base ao c (L ++ [x])) :
    ∃ g, ao = some ⟨g, 0, none⟩ ∧ base ≤ g ∧ w.cell? ⟨g, L.length, none⟩ = some (.int .i64 x) ∧ w.frozen? ⟨g, L.length, none⟩ = false ∧ OwnI (w.setCell ⟨g, L.length, none⟩ (.int .i64 (x + 1))) base (some ⟨g, 0, none⟩) c (L ++ [x + 1]) := by
  have h' : w.ownsRow base 3 1 (.slice ao (L.length + 1) c) (L.length + 1) (L.map (Value.int .i64) ++ [.int .i64 x]) := by simpa [OwnI] using h
  rcases own_head h' with ⟨_, h0, _⟩ | ⟨g, rfl, hgb, hgs⟩
  · omega
  · refine ⟨g, rfl, hgb, own_cell_at h' (by simp), h'.frozenAt _, ?_⟩
    have := (h'.stored L.length (.int .i64 (x + 1))).1
    rw [List.set_append_right _ _ (by simp)] at this
    exact OwnI.snoc (by simpa using this)
theorem own_bump {w : World} {base c : Nat} {ao : Option Addr} {L : List Int} {x : Int} (h : w.ownsRow base 3 1 (.slice ao (L.length + 1) c) (L.length + 1) (L.map (Value.int .i64) ++ [.int .i64 x])) :
    ∃ g, ao = some ⟨g, 0, none⟩ ∧ base ≤ g ∧ w.cell? ⟨g, L.length, none⟩ = some (.int .i64 x) ∧ w.frozen? ⟨g, L.length, none⟩ = false ∧ OwnI (w.setCell ⟨g, L.length, none⟩ (.int .i64 (x + 1))) base (some ⟨g, 0, none⟩) c (L ++ [x + 1]) :=
  own_bump' (OwnI.snoc h)

set_option maxHeartbeats 1000000 in
theorem l41Runs_any (ao : Option Addr) (xs : List Int) (c : Nat) (w : World) (hx : Ints w ao xs) (lx : xs.length ≤ 1048576) :
    Calls Try.prog 27 #[.slice ao xs.length c] w fun e w' => ∃ ao' c', e = .returned (.slice ao' (runs xs).length c') ∧ OwnI w' w.heap.size ao' c' (runs xs) ∧ Below w.heap.size w w' := by
  go_enter Try.func27, Try.ntmps27
  go_wp2
  go_loopw [3, 4] (fun v i wr => ∃ (k : Nat) (L : List Int) (ao' : Option Addr) (c' : Nat), k ≤ xs.length ∧ i = .int .i64 k ∧ v = .slice ao' L.length c' ∧ OwnI wr w.heap.size ao' c' L ∧ Below w.heap.size w wr ∧ L = runs (xs.take k)) (fun _ i _ => xs.length - (intOf i).toNat)
  case atStart => exact ⟨0, [], _, 0, Nat.zero_le _, rfl, rfl, World.ownsRow_made w #[] 0 (Nat.le_refl _) (by simp) (by simp), (Below.refl _ _).alloc (Nat.le_refl _) _, rfl⟩
  case round =>
    obtain ⟨k, L, ao', c', hk, rfl, rfl, ho, hb, hL⟩ := hrel
    have HL := Lib.hid hL
    obtain ⟨hl1, hl2⟩ := runs_bd (xs.take k)
    rw [← hL] at hl1 hl2
    have hl4 : (xs.take k).length ≤ xs.length := List.length_take_le' _ _
    have hl3 : L.length ≤ xs.length := Nat.le_trans hl1 hl4
    clear hL hl1
    by_cases hlt : k < xs.length
    · obtain ⟨b, off, x, rfl, ex, x0⟩ := (hx.below hb).at_ hlt
      have EX := Lib.hid ex
      clear ex
      by_cases hk0 : k = 0
      · have HRS : Hid (L ++ [1] = runs (xs.take (k + 1))) := Lib.hid (by rw [runs_step EX.out, HL.out, hk0]; rfl)
        have HK0 := Lib.hid hk0
        have hkb : ((k : Int) == 0) = true := by simpa using hk0
        clear hk0 hl2 hx
        go_wp2
        go_quiet (fail)
        go_wp2_with (
          at_builtin
          refine name_list fun W hW => ?_
          have hoW : OwnI W w.heap.size ao' c' L := by rw [hW]; exact ho.alloc _
          have hbW : Below w.heap.size w W := by rw [hW]; exact (below_drewN hb _).alloc hb.size _
          have hcW : Cells W (some ⟨wr.heap.size, 0, none⟩) [.int .i64 0] := by rw [hW]; exact cells_new _ #[.int .i64 0] _ rfl
          clear hW x0 ho
          refine wpList_append_row W rfl _ _ _ rfl w.heap.size 3 _ 1 8 Try.underlying22 int_info rfl (by decide) ao' L.length c' _ (by rfl) hoW (some ⟨wr.heap.size, 0, none⟩) 1 1 [.int .i64 0] (by rfl) hcW rfl (by simp [Value.oneCell']) (by simp) (by simp only [maxLen]; omega) (by omega) hbW.size ?_
          intro ao2 c2 w2 ho2 hg2
          have hb2 := below_append hbW hoW hg2 hbW.size
          obtain ⟨g, rfl, hgb, d0, f0, hs0⟩ := own_bump ho2
          have HS := Lib.hid hs0
          clear hoW hg2 hcW hs0 ho2)
        go_roundw
        case rel => exact ⟨k + 1, L ++ [1], some ⟨g, 0, none⟩, c2, by omega, by go_num, by simp, HS.out, hb2.setCell hgb _, HRS.out⟩
        case measure => simp [intOf]; omega
      have hk1 : 0 < k := by omega
      have hkb : ((k : Int) == 0) = false := by simpa using hk0
      obtain ⟨b', off', y, e', ey, y0⟩ := (hx.below hb).at_ (show k - 1 < xs.length by omega)
      obtain ⟨rfl, rfl⟩ : b = b' ∧ off = off' := by simpa using e'
      obtain ⟨R, cnt, hR⟩ := rows_last ey
      rw [show k - 1 + 1 = k by omega] at hR
      have hLR : L = R.map (·.2) ++ [cnt] := by rw [HL.out, runs, hR]; simp
      clear hk0 hx e' ey
      by_cases hxy : x = y
      · subst hxy
        have HRS : Hid (R.map (·.2) ++ [cnt + 1] = runs (xs.take (k + 1))) := Lib.hid (by rw [runs_step EX.out, hR, addRow_same]; simp)
        subst hLR
        clear hR
        generalize R.map (·.2) = L' at *
        have hct := hl2 cnt (by simp)
        have hn : L'.length + 1 ≤ xs.length := by simpa using hl3
        obtain ⟨g, rfl, hgb, d0, f0, hs0⟩ := own_bump' ho
        have HS := Lib.hid hs0
        clear hs0 ho hl2
        simp only [List.length_append, List.length_singleton]
        go_wp2
        go_quiet (fail)
        go_wp2
        go_roundw
        case rel => exact ⟨k + 1, L' ++ [cnt + 1], some ⟨g, 0, none⟩, c', by omega, by go_num, by simp, HS.out, (below_drewN hb _).setCell hgb _, HRS.out⟩
        case measure => simp [intOf]; omega
      · have HRS : Hid (L ++ [1] = runs (xs.take (k + 1))) := Lib.hid (by rw [runs_step EX.out, hR, addRow_new _ _ (Ne.symm hxy), hLR]; simp)
        have hq : (x != y) = true := by simpa using hxy
        clear hxy hLR hR hl2
        go_wp2
        go_quiet (fail)
        go_wp2_with (
          at_builtin
          refine name_list fun W hW => ?_
          have hoW : OwnI W w.heap.size ao' c' L := by rw [hW]; exact ho.alloc _
          have hbW : Below w.heap.size w W := by rw [hW]; exact (below_drewN hb _).alloc hb.size _
          have hcW : Cells W (some ⟨wr.heap.size, 0, none⟩) [.int .i64 0] := by rw [hW]; exact cells_new _ #[.int .i64 0] _ rfl
          clear hW x0 y0 ho
          refine wpList_append_row W rfl _ _ _ rfl w.heap.size 3 _ 1 8 Try.underlying22 int_info rfl (by decide) ao' L.length c' _ (by rfl) hoW (some ⟨wr.heap.size, 0, none⟩) 1 1 [.int .i64 0] (by rfl) hcW rfl (by simp [Value.oneCell']) (by simp) (by simp only [maxLen]; omega) (by omega) hbW.size ?_
          intro ao2 c2 w2 ho2 hg2
          have hb2 := below_append hbW hoW hg2 hbW.size
          obtain ⟨g, rfl, hgb, d0, f0, hs0⟩ := own_bump ho2
          have HS := Lib.hid hs0
          clear hoW hg2 hcW hs0 ho2)
        go_roundw
        case rel => exact ⟨k + 1, L ++ [1], some ⟨g, 0, none⟩, c2, by omega, by go_num, by simp, HS.out, hb2.setCell hgb _, HRS.out⟩
        case measure => simp [intOf]; omega
    · have he : k = xs.length := by omega
      have e1 : L = runs xs := by rw [HL.out, he, List.take_length]
      have E1 := Lib.hid e1
      clear e1 hl2
      go_wp2
      go_ret
      rw [← E1.out]
      exact ⟨ao', c', rfl, ho, hb⟩
end Go.Proofs.Ythkeodpejhmkbaa
