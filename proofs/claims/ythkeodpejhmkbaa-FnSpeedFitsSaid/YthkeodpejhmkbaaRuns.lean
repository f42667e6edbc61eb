/- Samples and their rows. -/
import Derived.Test.YthkeodpejhmkbaaLeaf
namespace Go.Proofs.Ythkeodpejhmkbaa
open Go.RowKit

def bitP (x : Int) : Bool := decide (x = 0 ∨ x = 1)
def bitsB (xs : List Int) : Bool := xs.all bitP
def sampB (xs : List Int) : Bool := decide (xs.length ≤ 500) && bitsB xs
theorem sampB_len {xs : List Int} (h : sampB xs = true) : xs.length ≤ 500 := by simp [sampB] at h; exact h.1
theorem inB_bit (x : Int) : inB x 0 1 = bitP x := by unfold inB bitP; rw [Bool.eq_iff_iff]; simp; omega

theorem allBits_any (ao : Option Addr) (xs : List Int) (c : Nat) (w : World) (hx : Ints w ao xs) (lx : xs.length ≤ 4611686018427387904) :
    Calls Try.prog 35 #[.slice ao xs.length c] w fun e w' => e = .returned (.bool (bitsB xs)) ∧ Below w.heap.size w w' := by
  go_enter Try.func35, Try.ntmps35
  go_wp2
  go_loopw [7] (fun i wr => ∃ k : Nat, k ≤ xs.length ∧ i = .int .i64 k ∧ Below w.heap.size w wr ∧ bitsB (xs.take k) = true) (fun i _ => xs.length - (intOf i).toNat)
  case atStart => exact ⟨0, Nat.zero_le _, rfl, Below.refl _ _, rfl⟩
  case round =>
    obtain ⟨k, hk, rfl, hb, hall⟩ := hrel
    have HA := Lib.hid hall
    clear hall
    by_cases hlt : k < xs.length
    · obtain ⟨b, off, x, rfl, ex, x0⟩ := (hx.below hb).at_ hlt
      have EX := Lib.hid ex
      clear ex hx
      by_cases h0 : x = 0
      · subst h0
        go_wp2
        go_roundw
        case rel => exact ⟨k + 1, by omega, by go_num, hb, all_step EX.out HA.out rfl⟩
        case measure => simp [intOf]; omega
      by_cases h1 : x = 1
      · subst h1
        go_wp2
        go_roundw
        case rel => exact ⟨k + 1, by omega, by go_num, hb, all_step EX.out HA.out rfl⟩
        case measure => simp [intOf]; omega
      · have b0 : (x != 0) = true := by simpa using h0
        have b1 : (x != 1) = true := by simpa using h1
        go_wp2
        go_ret
        exact ⟨ret_bool (all_no EX.out (by simp [bitP, h0, h1])).symm, hb⟩
    · have he : k = xs.length := by omega
      go_wp2
      go_ret
      refine ⟨ret_bool ?_, hb⟩
      have := HA.out
      rw [he, List.take_length] at this
      exact this.symm

theorem samplesValid_any (ao : Option Addr) (xs : List Int) (c : Nat) (w : World) (hx : Ints w ao xs) (lx : xs.length ≤ 4611686018427387904) :
    Calls Try.prog 28 #[.slice ao xs.length c] w fun e w' => e = .returned (.bool (sampB xs)) ∧ Below w.heap.size w w' := by
  by_cases hl : xs.length ≤ 500
  · have hd : (xs.length : Int) ≤ 500 := by omega
    go_enter Try.func28, Try.ntmps28
    go_wp2_with fail
    refine (allBits_any ao xs c w hx lx).mono ?_
    rintro e w1 ⟨rfl, hb⟩
    go_wp2
    go_ret
    exact ⟨ret_bool (by simp [sampB, hl]), hb⟩
  · have hs : sampB xs = false := by simp [sampB, hl]
    have HS := Lib.hid hs
    have hd : (500 : Int) < (xs.length : Int) := by omega
    clear hs
    go_enter Try.func28, Try.ntmps28
    go_wp2
    go_ret
    exact ⟨ret_bool HS.out.symm, Below.refl _ _⟩

theorem l3Samples_any (ao : Option Addr) (xs : List Int) (c : Nat) (w : World) (hx : Ints w ao xs) (lx : xs.length ≤ 4611686018427387904) :
    Calls Try.prog 26 #[.slice ao xs.length c] w fun e w' => e = .returned (.bool (sampB xs)) ∧ Below w.heap.size w w' := by
  go_enter Try.func26, Try.ntmps26
  go_wp2
  go_loopw [3] (fun i wr => ∃ k : Nat, k ≤ xs.length ∧ i = .int .i64 k ∧ Below w.heap.size w wr ∧ bitsB (xs.take k) = true) (fun i _ => xs.length - (intOf i).toNat)
  case atStart => exact ⟨0, Nat.zero_le _, rfl, Below.refl _ _, rfl⟩
  case round =>
    obtain ⟨k, hk, rfl, hb, hall⟩ := hrel
    have HA := Lib.hid hall
    clear hall
    by_cases hlt : k < xs.length
    · obtain ⟨b, off, x, rfl, ex, x0⟩ := (hx.below hb).at_ hlt
      have EX := Lib.hid ex
      clear ex hx
      cases hv : inB x 0 1
      · go_wp2_with fail
        refine (l6In_any x 0 1 _).mono ?_
        rintro e w1 ⟨rfl, rfl⟩
        go_wp2
        go_ret
        refine ⟨ret_bool ?_, hb⟩
        have : bitsB xs = false := all_no EX.out (by rw [← inB_bit]; exact hv)
        simp [sampB, this]
      · go_wp2_with fail
        refine (l6In_any x 0 1 _).mono ?_
        rintro e w1 ⟨rfl, rfl⟩
        go_wp2
        go_roundw
        case rel => exact ⟨k + 1, by omega, by go_num, hb, all_step EX.out HA.out (by rw [← inB_bit]; exact hv)⟩
        case measure => simp [intOf]; omega
    · have he : k = xs.length := by omega
      have hs : bitsB xs = true := by
        have := HA.out
        rwa [he, List.take_length] at this
      by_cases hl : xs.length ≤ 500
      · have e1 : sampB xs = true := by simp [sampB, hs, hl]
        have E1 := Lib.hid e1
        clear e1 hs
        go_wp2
        go_ret
        refine ⟨ret_bool ?_, hb⟩
        rw [E1.out]
        exact decide_eq_true (by omega)
      · have e1 : sampB xs = false := by simp [sampB, hl]
        have E1 := Lib.hid e1
        clear e1 hs
        go_wp2
        go_ret
        refine ⟨ret_bool ?_, hb⟩
        rw [E1.out]
        exact decide_eq_false (by omega)

/-! ### Rows -/
def addRow (L : List (Int × Int)) (x : Int) : List (Int × Int) :=
  match L.getLast? with
  | some (y, c) => if y = x then L.dropLast ++ [(y, c + 1)] else L ++ [(x, 1)]
  | none => [(x, 1)]
def rows (xs : List Int) : List (Int × Int) := xs.foldl addRow []
def runs (xs : List Int) : List Int := (rows xs).map (·.2)
theorem addRow_nil (x : Int) : addRow [] x = [(x, 1)] := rfl
theorem addRow_same (L : List (Int × Int)) (x c : Int) : addRow (L ++ [(x, c)]) x = L ++ [(x, c + 1)] := by simp [addRow]
theorem addRow_new (L : List (Int × Int)) {x y : Int} (c : Int) (h : y ≠ x) : addRow (L ++ [(y, c)]) x = L ++ [(y, c)] ++ [(x, 1)] := by simp [addRow, h]
theorem rows_nil : rows [] = [] := rfl
theorem rows_snoc (xs : List Int) (x : Int) : rows (xs ++ [x]) = addRow (rows xs) x := by simp [rows, List.foldl_append]
theorem rows_step {xs : List Int} {k : Nat} {x : Int} (h : xs[k]? = some x) : rows (xs.take (k + 1)) = addRow (rows (xs.take k)) x := by rw [take_succ_of h, rows_snoc]
theorem addRow_bd {L : List (Int × Int)} {n : Int} (h : ∀ p ∈ L, 1 ≤ p.2 ∧ p.2 ≤ n) (hn : 0 ≤ n) (x : Int) : ∀ p ∈ addRow L x, 1 ≤ p.2 ∧ p.2 ≤ n + 1 := by
  rcases List.eq_nil_or_concat L with rfl | ⟨L', ⟨y, c⟩, rfl⟩
  · intro p hp; rw [addRow_nil] at hp; simp at hp; subst hp; simp; omega
  · rw [List.concat_eq_append] at h ⊢
    have hc := h (y, c) (by simp)
    by_cases hy : y = x
    · subst hy
      rw [addRow_same]
      intro p hp
      rcases List.mem_append.1 hp with hp | hp
      · have := h p (by simp [hp]); omega
      · simp at hp; subst hp; simp; dsimp only at hc; omega
    · rw [addRow_new _ _ hy]
      intro p hp
      rcases List.mem_append.1 hp with hp | hp
      · have := h p hp; omega
      · simp at hp; subst hp; simp; omega
theorem addRow_len (L : List (Int × Int)) (x : Int) : (addRow L x).length ≤ L.length + 1 := by
  rcases List.eq_nil_or_concat L with rfl | ⟨L', ⟨y, c⟩, rfl⟩
  · simp [addRow_nil]
  · rw [List.concat_eq_append]
    by_cases hy : y = x
    · subst hy; rw [addRow_same]; simp
    · rw [addRow_new _ _ hy]; simp
theorem rows_bd (xs : List Int) : (rows xs).length ≤ xs.length ∧ ∀ p ∈ rows xs, 1 ≤ p.2 ∧ p.2 ≤ xs.length := by
  suffices ∀ n, ∀ xs : List Int, xs.length = n → (rows xs).length ≤ n ∧ ∀ p ∈ rows xs, 1 ≤ p.2 ∧ p.2 ≤ n from this _ xs rfl
  intro n
  induction n with
  | zero => intro xs h; obtain rfl := List.eq_nil_of_length_eq_zero h; exact ⟨Nat.le_refl _, fun p hp => by simp [rows_nil] at hp⟩
  | succ n ih =>
    intro xs h
    rcases List.eq_nil_or_concat xs with rfl | ⟨ys, x, rfl⟩
    · simp at h
    · rw [List.concat_eq_append] at h ⊢
      obtain ⟨h1, h2⟩ := ih ys (by simp at h; omega)
      rw [rows_snoc]
      refine ⟨Nat.le_trans (addRow_len _ _) (by omega), ?_⟩
      have := addRow_bd (n := (n : Int)) h2 (by omega) x
      intro p hp
      have := this p hp
      omega
theorem rows_last {xs : List Int} {k : Nat} {x : Int} (h : xs[k]? = some x) : ∃ L c, rows (xs.take (k + 1)) = L ++ [(x, c)] := by
  rw [rows_step h]
  rcases List.eq_nil_or_concat (rows (xs.take k)) with e | ⟨L', ⟨y, c⟩, e⟩
  · rw [e]; exact ⟨[], 1, rfl⟩
  · rw [e, List.concat_eq_append]
    by_cases hy : y = x
    · subst hy; exact ⟨L', c + 1, addRow_same _ _ _⟩
    · exact ⟨_, 1, addRow_new _ _ hy⟩

def rowCells (p : Int × Int) : List Value := [.int .i64 p.1, .int .i64 p.2]
theorem row_info : (Try.prog.info? 37).map (fun i => (i.zero, i.size, i.bytes)) = some (some (.agg #[.int .i64 0, .int .i64 0]), 2, 16) := by kernel_rfl
def OwnW (w : World) (base : Nat) (ao : Option Addr) (c : Nat) (L : List (Int × Int)) : Prop := w.ownsRow base 37 2 (.slice ao L.length c) L.length (L.flatMap rowCells)
theorem OwnW.snoc {w : World} {base c : Nat} {ao : Option Addr} {L : List (Int × Int)} {x y : Int} (h : w.ownsRow base 37 2 (.slice ao (L.length + 1) c) (L.length + 1) (L.flatMap rowCells ++ [.int .i64 x, .int .i64 y])) : OwnW w base ao c (L ++ [(x, y)]) := by
  have e : (L ++ [(x, y)]).flatMap rowCells = L.flatMap rowCells ++ [.int .i64 x, .int .i64 y] := by rw [List.flatMap_append]; rfl
  unfold OwnW
  rw [e, List.length_append]
  exact h

set_option maxHeartbeats 1000000 in
theorem rowsOf_any (ao : Option Addr) (xs : List Int) (c : Nat) (w : World) (hx : Ints w ao xs) (lx : xs.length ≤ 1048576) :
    Calls Try.prog 29 #[.slice ao xs.length c] w fun e w' => ∃ ao' c', e = .returned (.slice ao' (rows xs).length c') ∧ OwnW w' w.heap.size ao' c' (rows xs) ∧ Below w.heap.size w w' := by
  go_enter Try.func29, Try.ntmps29
  go_wp2
  go_loopw [3, 9] (fun v i wr => ∃ (k : Nat) (L : List (Int × Int)) (ao' : Option Addr) (c' : Nat), k ≤ xs.length ∧ i = .int .i64 k ∧ v = .slice ao' L.length c' ∧ OwnW wr w.heap.size ao' c' L ∧ Below w.heap.size w wr ∧ L = rows (xs.take k)) (fun _ i _ => xs.length - (intOf i).toNat)
  case atStart => exact ⟨0, [], none, 0, Nat.zero_le _, rfl, rfl, World.ownsRow_nil _ _ _ _, Below.refl _ _, rfl⟩
  case round =>
    obtain ⟨k, L, ao', c', hk, rfl, rfl, ho, hb, hL⟩ := hrel
    have HL := Lib.hid hL
    obtain ⟨hl1, hl2⟩ := rows_bd (xs.take k)
    rw [← hL] at hl1 hl2
    have hl3 : L.length ≤ xs.length := Nat.le_trans hl1 (List.length_take_le' _ _)
    have hl4 : (xs.take k).length ≤ xs.length := List.length_take_le' _ _
    clear hL hl1
    by_cases hlt : k < xs.length
    · obtain ⟨b, off, x, rfl, ex, x0⟩ := (hx.below hb).at_ hlt
      have EX := Lib.hid ex
      clear ex hx
      rcases List.eq_nil_or_concat L with rfl | ⟨L', ⟨y, cnt⟩, rfl⟩
      · go_wp2_with (
          at_builtin
          refine name_list fun W hW => ?_
          have hoW : OwnW W w.heap.size ao' c' [] := by rw [hW]; exact ho.alloc _
          have hbW : Below w.heap.size w W := by rw [hW]; exact hb.alloc hb.size _
          have hcW : Cells W (some ⟨wr.heap.size, 0, none⟩) [.int .i64 x, .int .i64 1] := by rw [hW]; exact cells_new _ #[.int .i64 x, .int .i64 1] _ rfl
          clear hW x0 ho
          refine wpList_append_row W rfl _ _ _ rfl w.heap.size 37 _ 2 16 Try.underlying34 row_info rfl (by decide) ao' 0 c' _ (by rfl) hoW (some ⟨wr.heap.size, 0, none⟩) 1 1 [.int .i64 x, .int .i64 1] (by rfl) hcW rfl (by simp [Value.oneCell']) (by simp) (by simp only [maxLen]; omega) (by omega) hbW.size ?_
          intro ao2 c2 w2 ho2 hg2
          have hb2 := below_append hbW hoW hg2 hbW.size
          have ho3 := OwnW.snoc (L := []) ho2
          clear hoW ho2 hg2 hcW)
        go_roundw
        case rel => exact ⟨k + 1, [(x, 1)], ao2, c2, by omega, by go_num, by simp, ho3, hb2, by rw [rows_step EX.out, ← HL.out]; rfl⟩
        case measure => simp [intOf]; omega
      · rw [List.concat_eq_append] at ho hl2 hl3 HL
        have hn : L'.length + 1 ≤ xs.length := by simpa using hl3
        have hct := hl2 (y, cnt) (by simp)
        dsimp only at hct
        clear hl2
        have ho' : wr.ownsRow w.heap.size 37 2 (.slice ao' (L'.length + 1) c') (L'.length + 1) (L'.flatMap rowCells ++ [.int .i64 y, .int .i64 cnt]) := by
          have := ho
          unfold OwnW at this
          rw [List.flatMap_append, List.length_append] at this
          exact this
        rcases own_head ho' with ⟨_, h0, _⟩ | ⟨g, rfl, hgb, hgs⟩
        · omega
        have hfl : (L'.flatMap rowCells).length = L'.length * 2 := flatN_length rowCells 2 (fun _ => rfl) L'
        have d0 : wr.cell? ⟨g, L'.length * 2, none⟩ = some (.int .i64 y) := own_cell_at ho' (by rw [← hfl]; simp)
        have d1 : wr.cell? ⟨g, L'.length * 2 + 1, none⟩ = some (.int .i64 cnt) := own_cell_at ho' (by rw [← hfl, List.getElem?_append_right (by omega)]; simp)
        have f1 := ho'.frozenAt (L'.length * 2 + 1)
        by_cases hyx : y = x
        · subst hyx
          have HS := Lib.hid (ho'.stored (L'.length * 2 + 1) (.int .i64 (cnt + 1)))
          have HE : Hid ((L'.flatMap rowCells ++ [Value.int .i64 y, Value.int .i64 cnt]).set (L'.length * 2 + 1) (Value.int .i64 (cnt + 1)) = (L' ++ [(y, cnt + 1)]).flatMap rowCells) := Lib.hid (by
            rw [← hfl, List.set_append_right _ _ (by omega), List.flatMap_append]; simp [rowCells])
          clear ho ho' hfl
          simp only [List.concat_eq_append, List.length_append, List.length_singleton]
          go_wp2
          go_roundw
          case rel => exact ⟨k + 1, L' ++ [(y, cnt + 1)], some ⟨g, 0, none⟩, c', by omega, by go_num, by simp, by have := HS.out.1; rw [HE.out] at this; unfold OwnW; rw [List.length_append]; exact this, hb.setCell hgb _, by rw [rows_step EX.out, ← HL.out, addRow_same]⟩
          case measure => simp [intOf]; omega
        · have hq : (y == x) = false := by simpa using hyx
          have HQ := Lib.hid hyx
          clear hyx hfl ho
          simp only [List.concat_eq_append, List.length_append, List.length_singleton]
          go_wp2_with (
            at_builtin
            refine name_list fun W hW => ?_
            have hoW : W.ownsRow w.heap.size 37 2 (.slice (some ⟨g, 0, none⟩) (L'.length + 1) c') (L'.length + 1) (L'.flatMap rowCells ++ [.int .i64 y, .int .i64 cnt]) := by rw [hW]; exact ho'.alloc _
            have hbW : Below w.heap.size w W := by rw [hW]; exact hb.alloc hb.size _
            have hcW : Cells W (some ⟨wr.heap.size, 0, none⟩) [.int .i64 x, .int .i64 1] := by rw [hW]; exact cells_new _ #[.int .i64 x, .int .i64 1] _ rfl
            clear hW x0 ho' d0 d1 f1
            refine wpList_append_row W rfl _ _ _ rfl w.heap.size 37 _ 2 16 Try.underlying34 row_info rfl (by decide) _ (L'.length + 1) c' _ (by rfl) hoW (some ⟨wr.heap.size, 0, none⟩) 1 1 [.int .i64 x, .int .i64 1] (by rfl) hcW rfl (by simp [Value.oneCell']) (by simp) (by simp only [maxLen]; omega) (by omega) hbW.size ?_
            intro ao2 c2 w2 ho2 hg2
            have hb2 := below_append hbW hoW hg2 hbW.size
            clear hoW hg2 hcW)
          go_roundw
          case rel => exact ⟨k + 1, L' ++ [(y, cnt)] ++ [(x, 1)], ao2, c2, by omega, by go_num, by simp, OwnW.snoc (L := L' ++ [(y, cnt)]) (by rw [List.flatMap_append, List.length_append]; exact ho2), hb2, by rw [rows_step EX.out, ← HL.out, addRow_new _ _ HQ.out]⟩
          case measure => simp [intOf]; omega
    · have he : k = xs.length := by omega
      have e1 : L = rows xs := by rw [HL.out, he, List.take_length]
      have E1 := Lib.hid e1
      clear e1 hl2
      go_wp2
      go_ret
      rw [← E1.out]
      exact ⟨ao', c', rfl, ho, hb⟩
end Go.Proofs.Ythkeodpejhmkbaa
