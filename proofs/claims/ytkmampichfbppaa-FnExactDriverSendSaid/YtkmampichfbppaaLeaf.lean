/- Contracts of the small functions that many statements share: tests on numbers, lists of numbers compared, marked and looked up again. -/
import Derived.Test.YtkmampichfbppaaRows
import Derived.Test.YtkmampichfbppaaMem
namespace Go.Proofs.Ytkmampichfbppaa
open Go.RowKit

theorem int_info : (Try.prog.info? 3).map (fun i => (i.zero, i.size, i.bytes)) = some (some (.int .i64 0), 1, 8) := by kernel_rfl
def OwnI (w : World) (base : Nat) (ao : Option Addr) (c : Nat) (xs : List Int) : Prop := w.ownsRow base 3 1 (.slice ao xs.length c) xs.length (xs.map (Value.int .i64))
theorem OwnI.ints {w : World} {base c : Nat} {ao : Option Addr} {xs : List Int} (h : OwnI w base ao c xs) : Ints w ao xs := own_cells h
theorem OwnI.below {w w' : World} {base c : Nat} {ao : Option Addr} {xs : List Int} (h : OwnI w base ao c xs) (hb : Below w.heap.size w w') : OwnI w' base ao c xs := own_below h hb
theorem OwnI.base {w : World} {base base' c : Nat} {ao : Option Addr} {xs : List Int} (h : OwnI w base ao c xs) (hb : base' ≤ base) : OwnI w base' ao c xs := own_base h hb

theorem calls_below {P : Program} {f : FuncId} {args : Array Value} {w : World} {v : Value} (h : Calls P f args w fun e w' => e = .returned v ∧ w = w') : Calls P f args w fun e w' => e = .returned v ∧ Below w.heap.size w w' :=
  h.mono fun _ _ ⟨he, hw⟩ => ⟨he, hw ▸ Below.refl _ _⟩
def byteB (n : Int) : Bool := decide (0 ≤ n ∧ n ≤ 255)
def inB (n lo hi : Int) : Bool := decide (lo ≤ n ∧ n ≤ hi)

theorem isByte_any (n : Int) (w : World) : Calls Try.prog 76 #[.int .i64 n] w fun e w' => e = .returned (.bool (byteB n)) ∧ w = w' := by
  go_enter Try.func76, Try.ntmps76
  go_wp2
  all_goals (go_ret; exact ⟨ret_bool (by rw [Bool.eq_iff_iff]; simp [byteB] <;> omega), rfl⟩)

theorem l6In_any (n lo hi : Int) (w : World) : Calls Try.prog 36 #[.int .i64 n, .int .i64 lo, .int .i64 hi] w fun e w' => e = .returned (.bool (inB n lo hi)) ∧ w = w' := by
  go_enter Try.func36, Try.ntmps36
  go_wp2
  all_goals (go_ret; exact ⟨ret_bool (by rw [Bool.eq_iff_iff]; simp [inB] <;> omega), rfl⟩)

theorem all_step {α : Type} {p : α → Bool} {xs : List α} {k : Nat} {x : α} (h : xs[k]? = some x) (h0 : (xs.take k).all p = true) (hx : p x = true) : (xs.take (k + 1)).all p = true := by
  rw [take_succ_of h, List.all_append, h0]; simp [hx]
theorem all_no {α : Type} {p : α → Bool} {xs : List α} {k : Nat} {x : α} (h : xs[k]? = some x) (hx : p x = false) : xs.all p = false :=
  List.all_eq_false.2 ⟨x, List.mem_of_getElem? h, by simp [hx]⟩
theorem OwnI.snoc {w : World} {base c : Nat} {ao : Option Addr} {L : List Int} {y : Int} (h : w.ownsRow base 3 1 (.slice ao (L.length + 1) c) (L.length + 1) (L.map (Value.int .i64) ++ [.int .i64 y])) : OwnI w base ao c (L ++ [y]) := by
  simpa [OwnI] using h
theorem eq_take_step {α : Type} {xs ys : List α} {k : Nat} {x y : α} (hx : xs[k]? = some x) (hy : ys[k]? = some y) (h : xs.take k = ys.take k) (e : x = y) : xs.take (k + 1) = ys.take (k + 1) := by
  rw [take_succ_of hx, take_succ_of hy, h, e]
theorem ne_of_at {α : Type} {xs ys : List α} {k : Nat} {x y : α} (hx : xs[k]? = some x) (hy : ys[k]? = some y) (e : x ≠ y) : xs ≠ ys := by
  rintro rfl; rw [hx] at hy; exact e (Option.some.inj hy)

set_option maxHeartbeats 400000 in
theorem sameInts_any (ao bo : Option Addr) (xs ys : List Int) (c d : Nat) (w : World) (hx : Ints w ao xs) (hy : Ints w bo ys)
    (lx : xs.length ≤ 4611686018427387904) (ly : ys.length ≤ 4611686018427387904) :
    Calls Try.prog 25 #[.slice ao xs.length c, .slice bo ys.length d] w fun e w' => e = .returned (.bool (decide (xs = ys))) ∧ ∃ n, w' = w.drewN n := by
  by_cases hl : xs.length = ys.length
  · have hlb : ((xs.length : Int) != (ys.length : Int)) = false := by simp [hl]
    have HL := Lib.hid hl
    clear hl
    go_enter Try.func25, Try.ntmps25
    go_wp2
    go_loopw [5] (fun i wr => ∃ k n : Nat, k ≤ xs.length ∧ i = .int .i64 k ∧ wr = w.drewN n ∧ xs.take k = ys.take k) (fun i _ => xs.length - (intOf i).toNat)
    case atStart => exact ⟨0, 0, Nat.zero_le _, rfl, rfl, rfl⟩
    case round =>
      obtain ⟨k, n, hk, rfl, rfl, ht⟩ := hrel
      have HT := Lib.hid ht
      clear ht
      by_cases hlt : k < xs.length
      · have hlt2 : k < ys.length := by have := HL.out; omega
        obtain ⟨b, off, x, rfl, ex, hcx⟩ := hx.at_ hlt
        obtain ⟨b2, off2, y, rfl, ey, hcy⟩ := hy.at_ hlt2
        have EX := Lib.hid ex
        have EY := Lib.hid ey
        clear ex ey hx hy
        by_cases hxy : x = y
        · subst hxy
          go_wp2
          go_quiet (fail)
          go_wp2
          go_roundw
          case rel => exact ⟨k + 1, _, by omega, by go_num, rfl, eq_take_step EX.out EY.out HT.out rfl⟩
          case measure => simp [intOf]; omega
        · have HN := Lib.hid hxy
          have hb : (x != y) = true := by simpa using hxy
          clear hxy
          go_wp2
          go_quiet (fail)
          go_wp2
          go_ret
          exact ⟨ret_bool (by simp [ne_of_at EX.out EY.out HN.out]), n + nq, by simp⟩
      · go_wp2
        go_ret
        have e1 := HT.out
        have e2 := HL.out
        rw [List.take_of_length_le (by omega), List.take_of_length_le (by omega)] at e1
        exact ⟨ret_bool (by simp [e1]), _, rfl⟩
  · have hlb : ((xs.length : Int) != (ys.length : Int)) = true := by simp; omega
    go_enter Try.func25, Try.ntmps25
    go_wp2
    go_ret
    refine ⟨?_, 0, rfl⟩
    rw [show decide (xs = ys) = false by simp; rintro rfl; exact hl rfl]
    rfl
theorem sameInts_below (ao bo : Option Addr) (xs ys : List Int) (c d : Nat) (w : World) (hx : Ints w ao xs) (hy : Ints w bo ys)
    (lx : xs.length ≤ 4611686018427387904) (ly : ys.length ≤ 4611686018427387904) :
    Calls Try.prog 25 #[.slice ao xs.length c, .slice bo ys.length d] w fun e w' => e = .returned (.bool (decide (xs = ys))) ∧ Below w.heap.size w w' :=
  (sameInts_any ao bo xs ys c d w hx hy lx ly).mono fun _ _ ⟨he, n, hn⟩ => ⟨he, hn ▸ below_drewN (Below.refl _ _) n⟩

set_option maxHeartbeats 400000 in
theorem eqIntS_any (ao bo : Option Addr) (xs ys : List Int) (c d : Nat) (w : World) (hx : Ints w ao xs) (hy : Ints w bo ys)
    (lx : xs.length ≤ 4611686018427387904) (ly : ys.length ≤ 4611686018427387904) :
    Calls Try.prog 16 #[.slice ao xs.length c, .slice bo ys.length d] w fun e w' => e = .returned (.bool (decide (xs = ys))) ∧ ∃ n, w' = w.drewN n := by
  by_cases hl : xs.length = ys.length
  · have hlb : ((xs.length : Int) != (ys.length : Int)) = false := by simp [hl]
    have HL := Lib.hid hl
    clear hl
    go_enter Try.func16, Try.ntmps16
    go_wp2
    go_loopw [5] (fun i wr => ∃ k n : Nat, k ≤ xs.length ∧ i = .int .i64 k ∧ wr = w.drewN n ∧ xs.take k = ys.take k) (fun i _ => xs.length - (intOf i).toNat)
    case atStart => exact ⟨0, 0, Nat.zero_le _, rfl, rfl, rfl⟩
    case round =>
      obtain ⟨k, n, hk, rfl, rfl, ht⟩ := hrel
      have HT := Lib.hid ht
      clear ht
      by_cases hlt : k < xs.length
      · have hlt2 : k < ys.length := by have := HL.out; omega
        obtain ⟨b, off, x, rfl, ex, hcx⟩ := hx.at_ hlt
        obtain ⟨b2, off2, y, rfl, ey, hcy⟩ := hy.at_ hlt2
        have EX := Lib.hid ex
        have EY := Lib.hid ey
        clear ex ey hx hy
        by_cases hxy : x = y
        · subst hxy
          go_wp2
          go_quiet (fail)
          go_wp2
          go_roundw
          case rel => exact ⟨k + 1, _, by omega, by go_num, rfl, eq_take_step EX.out EY.out HT.out rfl⟩
          case measure => simp [intOf]; omega
        · have HN := Lib.hid hxy
          have hb : (x != y) = true := by simpa using hxy
          clear hxy
          go_wp2
          go_quiet (fail)
          go_wp2
          go_ret
          exact ⟨ret_bool (by simp [ne_of_at EX.out EY.out HN.out]), n + nq, by simp⟩
      · go_wp2
        go_ret
        have e1 := HT.out
        have e2 := HL.out
        rw [List.take_of_length_le (by omega), List.take_of_length_le (by omega)] at e1
        exact ⟨ret_bool (by simp [e1]), _, rfl⟩
  · have hlb : ((xs.length : Int) != (ys.length : Int)) = true := by simp; omega
    go_enter Try.func16, Try.ntmps16
    go_wp2
    go_ret
    refine ⟨?_, 0, rfl⟩
    rw [show decide (xs = ys) = false by simp; rintro rfl; exact hl rfl]
    rfl
theorem eqIntS_below (ao bo : Option Addr) (xs ys : List Int) (c d : Nat) (w : World) (hx : Ints w ao xs) (hy : Ints w bo ys)
    (lx : xs.length ≤ 4611686018427387904) (ly : ys.length ≤ 4611686018427387904) :
    Calls Try.prog 16 #[.slice ao xs.length c, .slice bo ys.length d] w fun e w' => e = .returned (.bool (decide (xs = ys))) ∧ Below w.heap.size w w' :=
  (eqIntS_any ao bo xs ys c d w hx hy lx ly).mono fun _ _ ⟨he, n, hn⟩ => ⟨he, hn ▸ below_drewN (Below.refl _ _) n⟩


set_option maxHeartbeats 400000 in
/-- markIntS writes k, k + 1, .. into the cells of a row that the call's caller owns. -/
theorem markIntS_any (base : Nat) (ao : Option Addr) (n c : Nat) (k0 : Int) (vs : List Value) (w : World) (h : w.ownsRow base 3 1 (.slice ao n c) n vs) (hk0 : 0 ≤ k0) (hk1 : k0 + n ≤ 4611686018427387904) :
    Calls Try.prog 18 #[.slice ao n c, .int .i64 k0] w fun e w' => e = .returned (.int .i64 (k0 + n)) ∧ w'.ownsRow base 3 1 (.slice ao n c) n (marks k0 n) ∧ w.grownBy w' (Value.slice ao n c).ownBlock := by
  have hl : vs.length = n := by rw [h.1, Nat.mul_one]
  have HL := Lib.hid hl
  clear hl
  go_enter Try.func18, Try.ntmps18
  go_wp2
  go_loopw [1, 5] (fun k i wr => ∃ j : Nat, j ≤ n ∧ i = .int .i64 j ∧ k = .int .i64 (k0 + j) ∧ wr.ownsRow base 3 1 (.slice ao n c) n (marks k0 j ++ vs.drop j) ∧ w.grownBy wr (Value.slice ao n c).ownBlock) (fun _ i _ => n - (intOf i).toNat)
  case atStart => exact ⟨0, Nat.zero_le _, rfl, by simp, by simpa [marks] using h, World.grownBy.refl _ _⟩
  case round =>
    obtain ⟨j, hj, rfl, rfl, hown, hg⟩ := hrel
    by_cases hlt : j < n
    · rcases own_head hown with ⟨_, h0, _⟩ | ⟨g, rfl, hgb, hgs⟩
      · omega
      have hlt' : j < vs.length := by have := HL.out; omega
      have hc := own_cell_at hown (marks_at k0 vs j hlt')
      have hf := hown.frozenAt j
      have HM := Lib.hid (own_mark hown hlt')
      clear hown h
      go_wp2
      go_roundw
      case rel => exact ⟨j + 1, by omega, by go_num, by go_num, HM.out.1, grownBy_trans hg HM.out.2⟩
      case measure => simp [intOf]; omega
    · have he : j = n := by omega
      go_wp2
      go_ret
      subst he
      refine ⟨rfl, ?_, hg⟩
      have := hown
      rwa [List.drop_of_length_le (by have := HL.out; omega), List.append_nil] at this

set_option maxHeartbeats 400000 in
/-- heldIntS finds k, k + 1, .. again. -/
theorem heldIntS_any (ao : Option Addr) (n c : Nat) (k0 : Int) (w : World) (h : Cells w ao (marks k0 n)) (hk0 : 0 ≤ k0) (hk1 : k0 + n ≤ 4611686018427387904) :
    Calls Try.prog 20 #[.slice ao n c, .int .i64 k0] w fun e w' => e = .returned (.int .i64 (k0 + n)) ∧ ∃ m, w' = w.drewN m := by
  go_enter Try.func20, Try.ntmps20
  go_wp2
  go_loopw [1, 5] (fun k i wr => ∃ j m : Nat, j ≤ n ∧ i = .int .i64 j ∧ k = .int .i64 (k0 + j) ∧ wr = w.drewN m) (fun _ i _ => n - (intOf i).toNat)
  case atStart => exact ⟨0, 0, Nat.zero_le _, rfl, by simp, rfl⟩
  case round =>
    obtain ⟨j, m, hj, rfl, rfl, rfl⟩ := hrel
    by_cases hlt : j < n
    · obtain ⟨b, off, rfl, hc⟩ := h.at_ (marks_get k0 n j hlt)
      clear h
      go_wp2
      go_roundw
      case rel => exact ⟨j + 1, m, by omega, by go_num, by go_num, rfl⟩
      case measure => simp [intOf]; omega
    · have he : j = n := by omega
      go_wp2
      go_ret
      subst he
      exact ⟨rfl, m, rfl⟩

theorem heldIntS_below (ao : Option Addr) (n c : Nat) (k0 : Int) (w : World) (h : Cells w ao (marks k0 n)) (hk0 : 0 ≤ k0) (hk1 : k0 + n ≤ 4611686018427387904) :
    Calls Try.prog 20 #[.slice ao n c, .int .i64 k0] w fun e w' => e = .returned (.int .i64 (k0 + n)) ∧ Below w.heap.size w w' :=
  (heldIntS_any ao n c k0 w h hk0 hk1).mono fun _ _ ⟨he, n, hn⟩ => ⟨he, hn ▸ below_drewN (Below.refl _ _) n⟩

theorem ints_snoc {xs : List Int} {k : Nat} {x : Int} (h : xs[k]? = some x) : (xs.take (k + 1)).map (Value.int .i64) = (xs.take k).map (Value.int .i64) ++ [.int .i64 x] := by
  rw [take_succ_of h, List.map_append]; rfl
set_option maxHeartbeats 400000 in
/-- toIntS copies. -/
theorem toIntS_any (ao : Option Addr) (xs : List Int) (c : Nat) (w : World) (hx : Ints w ao xs) (lx : xs.length ≤ 1048576) :
    Calls Try.prog 22 #[.slice ao xs.length c] w fun e w' => ∃ ao' c', e = .returned (.slice ao' xs.length c') ∧ OwnI w' w.heap.size ao' c' xs ∧ Below w.heap.size w w' := by
  have hmk := run_make_new (P := Try.prog) 27 3 Try.underlying27 int_info xs.length (by omega) (by omega)
  go_enter Try.func22, Try.ntmps22
  go_wp2_with fail
  refine name_wp fun w1 hw1 => ?_
  have hb1 : Below w.heap.size w w1 := by rw [hw1]; exact (Below.refl _ _).alloc (Nat.le_refl _) _
  have hown := own_new w 3 (.int .i64 0) xs.length 1 w.heap.size (Nat.le_refl _) (by simp only [maxLen]; omega)
  rw [Nat.mul_one, ← hw1] at hown
  generalize (newRow _ _).toList = zs at hown
  have HZ : Hid (zs.length = xs.length) := Lib.hid (by rw [hown.1, Nat.mul_one])
  clear hw1 hmk
  go_loopw [4] (fun i wr => ∃ k : Nat, k ≤ xs.length ∧ i = .int .i64 k ∧ Below w.heap.size w wr ∧ wr.ownsRow w.heap.size 3 1 (.slice (some ⟨w.heap.size, 0, none⟩) xs.length xs.length) xs.length ((xs.take k).map (Value.int .i64) ++ zs.drop k)) (fun i _ => xs.length - (intOf i).toNat)
  case atStart => exact ⟨0, Nat.zero_le _, rfl, hb1, by simpa using hown⟩
  case round =>
    obtain ⟨k, hk, rfl, hb, ho⟩ := hrel
    by_cases hlt : k < xs.length
    · obtain ⟨b, off, x, rfl, ex, x0⟩ := (hx.below hb).at_ hlt
      have EX := Lib.hid ex
      clear ex hx hown
      obtain ⟨u0, d0⟩ := own_cell_ex ho (j := k) (by omega)
      have f0 := ho.frozenAt k
      have HP := Lib.hid (own_put ho (by rw [List.length_map, List.length_take]; omega) (by have := HZ.out; omega) (.int .i64 x))
      clear ho
      go_wp2
      go_roundw
      case rel => exact ⟨k + 1, by omega, by go_num, hb.setCell (Nat.le_refl _) _, by rw [ints_snoc EX.out]; exact HP.out.1⟩
      case measure => simp [intOf]; omega
    · have he : k = xs.length := by omega
      subst he
      go_wp2
      go_ret
      refine ⟨_, _, rfl, ?_, hb⟩
      have := ho
      rw [List.take_length, List.drop_of_length_le (by have := HZ.out; omega), List.append_nil] at this
      exact this
end Go.Proofs.Ytkmampichfbppaa
