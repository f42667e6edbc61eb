/- The reader from which all draws are made: l6Open, pick. -/
import Derived.Test.YtnapcacgdidgdaaDoorLeaf
import Derived.Laws.BitsAllLaws
import Derived.Laws.BitsLemmas
namespace Go.Proofs.YtnapcacgdidgdaaDoor
open Go.RowKit

def Bytes (w : World) (ao : Option Addr) (bs : List Int) : Prop := Cells w ao (bs.map (Value.int .u8)) ∧ ∀ b ∈ bs, 0 ≤ b ∧ b < 256
theorem Bytes.below {w w' : World} {ao : Option Addr} {bs : List Int} (h : Bytes w ao bs) (hb : Below w.heap.size w w') : Bytes w' ao bs := ⟨h.1.below hb, h.2⟩

/-- A reader in block rb: its bytes, at most 2000, and its place, at most m. -/
def Rd (w : World) (rb : Nat) (m : Nat) : Prop := ∃ (bo : Option Addr) (bs : List Int) (bc p : Nat),
  w.heap[rb]? = some (.cells #[.slice bo bs.length bc, .int .i64 p] 55 (0, 0)) ∧ bs.length ≤ 2000 ∧ Bytes w bo bs ∧ p ≤ m ∧ ∀ a : Addr, bo = some a → bs ≠ [] → a.block < rb

theorem Rd.lt {w : World} {rb m : Nat} (h : Rd w rb m) : rb < w.heap.size := by
  obtain ⟨bo, bs, bc, p, hh, _⟩ := h
  exact (Array.getElem?_eq_some_iff.1 hh).1
theorem Rd.mono {w : World} {rb m m' : Nat} (h : Rd w rb m) (hm : m ≤ m') : Rd w rb m' := by
  obtain ⟨bo, bs, bc, p, hh, h1, h2, h3, h4⟩ := h
  exact ⟨bo, bs, bc, p, hh, h1, h2, Nat.le_trans h3 hm, h4⟩
theorem Rd.below {w w' : World} {rb m : Nat} (h : Rd w rb m) (hb : Below w.heap.size w w') : Rd w' rb m := by
  have hl := h.lt
  obtain ⟨bo, bs, bc, p, hh, h1, h2, h3, h4⟩ := h
  exact ⟨bo, bs, bc, p, (hb.block rb hl).trans hh, h1, h2.below hb, h3, h4⟩
/-- Behind new blocks, and writes to a row that lies behind the reader: the reader is as it was. -/
theorem Rd.grown {w w' : World} {rb m : Nat} {row : Option Nat} (h : Rd w rb m) (hg : w.grownBy w' row) (hr : ∀ k, row = some k → rb < k) : Rd w' rb m := by
  have hl := h.lt
  obtain ⟨bo, bs, bc, p, hh, h1, h2, h3, h4⟩ := h
  refine ⟨bo, bs, bc, p, (hg.block rb hl (fun e => by have := hr rb e.symm; omega)).trans hh, h1, ⟨?_, h2.2⟩, h3, h4⟩
  rcases h2.1 with h0 | ⟨b, off, hb, hc⟩
  · exact .inl h0
  · refine .inr ⟨b, off, hb, fun j u hu => hg.cell (hc j u hu) ?_⟩
    intro e
    have h5 := hr b e.symm
    have h6 := h4 _ hb (by rintro rfl; simp at hu)
    dsimp only at h6
    omega

theorem ofInt_i64 (a : Nat) (ha : a < 9223372036854775808) : (BitVec.ofInt 64 (a : Int)).toNat = a := by
  rw [BitVec.ofInt_natCast, BitVec.toNat_ofNat]; exact Nat.mod_eq_of_lt (by omega)
theorem xor_nonneg (x y : Int) (hx : 0 ≤ x) (hy : 0 ≤ y) (hx1 : x < 9223372036854775808) (hy1 : y < 9223372036854775808) : 0 ≤ bits .xor .i64 x y := by
  obtain ⟨a, rfl⟩ := Int.eq_ofNat_of_zero_le hx
  obtain ⟨b, rfl⟩ := Int.eq_ofNat_of_zero_le hy
  have h : a ^^^ b < 2 ^ 63 := Nat.xor_lt_two_pow (by omega) (by omega)
  show 0 ≤ IntKind.i64.wrap ((BitVec.ofInt 64 (a : Int) ^^^ BitVec.ofInt 64 (b : Int)).toNat : Int)
  rw [BitVec.toNat_xor, ofInt_i64 a (by omega), ofInt_i64 b (by omega), IntKind.wrap_i64]
  omega

/-- Bytes lie in no block whose first cells are a slice and an int. -/
theorem Bytes.differs {w : World} {ao : Option Addr} {bs : List Int} (h : Bytes w ao bs) {rb : Nat} {v : Option Addr} {n c : Nat} {p : Int} {t : TypeId} (hh : w.heap[rb]? = some (.cells #[.slice v n c, .int .i64 p] t (0, 0))) :
    ∀ (b off : Nat), ao = some ⟨b, off, none⟩ → ∀ (j : Nat) (u : Value), (bs.map (Value.int .u8))[j]? = some u → b ≠ rb := by
  rintro b off hao j u hu rfl
  obtain ⟨b', off', e, hc⟩ := h.1.at_ hu
  rw [hao] at e
  obtain ⟨rfl, rfl⟩ : b = b' ∧ off = off' := by simpa using e
  rw [cell_of_row w b (off + j) _ _ _ hh] at hc
  rw [List.getElem?_map] at hu
  obtain ⟨x, _, rfl⟩ := Option.map_eq_some_iff.1 hu
  match hi : off + j with
  | 0 => rw [hi] at hc; simp at hc
  | 1 => rw [hi] at hc; simp at hc
  | k + 2 => rw [hi] at hc; simp at hc

theorem l6Open_any (ao : Option Addr) (bs : List Int) (c : Nat) (w : World) (h : Bytes w ao bs) (hc : bs.length ≤ c) (lx : bs.length ≤ 4611686018427387904) :
    Calls Tryd.prog 14 #[.slice ao bs.length c] w fun e w' => ∃ rb, e = .returned (.pointer (some ⟨rb, 0, none⟩)) ∧ w.heap.size ≤ rb ∧ Rd w' rb 0 ∧ Below w.heap.size w w' := by
  have fin : ∀ n, n ≤ 2000 → n ≤ bs.length → Rd (w.alloc (.cells #[.slice ao n c, .int .i64 0] 55)) w.heap.size 0 := by
    intro n h1 h2
    refine ⟨ao, bs.take n, c, 0, ?_, by rw [List.length_take]; omega, ⟨?_, fun b hb => h.2 b (List.mem_of_mem_take hb)⟩, Nat.le_refl _, fun a ha hne => ?_⟩
    · rw [List.length_take, Nat.min_eq_left h2]; exact heap_alloc_new w _
    · rcases h.1 with h0 | ⟨b, off, hb, hcc⟩
      · left; simp at h0; simp [h0]
      · refine .inr ⟨b, off, hb, fun j u hu => Keeps.alloc w _ _ _ _ (hcc j u ?_)⟩
        rw [List.map_take, List.getElem?_take] at hu
        split at hu
        · exact hu
        · cases hu
    · rcases h.1 with h0 | ⟨b, off, hb, hcc⟩
      · simp at h0; subst h0; simp at hne
      · rw [hb] at ha
        injection ha with ha
        subst ha
        cases hbs : bs with
        | nil => subst hbs; simp at hne
        | cons x l => exact World.block_lt_of_cell? w _ (hcc 0 (.int .u8 x) (by simp [hbs]))
  by_cases hl : 2000 < bs.length
  · go_enter Tryd.func14, Tryd.ntmps14
    go_wp2
    go_ret
    exact ⟨_, rfl, Nat.le_refl _, fin 2000 (Nat.le_refl _) (by omega), (Below.refl _ _).alloc (Nat.le_refl _) _⟩
  · go_enter Tryd.func14, Tryd.ntmps14
    go_wp2
    go_ret
    exact ⟨_, rfl, Nat.le_refl _, fin bs.length (by omega) (Nat.le_refl _), (Below.refl _ _).alloc (Nat.le_refl _) _⟩

theorem pick_any (rb m : Nat) (n : Int) (w : World) (h : Rd w rb m) (hm : m ≤ 1000000) :
    Calls Tryd.prog 25 #[.pointer (some ⟨rb, 0, none⟩), .int .i64 n] w fun e w' => ∃ k : Int, e = .returned (.int .i64 k) ∧ 0 ≤ k ∧ (k < n ∨ k = 0) ∧ Rd w' rb (m + 1) ∧ w.grownBy w' (some rb) := by
  obtain ⟨bo, bs, bc, p, hh, hl, hb, hp, hbo'⟩ := h
  have c0 : w.cell? ⟨rb, 0, none⟩ = some (.slice bo bs.length bc) := by simp [World.cell?, hh]
  have c1 : w.cell? ⟨rb, 1, none⟩ = some (.int .i64 p) := by simp [World.cell?, hh]
  have f1 : w.frozen? ⟨rb, 1, none⟩ = false := by simp [World.frozen?, hh]
  have fin : ∀ d, Rd ((w.setCell ⟨rb, 1, none⟩ (.int .i64 ((p : Int) + 1))).drewN d) rb (m + 1) ∧ w.grownBy ((w.setCell ⟨rb, 1, none⟩ (.int .i64 ((p : Int) + 1))).drewN d) (some rb) := by
    intro d
    have hd := Bytes.differs hb hh
    refine ⟨⟨bo, bs, bc, p + 1, ?_, hl, ⟨?_, hb.2⟩, by omega, hbo'⟩, ?_⟩
    · show (w.setCell ⟨rb, 1, none⟩ (.int .i64 ((p : Int) + 1))).heap[rb]? = _
      simp [World.setCell, Array.getElem?_modify, hh]
    · rcases hb.1 with h0 | ⟨b, off, hbo, hc⟩
      · exact .inl h0
      · refine .inr ⟨b, off, hbo, fun j u hu => ?_⟩
        show (w.setCell ⟨rb, 1, none⟩ (.int .i64 ((p : Int) + 1))).cell? _ = _
        rw [World.cell?_setCell_other]
        · exact hc j u hu
        · intro e
          have e1 : rb = b := congrArg Addr.block e
          exact hd b off hbo j u hu e1.symm
    · exact ⟨rfl, rfl, rfl, by simp [World.setCell, World.drewN], fun i _ hne => Below.heap_setCell _ _ _ _ (fun e => hne (by rw [e]))⟩
  have HB := Lib.hid hbo'
  clear hbo'
  by_cases hn : n < 1
  · go_enter Tryd.func25, Tryd.ntmps25
    go_wp2
    go_ret
    exact ⟨0, rfl, by omega, .inr rfl, fin 0⟩
  by_cases h0 : bs = []
  · subst h0
    go_enter Tryd.func25, Tryd.ntmps25
    go_wp2
    go_ret
    exact ⟨0, rfl, by omega, .inr rfl, fin 0⟩
  have hpos : 0 < bs.length := List.length_pos_iff.2 h0
  have hpz : ((bs.length : Int) == 0) = false := by simp; omega
  have H0 := Lib.hid h0
  clear h0
  have at_ : ∀ j, j < bs.length → ∃ b off x, bo = some ⟨b, off, none⟩ ∧ b ≠ rb ∧ rb ≠ b ∧ w.cell? ⟨b, off + j, none⟩ = some (.int .u8 x) ∧ 0 ≤ x ∧ x < 256 := by
    intro j hj
    have hx : (bs.map (Value.int .u8))[j]? = some (.int .u8 bs[j]) := by simp [hj]
    obtain ⟨b, off, hbo, hc⟩ := hb.1.at_ hx
    have hd := Bytes.differs hb hh b off hbo j _ hx
    exact ⟨b, off, bs[j], hbo, hd, Ne.symm hd, hc, hb.2 _ (List.getElem_mem hj)⟩
  by_cases hlt : p < bs.length
  · obtain ⟨b, off, x, rfl, hne, hne', hcx, hx0, hx1⟩ := at_ p hlt
    have AT := Lib.hid at_
    clear at_
    go_enter Tryd.func25, Tryd.ntmps25
    go_wp2
    go_ret
    exact ⟨_, rfl, Int.emod_nonneg _ (by omega), .inl (Int.emod_lt_of_pos _ (by omega)), fin 0⟩
  · have hq : p % bs.length < bs.length := Nat.mod_lt _ hpos
    have hr : (p * 7 + 3) % bs.length < bs.length := Nat.mod_lt _ hpos
    obtain ⟨b, off, x, rfl, hne, hne', hcx, hx0, hx1⟩ := at_ _ hq
    obtain ⟨b', off', y, hbe, _, _, hcy, hy0, hy1⟩ := at_ _ hr
    obtain ⟨rfl, rfl⟩ : b = b' ∧ off = off' := by simpa using hbe
    have AT := Lib.hid at_
    clear at_
    have hr1 : 0 ≤ ((p : Int) * 7 + 3) % (bs.length : Int) := Int.emod_nonneg _ (by omega)
    have hr2 : ((p : Int) * 7 + 3) % (bs.length : Int) < (bs.length : Int) := Int.emod_lt_of_pos _ (by omega)
    have hd1 : 0 ≤ (p : Int) / (bs.length : Int) := Int.ediv_nonneg (by omega) (by omega)
    have hd2 : (p : Int) / (bs.length : Int) ≤ (p : Int) := Int.ediv_le_self _ (by omega)
    go_enter Tryd.func25, Tryd.ntmps25
    go_wp2
    go_quiet (fail)
    go_wp2
    go_ret
    generalize (p : Int) / (bs.length : Int) = q at hd1 hd2
    have hX : 0 ≤ bits .xor .i64 (x * 131 + y * 1117 + (p : Int) * 29 + q * 53) ((x * 131 + y * 1117 + (p : Int) * 29 + q * 53) / 64) := xor_nonneg _ _ (by omega) (by omega) (by omega) (by omega)
    exact ⟨_, rfl, Int.tmod_nonneg _ hX, .inl (Int.tmod_lt_of_pos _ (by omega)), fin _⟩
end Go.Proofs.YtnapcacgdidgdaaDoor
