/- Bytes that came: the data, and who is valid. -/
import Derived.Test.YtkmampichfbppaaDoorBox2
import Derived.Deep.CutRange
import Derived.Deep.RegionHeld3
namespace Go.Proofs.YtkmampichfbppaaDoor
open Go.RowKit

structure Gt where
  b : Int
  c : Int
instance : DecidableEq Gt := fun x y => decidable_of_iff (x.b = y.b ∧ x.c = y.c) (by cases x; cases y; simp)
def gtB (g : Gt) : Bool := byteB g.b && (decide (0 ≤ g.c) && decide (g.c ≤ 2))
def gtCells (g : Gt) : List Value := [.int .i64 g.b, .int .i64 g.c]
theorem gtCells_length (g : Gt) : (gtCells g).length = 2 := rfl
def Gts (w : World) (ao : Option Addr) (gs : List Gt) : Prop := Cells w ao (gs.flatMap gtCells)
theorem Gts.below {w w' : World} {ao : Option Addr} {gs : List Gt} (h : Gts w ao gs) (hb : Below w.heap.size w w') : Gts w' ao gs := Cells.below h hb
theorem Gts.keep {w w' : World} {ao : Option Addr} {gs : List Gt} (h : Gts w ao gs) (hb : Keeps w w') : Gts w' ao gs := Cells.keep h hb
theorem Gts.at_ {w : World} {ao : Option Addr} {gs : List Gt} (h : Gts w ao gs) {k : Nat} (hk : k < gs.length) :
    ∃ b off g, ao = some ⟨b, off, none⟩ ∧ gs[k]? = some g ∧ b < w.heap.size ∧ w.cell? ⟨b, off + k * 2, none⟩ = some (.int .i64 g.b) ∧ w.cell? ⟨b, off + k * 2 + 1, none⟩ = some (.int .i64 g.c) := by
  have hx : gs[k]? = some gs[k] := List.getElem?_eq_getElem hk
  have f := fun j (hj : j < 2) => flatN gtCells 2 gtCells_length gs k _ j hx hj
  rcases h with h | ⟨b, off, h, hc⟩
  · have := f 0 (by omega); rw [h] at this; simp [gtCells] at this
  · have c0 := hc _ _ (f 0 (by omega))
    have c1 := hc _ _ (f 1 (by omega))
    exact ⟨b, off, gs[k], h, hx, World.block_lt_of_cell? w _ c0, c0, c1⟩
theorem gt_info : (Tryd.prog.info? 82).map (fun i => (i.zero, i.size, i.bytes)) = some (some (.agg #[.int .i64 0, .int .i64 0]), 2, 16) := by kernel_rfl
def OwnG (w : World) (base : Nat) (ao : Option Addr) (c : Nat) (gs : List Gt) : Prop := w.ownsRow base 82 2 (.slice ao gs.length c) gs.length (gs.flatMap gtCells)
theorem OwnG.gts {w : World} {base c : Nat} {ao : Option Addr} {gs : List Gt} (h : OwnG w base ao c gs) : Gts w ao gs := own_cells h
theorem OwnG.below {w w' : World} {base c : Nat} {ao : Option Addr} {gs : List Gt} (h : OwnG w base ao c gs) (hb : Below w.heap.size w w') : OwnG w' base ao c gs := own_below h hb
theorem OwnG.base {w : World} {base base' c : Nat} {ao : Option Addr} {gs : List Gt} (h : OwnG w base ao c gs) (hb : base' ≤ base) : OwnG w base' ao c gs := own_base h hb
theorem OwnG.snoc {w : World} {base c : Nat} {ao : Option Addr} {L : List Gt} {g : Gt} (h : w.ownsRow base 82 2 (.slice ao (L.length + 1) c) (L.length + 1) (L.flatMap gtCells ++ [.int .i64 g.b, .int .i64 g.c])) : OwnG w base ao c (L ++ [g]) := by
  have e : (L ++ [g]).flatMap gtCells = L.flatMap gtCells ++ [.int .i64 g.b, .int .i64 g.c] := by rw [List.flatMap_append]; rfl
  unfold OwnG
  rw [e, List.length_append]
  exact h
theorem gts_one (gs : List Gt) : ∀ u ∈ gs.flatMap gtCells, u.oneCell' = true := by
  intro u hu
  obtain ⟨g, _, h⟩ := List.mem_flatMap.1 hu
  simp [gtCells] at h
  rcases h with rfl | rfl <;> rfl
def gtsB (gs : List Gt) : Bool := gs.all gtB
theorem gts_no {gs : List Gt} {k : Nat} {g : Gt} (h : gs[k]? = some g) (hv : gtB g = false) : gtsB gs = false := by
  unfold gtsB
  rw [List.all_eq_false]
  exact ⟨g, List.mem_of_getElem? h, by simp [hv]⟩
theorem gts_step {gs : List Gt} {k : Nat} {g : Gt} (h : gs[k]? = some g) (hp : gtsB (gs.take k) = true) (hv : gtB g = true) : gtsB (gs.take (k + 1)) = true := by
  unfold gtsB at *
  rw [take_succ_of h, List.all_append, hp]; simp [hv]
theorem gotValid_any (b c : Int) (w : World) : Calls Tryd.prog 56 #[.agg #[.int .i64 b, .int .i64 c]] w fun e w' => e = .returned (.bool (gtB ⟨b, c⟩)) ∧ Below w.heap.size w w' := by
  have b0 : Below w.heap.size w (w.alloc (.cells #[.int .i64 b, .int .i64 c] 82)) := (Below.refl _ _).alloc (Nat.le_refl _) _
  cases hb : byteB b
  · go_enter Tryd.func56, Tryd.ntmps56
    go_wp2_with fail
    refine (isByte_any b _).mono ?_
    rintro e w1 ⟨rfl, rfl⟩
    go_wp2
    go_ret
    exact ⟨ret_bool (by simp [gtB, hb]), b0⟩
  by_cases h0 : 0 ≤ c
  · go_enter Tryd.func56, Tryd.ntmps56
    go_wp2_with fail
    refine (isByte_any b _).mono ?_
    rintro e w1 ⟨rfl, rfl⟩
    go_wp2
    go_ret
    exact ⟨ret_bool (by simp [gtB, hb, h0]), b0⟩
  · have h0' : c < 0 := by omega
    have hd : decide (0 ≤ c) = false := by simpa using h0
    go_enter Tryd.func56, Tryd.ntmps56
    go_wp2_with fail
    refine (isByte_any b _).mono ?_
    rintro e w1 ⟨rfl, rfl⟩
    go_wp2
    go_ret
    exact ⟨ret_bool (by simp [gtB, hb]; omega), b0⟩
theorem l11Got_any (b c : Int) (w : World) : Calls Tryd.prog 54 #[.agg #[.int .i64 b, .int .i64 c]] w fun e w' => e = .returned (.bool (gtB ⟨b, c⟩)) ∧ Below w.heap.size w w' := by
  have b0 : Below w.heap.size w (w.alloc (.cells #[.int .i64 b, .int .i64 c] 82)) := (Below.refl _ _).alloc (Nat.le_refl _) _
  cases hb : inB b 0 255
  · go_enter Tryd.func54, Tryd.ntmps54
    go_wp2_with fail
    refine (l6In_any b 0 255 _).mono ?_
    rintro e w1 ⟨rfl, rfl⟩
    go_wp2
    go_ret
    exact ⟨ret_bool (by rw [inB_byte] at hb; simp [gtB, hb]), b0⟩
  · go_enter Tryd.func54, Tryd.ntmps54
    go_wp2_with fail
    refine (l6In_any b 0 255 _).mono ?_
    rintro e w1 ⟨rfl, rfl⟩
    go_wp2_with fail
    refine (l6In_any c 0 2 _).mono ?_
    rintro e w1 ⟨rfl, rfl⟩
    go_wp2
    go_ret
    exact ⟨ret_bool (by rw [inB_byte] at hb; simp [gtB, hb, inB]), b0⟩

/-- A receiver: room, trigger, bytes, whether one was lost, age. -/
def recvB (r t : Int) (gs : List Gt) (a : Int) : Bool := decide (1 ≤ r ∧ r ≤ 16 ∧ 1 ≤ t ∧ t ≤ r ∧ (gs.length : Int) ≤ r ∧ 0 ≤ a ∧ a ≤ 99) && gtsB gs
theorem recvB_facts {r t a : Int} {gs : List Gt} (h : recvB r t gs a = true) : (1 ≤ r ∧ r ≤ 16) ∧ (1 ≤ t ∧ t ≤ r) ∧ (gs.length : Int) ≤ r ∧ (0 ≤ a ∧ a ≤ 99) ∧ gtsB gs = true := by
  simp only [recvB, Bool.and_eq_true, decide_eq_true_eq] at h
  exact ⟨⟨h.1.1, h.1.2.1⟩, ⟨h.1.2.2.1, h.1.2.2.2.1⟩, h.1.2.2.2.2.1, h.1.2.2.2.2.2, h.2⟩
theorem recvB_no {r t a : Int} {gs : List Gt} (h : ¬ (1 ≤ r ∧ r ≤ 16 ∧ 1 ≤ t ∧ t ≤ r ∧ (gs.length : Int) ≤ r ∧ 0 ≤ a ∧ a ≤ 99)) : recvB r t gs a = false := by simp only [recvB, decide_eq_false h, Bool.false_and]
end Go.Proofs.YtkmampichfbppaaDoor
