/- Contracts of the small functions that many statements share: tests on numbers, lists of numbers compared, marked and looked up again. -/
import Derived.Test.YtnapcacgdidgdaaDoorRows
import Derived.Test.YtnapcacgdidgdaaDoorMem
namespace Go.Proofs.YtnapcacgdidgdaaDoor
open Go.RowKit

theorem int_info : (Tryd.prog.info? 3).map (fun i => (i.zero, i.size, i.bytes)) = some (some (.int .i64 0), 1, 8) := by kernel_rfl
def OwnI (w : World) (base : Nat) (ao : Option Addr) (c : Nat) (xs : List Int) : Prop := w.ownsRow base 3 1 (.slice ao xs.length c) xs.length (xs.map (Value.int .i64))
theorem OwnI.ints {w : World} {base c : Nat} {ao : Option Addr} {xs : List Int} (h : OwnI w base ao c xs) : Ints w ao xs := own_cells h
theorem OwnI.below {w w' : World} {base c : Nat} {ao : Option Addr} {xs : List Int} (h : OwnI w base ao c xs) (hb : Below w.heap.size w w') : OwnI w' base ao c xs := own_below h hb
theorem OwnI.base {w : World} {base base' c : Nat} {ao : Option Addr} {xs : List Int} (h : OwnI w base ao c xs) (hb : base' ≤ base) : OwnI w base' ao c xs := own_base h hb

theorem calls_below {P : Program} {f : FuncId} {args : Array Value} {w : World} {v : Value} (h : Calls P f args w fun e w' => e = .returned v ∧ w = w') : Calls P f args w fun e w' => e = .returned v ∧ Below w.heap.size w w' :=
  h.mono fun _ _ ⟨he, hw⟩ => ⟨he, hw ▸ Below.refl _ _⟩
def byteB (n : Int) : Bool := decide (0 ≤ n ∧ n ≤ 255)
def inB (n lo hi : Int) : Bool := decide (lo ≤ n ∧ n ≤ hi)

theorem isByte_any (n : Int) (w : World) : Calls Tryd.prog 29 #[.int .i64 n] w fun e w' => e = .returned (.bool (byteB n)) ∧ w = w' := by
  go_enter Tryd.func29, Tryd.ntmps29
  go_wp2
  all_goals (go_ret; exact ⟨ret_bool (by rw [Bool.eq_iff_iff]; simp [byteB] <;> omega), rfl⟩)

theorem l6In_any (n lo hi : Int) (w : World) : Calls Tryd.prog 22 #[.int .i64 n, .int .i64 lo, .int .i64 hi] w fun e w' => e = .returned (.bool (inB n lo hi)) ∧ w = w' := by
  go_enter Tryd.func22, Tryd.ntmps22
  go_wp2
  all_goals (go_ret; exact ⟨ret_bool (by rw [Bool.eq_iff_iff]; simp [inB] <;> omega), rfl⟩)

theorem all_step {α : Type} {p : α → Bool} {xs : List α} {k : Nat} {x : α} (h : xs[k]? = some x) (h0 : (xs.take k).all p = true) (hx : p x = true) : (xs.take (k + 1)).all p = true := by
  rw [take_succ_of h, List.all_append, h0]; simp [hx]
theorem all_no {α : Type} {p : α → Bool} {xs : List α} {k : Nat} {x : α} (h : xs[k]? = some x) (hx : p x = false) : xs.all p = false :=
  List.all_eq_false.2 ⟨x, List.mem_of_getElem? h, by simp [hx]⟩
theorem OwnI.snoc {w : World} {base c : Nat} {ao : Option Addr} {L : List Int} {y : Int} (h : w.ownsRow base 3 1 (.slice ao (L.length + 1) c) (L.length + 1) (L.map (Value.int .i64) ++ [.int .i64 y])) : OwnI w base ao c (L ++ [y]) := by
  simpa [OwnI] using h
theorem eq_take_step {α : Type} {xs ys : List α} {k : Nat} {x y : α} (hx : xs[k]? = some x) (hy : ys[k]? = some y) (h : xs.take k = ys.take k) (e : x = y) : xs.take (k + 1) = ys.take (k + 1) := by
  rw [take_succ_of hx, take_succ_of hy, h, e]
theorem ne_of_at {α : Type} {xs ys : List α} {k : Nat} {x y : α} (hx : xs[k]? = some x) (hy : ys[k]? = some y) (e : x ≠ y) : xs ≠ ys := by
  rintro rfl; rw [hx] at hy; exact e (Option.some.inj hy)







end Go.Proofs.YtnapcacgdidgdaaDoor
