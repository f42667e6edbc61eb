/- The program's one listed variable: what the condition gives; a start that meets it. -/
import Derived.Test.YtkmampichfbppaaDoorRows
import Derived.Test.YtkmampichfbppaaDoorIs
import Derived.Test.YtkmampichfbppaaDoorSaidB
import Derived.LaidLaws
import Derived.Stop.LaidErr
import Derived.LaidMore
import Derived.ProofKit
import Derived.Stop.Joined
namespace Go.Proofs.YtkmampichfbppaaDoor
open Go.ChangeShapes Go.WideShapes Go.ChangeAt Go.RowKit

theorem gE : Tryd.prog.globalNamed "loop.example/serialpair/impl.errNoFormat" = some 0 := by kernel_rfl
theorem gEType : (Tryd.prog.globals[0]?).map (·.type) = some 75 := by kernel_rfl
theorem star_errorString : "*" ++ "errors.errorString" = "*errors.errorString" := by decide
theorem rowE (u : TypeId) (h : Tryd.prog.typeName? 3 u = some "*errors.errorString") : u = 118 :=
  typeName_ptr_named (nm := "errors.errorString") (by rw [star_errorString]; kernel_rfl) (by kernel_rfl) (by decide) u (by rw [star_errorString]; exact h)
theorem cellsE : Tryd.prog.cellsOf 144 = 1 := by kernel_rfl
theorem cellsS : Tryd.prog.cellsOf 9 = 1 := by kernel_rfl
abbrev laid1 : List (String × DataW Unit) := [("loop.example/serialpair/impl.errNoFormat", Rows.laid_loop_example_serialpair_impl_errNoFormat)]
theorem sent_of_laid {W : World} (h : laidMetH Tryd.prog laid1 W) : ∃ a, W.var? Tryd.prog "loop.example/serialpair/impl.errNoFormat" = some #[.iface 118 (.pointer (some a))] ∧ Sent W a := by
  rw [MakeChecks.laidMetH_plain _ _ _ (by kernel_rfl)] at h
  obtain ⟨a, s, hv, _⟩ := laid_sentinel h gE gEType Tryd.underlying75 rowE Tryd.underlying118 Tryd.underlying144 rfl rfl Tryd.underlying9 cellsE cellsS
  exact ⟨a, hv, by simpa [Sent] using World.var?_cell gE hv 0⟩
theorem door_met (os : Os) (args : Array Value) : laidMetH Tryd.prog laid1 ((World.doorLaid Tryd.prog 400 os).forCall (fun _ _ => 0) ⟨#[], args, []⟩).memory :=
  laidMetH_of_parts3 (fuel := 8) (laidMet_of_run' 8 (by kernel_rfl) (by kernel_rfl)) (by kernel_rfl) (by kernel_rfl)
theorem var_below {P : Program} {W W' : World} {n : String} {cs : Array Value} (h : W.var? P n = some cs) (b : Below W.heap.size W W') : W'.var? P n = some cs := by
  unfold World.var? at h ⊢
  cases hg : P.globalNamed n with
  | none => simp [hg] at h
  | some g =>
    simp only [hg, Option.bind_some] at h ⊢
    have hlt : g < W.heap.size := by
      rcases Nat.lt_or_ge g W.heap.size with h' | h'
      · exact h'
      · simp [Array.getElem?_eq_none h'] at h
    rw [b.block g hlt]
    exact h
end Go.Proofs.YtkmampichfbppaaDoor
