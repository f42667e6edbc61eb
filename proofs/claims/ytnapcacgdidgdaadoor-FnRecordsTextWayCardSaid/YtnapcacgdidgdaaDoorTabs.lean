/- The library's listed tables: what the condition gives; a start that meets it. -/
import Derived.Test.YtnapcacgdidgdaaDoorRows
import Derived.Test.YtnapcacgdidgdaaDoorTextI
import Derived.Test.YtnapcacgdidgdaaDoorSaidB
import Derived.LaidLaws
import Derived.Stop.LaidErr
import Derived.LaidMore
import Derived.ProofKit
import Derived.Stop.Joined
import Derived.Lib.LaidTab
namespace Go.Proofs.YtnapcacgdidgdaaDoor
open Go.ChangeShapes Go.WideShapes Go.ChangeAt Go.RowKit

theorem gT : Tryd.prog.globalNamed "internal/strconv.uint64pow10" = some (Tryd.prog.globals.findIdx? (·.name == "internal/strconv.uint64pow10")).get! := by kernel_rfl
theorem gTType : (Tryd.prog.globals[(Tryd.prog.globals.findIdx? (·.name == "internal/strconv.uint64pow10")).get!]?).map (·.type) = some 69 := by kernel_rfl
abbrev laid3 : List (String × DataW Unit) := [("math/bits.deBruijn32tab", Rows.laid_math_bits_deBruijn32tab), ("math/bits.deBruijn64tab", Rows.laid_math_bits_deBruijn64tab), ("internal/strconv.uint64pow10", Rows.laid_internal_strconv_uint64pow10)]
theorem tab_of_laid {W : World} (h : laidMetH Tryd.prog laid3 W) : Tab W := by
  rw [MakeChecks.laidMetH_plain _ _ _ (by kernel_rfl)] at h
  have h2 := h.tail.tail
  have e : (Rows.laid_internal_strconv_uint64pow10 : DataW Unit) = Lib.tabData .u64 Lib.pow10Tab := by kernel_rfl
  rw [e] at h2
  exact Lib.tabIs_of_head gT gTType Tryd.underlying69 Tryd.underlying63 (by kernel_rfl) (by kernel_rfl) h2
theorem door_met (os : Os) (args : Array Value) : laidMetH Tryd.prog laid3 ((World.doorLaid Tryd.prog 400 os).forCall (fun _ _ => 0) ⟨#[], args, []⟩).memory :=
  laidMetH_of_parts3 (fuel := 8) (laidMet_of_run' 8 (by kernel_rfl) (by kernel_rfl)) (by kernel_rfl) (by kernel_rfl)
end Go.Proofs.YtnapcacgdidgdaaDoor
