/-
  No cell of these rows narrows 'for every input' (looked for: loops, veiled, ifaces, maps, wideKeys, modest, calm, conditions, laid).
  DERIVED. THE GIVEN ROWS OF THIS SEAT. 7 by the template 'for every input the law returns true; each argument reads behind the call as it read before'; 0 by the template 'total and deterministic' (their statements: YtnapcacgdidgdaaTotals.lean).
  GIVEN WITH THE SEED: the statements are not yours to turn. If you find one false, say at which input.
  Laid BY PROGRAM, IN A SANDBOX (cutbox-rows.mjs): the forced cells as the released guide's own fill.sh prints them over the translation 1677c12ca494ae21… (all of the seat's roots in one cut). By AI agents, Wed Nov 11 2026. No macro, syntax, notation, axiom, sorry.
-/
import Derived.Test.YtnapcacgdidgdaaChecked
import GoSem.Claim
import GoSem.ClaimJoined
import GoSem.ClaimMapViews
import Derived.JoinedTies
import Derived.KernelRfl
namespace Go.Proofs.Ytnapcacgdidgdaa
/- THE CELL 'sum', in the pinned program and in every row, IS THE sha256 OF THE DUMP (.gsa) THAT YtnapcacgdidgdaaProg.lean LOADS. Nothing in Lean hashes anything: it is a label: what it is worth is what the hold of that sum in a sandbox is worth. -/
noncomputable def Try.pinned : Pinned := { name := "ytnapcacgdidgdaa", sum := "1677c12ca494ae21cf94723d2b05d24703dd48fc682126e6e422874a4a390126", checked := Try.checked }
namespace Rows
def none {H : Type} : Left H := { results := [], args := [] }

/-- 'laws.FnRecordsPart': WHATEVER THE INPUT: true; the input reads as it did. -/
def fnRecordsPartSpec : ChangeSpec := { name := "fnRecordsPart", fn := fun _ => fun
  | [d1, d2] => { results := [.lit (.bool true)], args := [d1, d2] }
  | _ => none }
def fnRecordsPartRow : OpenClaim := { program := "ytnapcacgdidgdaa", sum := "1677c12ca494ae21cf94723d2b05d24703dd48fc682126e6e422874a4a390126", func := "loop.example/serialpair/laws.FnRecordsPart", spec := "fnRecordsPart", apart := false }
def FnRecordsPartSaid : Prop := fnRecordsPartRow.holds Try.pinned (OpenSpec.ofChange fnRecordsPartSpec)

/-- ITS FALSE NEIGHBOUR: 'it returns false'. Refute it at one input. -/
def fnRecordsPartWrong : ChangeSpec := { name := "fnRecordsPart", fn := fun _ => fun
  | [d1, d2] => { results := [.lit (.bool false)], args := [d1, d2] }
  | _ => none }
def FnRecordsPartWrongFalsely : Prop := fnRecordsPartRow.holds Try.pinned (OpenSpec.ofChange fnRecordsPartWrong)

/-- 'laws.FnExactRecordsValid': WHATEVER THE INPUT: true; the input reads as it did. -/
def fnExactRecordsValidSpec : ChangeSpec := { name := "fnExactRecordsValid", fn := fun _ => fun
  | [d] => { results := [.lit (.bool true)], args := [d] }
  | _ => none }
def fnExactRecordsValidRow : OpenClaim := { program := "ytnapcacgdidgdaa", sum := "1677c12ca494ae21cf94723d2b05d24703dd48fc682126e6e422874a4a390126", func := "loop.example/serialpair/laws.FnExactRecordsValid", spec := "fnExactRecordsValid", apart := false }
def FnExactRecordsValidSaid : Prop := fnExactRecordsValidRow.holds Try.pinned (OpenSpec.ofChange fnExactRecordsValidSpec)

/-- ITS FALSE NEIGHBOUR: 'it returns false'. Refute it at one input. -/
def fnExactRecordsValidWrong : ChangeSpec := { name := "fnExactRecordsValid", fn := fun _ => fun
  | [d] => { results := [.lit (.bool false)], args := [d] }
  | _ => none }
def FnExactRecordsValidWrongFalsely : Prop := fnExactRecordsValidRow.holds Try.pinned (OpenSpec.ofChange fnExactRecordsValidWrong)

/-- 'laws.FnRecordsBytes': WHATEVER THE INPUT: true; the input reads as it did. -/
def fnRecordsBytesSpec : ChangeSpec := { name := "fnRecordsBytes", fn := fun _ => fun
  | [d] => { results := [.lit (.bool true)], args := [d] }
  | _ => none }
def fnRecordsBytesRow : OpenClaim := { program := "ytnapcacgdidgdaa", sum := "1677c12ca494ae21cf94723d2b05d24703dd48fc682126e6e422874a4a390126", func := "loop.example/serialpair/laws.FnRecordsBytes", spec := "fnRecordsBytes", apart := false }
def FnRecordsBytesSaid : Prop := fnRecordsBytesRow.holds Try.pinned (OpenSpec.ofChange fnRecordsBytesSpec)

/-- ITS FALSE NEIGHBOUR: 'it returns false'. Refute it at one input. -/
def fnRecordsBytesWrong : ChangeSpec := { name := "fnRecordsBytes", fn := fun _ => fun
  | [d] => { results := [.lit (.bool false)], args := [d] }
  | _ => none }
def FnRecordsBytesWrongFalsely : Prop := fnRecordsBytesRow.holds Try.pinned (OpenSpec.ofChange fnRecordsBytesWrong)

/-- 'laws.FnExactRecordsBytes': WHATEVER THE INPUT: true; the input reads as it did. -/
def fnExactRecordsBytesSpec : ChangeSpec := { name := "fnExactRecordsBytes", fn := fun _ => fun
  | [d1, d2] => { results := [.lit (.bool true)], args := [d1, d2] }
  | _ => none }
def fnExactRecordsBytesRow : OpenClaim := { program := "ytnapcacgdidgdaa", sum := "1677c12ca494ae21cf94723d2b05d24703dd48fc682126e6e422874a4a390126", func := "loop.example/serialpair/laws.FnExactRecordsBytes", spec := "fnExactRecordsBytes", apart := false }
def FnExactRecordsBytesSaid : Prop := fnExactRecordsBytesRow.holds Try.pinned (OpenSpec.ofChange fnExactRecordsBytesSpec)

/-- ITS FALSE NEIGHBOUR: 'it returns false'. Refute it at one input. -/
def fnExactRecordsBytesWrong : ChangeSpec := { name := "fnExactRecordsBytes", fn := fun _ => fun
  | [d1, d2] => { results := [.lit (.bool false)], args := [d1, d2] }
  | _ => none }
def FnExactRecordsBytesWrongFalsely : Prop := fnExactRecordsBytesRow.holds Try.pinned (OpenSpec.ofChange fnExactRecordsBytesWrong)

/-- 'laws.FnRecordsBetween': WHATEVER THE INPUT: true; the input reads as it did. -/
def fnRecordsBetweenSpec : ChangeSpec := { name := "fnRecordsBetween", fn := fun _ => fun
  | [d] => { results := [.lit (.bool true)], args := [d] }
  | _ => none }
def fnRecordsBetweenRow : OpenClaim := { program := "ytnapcacgdidgdaa", sum := "1677c12ca494ae21cf94723d2b05d24703dd48fc682126e6e422874a4a390126", func := "loop.example/serialpair/laws.FnRecordsBetween", spec := "fnRecordsBetween", recurses := true, apart := false }
def FnRecordsBetweenSaid : Prop := fnRecordsBetweenRow.holds Try.pinned (OpenSpec.ofChange fnRecordsBetweenSpec)

/-- ITS FALSE NEIGHBOUR: 'it returns false'. Refute it at one input. -/
def fnRecordsBetweenWrong : ChangeSpec := { name := "fnRecordsBetween", fn := fun _ => fun
  | [d] => { results := [.lit (.bool false)], args := [d] }
  | _ => none }
def FnRecordsBetweenWrongFalsely : Prop := fnRecordsBetweenRow.holds Try.pinned (OpenSpec.ofChange fnRecordsBetweenWrong)

/-- 'laws.FnRecordsBetweenParts': WHATEVER THE INPUT: true; the input reads as it did. -/
def fnRecordsBetweenPartsSpec : ChangeSpec := { name := "fnRecordsBetweenParts", fn := fun _ => fun
  | [d1, d2] => { results := [.lit (.bool true)], args := [d1, d2] }
  | _ => none }
def fnRecordsBetweenPartsRow : OpenClaim := { program := "ytnapcacgdidgdaa", sum := "1677c12ca494ae21cf94723d2b05d24703dd48fc682126e6e422874a4a390126", func := "loop.example/serialpair/laws.FnRecordsBetweenParts", spec := "fnRecordsBetweenParts", recurses := true, apart := false }
def FnRecordsBetweenPartsSaid : Prop := fnRecordsBetweenPartsRow.holds Try.pinned (OpenSpec.ofChange fnRecordsBetweenPartsSpec)

/-- ITS FALSE NEIGHBOUR: 'it returns false'. Refute it at one input. -/
def fnRecordsBetweenPartsWrong : ChangeSpec := { name := "fnRecordsBetweenParts", fn := fun _ => fun
  | [d1, d2] => { results := [.lit (.bool false)], args := [d1, d2] }
  | _ => none }
def FnRecordsBetweenPartsWrongFalsely : Prop := fnRecordsBetweenPartsRow.holds Try.pinned (OpenSpec.ofChange fnRecordsBetweenPartsWrong)

/-- 'laws.FnExactRecordsBetween': WHATEVER THE INPUT: true; the input reads as it did. -/
def fnExactRecordsBetweenSpec : ChangeSpec := { name := "fnExactRecordsBetween", fn := fun _ => fun
  | [d1, d2, d3] => { results := [.lit (.bool true)], args := [d1, d2, d3] }
  | _ => none }
def fnExactRecordsBetweenRow : OpenClaim := { program := "ytnapcacgdidgdaa", sum := "1677c12ca494ae21cf94723d2b05d24703dd48fc682126e6e422874a4a390126", func := "loop.example/serialpair/laws.FnExactRecordsBetween", spec := "fnExactRecordsBetween", recurses := true, apart := false }
def FnExactRecordsBetweenSaid : Prop := fnExactRecordsBetweenRow.holds Try.pinned (OpenSpec.ofChange fnExactRecordsBetweenSpec)

/-- ITS FALSE NEIGHBOUR: 'it returns false'. Refute it at one input. -/
def fnExactRecordsBetweenWrong : ChangeSpec := { name := "fnExactRecordsBetween", fn := fun _ => fun
  | [d1, d2, d3] => { results := [.lit (.bool false)], args := [d1, d2, d3] }
  | _ => none }
def FnExactRecordsBetweenWrongFalsely : Prop := fnExactRecordsBetweenRow.holds Try.pinned (OpenSpec.ofChange fnExactRecordsBetweenWrong)

/- THE SECOND FORM. 'bulk': how many values and letters a reading holds, each counted each time it is reached (what is shared counts as often as it is met; a slice's spare places count too). A statement '..UptoSaid' is the law's where the arguments, and the package variables that the reading takes, are together of bulk at most 1048576: NARROWER than '..Said'. Prove '..Said' where nothing that the law and all that it calls make is longer than what came in: it says more and counts as full. Else prove '..UptoSaid'. A law counts once. -/
mutual
def uptoBulk {H : Type} : DataW H → Nat
  | .lit (.string bytes) => bytes.length + 1
  | .lit _ => 1
  | .nil => 1
  | .ptr d => uptoBulk d + 1
  | .slice elems spare => uptoBulkAll elems + uptoBulkAll spare + 1
  | .agg parts => uptoBulkAll parts + 1
  | .iface _ d => uptoBulk d + 1
  | .map entries => uptoBulkEntries entries + 1
  | .held _ => 1
def uptoBulkAll {H : Type} : List (DataW H) → Nat
  | [] => 0
  | d :: r => uptoBulk d + uptoBulkAll r
def uptoBulkEntries {H : Type} : List (Lit × DataW H) → Nat
  | [] => 0
  | x :: r => uptoBulkEntry x + uptoBulkEntries r
def uptoBulkEntry {H : Type} : Lit × DataW H → Nat
  | (.string bytes, d) => bytes.length + uptoBulk d + 1
  | (_, d) => uptoBulk d + 1
 end
def uptoSmall : (H : Type) → List (DataW H) → Bool := fun _ ds => decide (uptoBulkAll ds ≤ 1048576)
def OpenSpec.upto (s : _root_.Go.ChangeSpec) : _root_.Go.OpenSpec := { _root_.Go.OpenSpec.ofChange s with cond := some uptoSmall }

/-- 'laws.FnRecordsPart', WHERE WHAT IT READS IS OF BULK AT MOST 1048576: true; the input reads as it did. -/
def fnRecordsPartUptoRow : OpenClaim := { program := "ytnapcacgdidgdaa", sum := "1677c12ca494ae21cf94723d2b05d24703dd48fc682126e6e422874a4a390126", func := "loop.example/serialpair/laws.FnRecordsPart", spec := "fnRecordsPart", apart := false, narrowed := true }
def FnRecordsPartUptoSaid : Prop := fnRecordsPartUptoRow.holds Try.pinned (OpenSpec.upto fnRecordsPartSpec)

/-- 'laws.FnExactRecordsValid', WHERE WHAT IT READS IS OF BULK AT MOST 1048576: true; the input reads as it did. -/
def fnExactRecordsValidUptoRow : OpenClaim := { program := "ytnapcacgdidgdaa", sum := "1677c12ca494ae21cf94723d2b05d24703dd48fc682126e6e422874a4a390126", func := "loop.example/serialpair/laws.FnExactRecordsValid", spec := "fnExactRecordsValid", apart := false, narrowed := true }
def FnExactRecordsValidUptoSaid : Prop := fnExactRecordsValidUptoRow.holds Try.pinned (OpenSpec.upto fnExactRecordsValidSpec)

/-- 'laws.FnRecordsBytes', WHERE WHAT IT READS IS OF BULK AT MOST 1048576: true; the input reads as it did. -/
def fnRecordsBytesUptoRow : OpenClaim := { program := "ytnapcacgdidgdaa", sum := "1677c12ca494ae21cf94723d2b05d24703dd48fc682126e6e422874a4a390126", func := "loop.example/serialpair/laws.FnRecordsBytes", spec := "fnRecordsBytes", apart := false, narrowed := true }
def FnRecordsBytesUptoSaid : Prop := fnRecordsBytesUptoRow.holds Try.pinned (OpenSpec.upto fnRecordsBytesSpec)

/-- 'laws.FnExactRecordsBytes', WHERE WHAT IT READS IS OF BULK AT MOST 1048576: true; the input reads as it did. -/
def fnExactRecordsBytesUptoRow : OpenClaim := { program := "ytnapcacgdidgdaa", sum := "1677c12ca494ae21cf94723d2b05d24703dd48fc682126e6e422874a4a390126", func := "loop.example/serialpair/laws.FnExactRecordsBytes", spec := "fnExactRecordsBytes", apart := false, narrowed := true }
def FnExactRecordsBytesUptoSaid : Prop := fnExactRecordsBytesUptoRow.holds Try.pinned (OpenSpec.upto fnExactRecordsBytesSpec)

/-- 'laws.FnRecordsBetween', WHERE WHAT IT READS IS OF BULK AT MOST 1048576: true; the input reads as it did. -/
def fnRecordsBetweenUptoRow : OpenClaim := { program := "ytnapcacgdidgdaa", sum := "1677c12ca494ae21cf94723d2b05d24703dd48fc682126e6e422874a4a390126", func := "loop.example/serialpair/laws.FnRecordsBetween", spec := "fnRecordsBetween", recurses := true, apart := false, narrowed := true }
def FnRecordsBetweenUptoSaid : Prop := fnRecordsBetweenUptoRow.holds Try.pinned (OpenSpec.upto fnRecordsBetweenSpec)

/-- 'laws.FnRecordsBetweenParts', WHERE WHAT IT READS IS OF BULK AT MOST 1048576: true; the input reads as it did. -/
def fnRecordsBetweenPartsUptoRow : OpenClaim := { program := "ytnapcacgdidgdaa", sum := "1677c12ca494ae21cf94723d2b05d24703dd48fc682126e6e422874a4a390126", func := "loop.example/serialpair/laws.FnRecordsBetweenParts", spec := "fnRecordsBetweenParts", recurses := true, apart := false, narrowed := true }
def FnRecordsBetweenPartsUptoSaid : Prop := fnRecordsBetweenPartsUptoRow.holds Try.pinned (OpenSpec.upto fnRecordsBetweenPartsSpec)

/-- 'laws.FnExactRecordsBetween', WHERE WHAT IT READS IS OF BULK AT MOST 1048576: true; the input reads as it did. -/
def fnExactRecordsBetweenUptoRow : OpenClaim := { program := "ytnapcacgdidgdaa", sum := "1677c12ca494ae21cf94723d2b05d24703dd48fc682126e6e422874a4a390126", func := "loop.example/serialpair/laws.FnExactRecordsBetween", spec := "fnExactRecordsBetween", recurses := true, apart := false, narrowed := true }
def FnExactRecordsBetweenUptoSaid : Prop := fnExactRecordsBetweenUptoRow.holds Try.pinned (OpenSpec.upto fnExactRecordsBetweenSpec)

end Rows
end Go.Proofs.Ytnapcacgdidgdaa
