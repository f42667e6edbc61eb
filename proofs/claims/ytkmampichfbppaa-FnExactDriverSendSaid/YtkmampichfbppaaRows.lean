/-
  No cell of these rows narrows 'for every input' (looked for: loops, veiled, ifaces, maps, wideKeys, modest, calm, conditions, laid).
  DERIVED. THE GIVEN ROWS OF THIS SEAT. 8 by the template 'for every input the law returns true; each argument reads behind the call as it read before'; 0 by the template 'total and deterministic' (their statements: YtkmampichfbppaaTotals.lean).
  GIVEN WITH THE SEED: the statements are not yours to turn. If you find one false, say at which input.
  Laid BY PROGRAM, IN A SANDBOX (cutbox-rows.mjs): the forced cells as the released guide's own fill.sh prints them over the translation b8380d139898efd9… (all of the seat's roots in one cut). By AI agents, Wed Nov 11 2026. No macro, syntax, notation, axiom, sorry.
-/
import Derived.Test.YtkmampichfbppaaChecked
import GoSem.Claim
import GoSem.ClaimJoined
import GoSem.ClaimMapViews
import Derived.JoinedTies
import Derived.KernelRfl
namespace Go.Proofs.Ytkmampichfbppaa
/- THE CELL 'sum', in the pinned program and in every row, IS THE sha256 OF THE DUMP (.gsa) THAT YtkmampichfbppaaProg.lean LOADS. Nothing in Lean hashes anything: it is a label: what it is worth is what the hold of that sum in a sandbox is worth. -/
noncomputable def Try.pinned : Pinned := { name := "ytkmampichfbppaa", sum := "b8380d139898efd9ba51bf504679d037b817c6a7e6bac2d798891c01b41ae606", checked := Try.checked }
namespace Rows
def none {H : Type} : Left H := { results := [], args := [] }

/-- 'laws.FnExactDriverTake': WHATEVER THE INPUT: true; the input reads as it did. -/
def fnExactDriverTakeSpec : ChangeSpec := { name := "fnExactDriverTake", fn := fun _ => fun
  | [d1, d2] => { results := [.lit (.bool true)], args := [d1, d2] }
  | _ => none }
def fnExactDriverTakeRow : OpenClaim := { program := "ytkmampichfbppaa", sum := "b8380d139898efd9ba51bf504679d037b817c6a7e6bac2d798891c01b41ae606", func := "loop.example/serialpair/laws.FnExactDriverTake", spec := "fnExactDriverTake", apart := false }
def FnExactDriverTakeSaid : Prop := fnExactDriverTakeRow.holds Try.pinned (OpenSpec.ofChange fnExactDriverTakeSpec)

/-- ITS FALSE NEIGHBOUR: 'it returns false'. Refute it at one input. -/
def fnExactDriverTakeWrong : ChangeSpec := { name := "fnExactDriverTake", fn := fun _ => fun
  | [d1, d2] => { results := [.lit (.bool false)], args := [d1, d2] }
  | _ => none }
def FnExactDriverTakeWrongFalsely : Prop := fnExactDriverTakeRow.holds Try.pinned (OpenSpec.ofChange fnExactDriverTakeWrong)

/-- 'laws.FnExactDriverSend': WHATEVER THE INPUT: true; the input reads as it did. -/
def fnExactDriverSendSpec : ChangeSpec := { name := "fnExactDriverSend", fn := fun _ => fun
  | [d1, d2] => { results := [.lit (.bool true)], args := [d1, d2] }
  | _ => none }
def fnExactDriverSendRow : OpenClaim := { program := "ytkmampichfbppaa", sum := "b8380d139898efd9ba51bf504679d037b817c6a7e6bac2d798891c01b41ae606", func := "loop.example/serialpair/laws.FnExactDriverSend", spec := "fnExactDriverSend", apart := false }
def FnExactDriverSendSaid : Prop := fnExactDriverSendRow.holds Try.pinned (OpenSpec.ofChange fnExactDriverSendSpec)

/-- ITS FALSE NEIGHBOUR: 'it returns false'. Refute it at one input. -/
def fnExactDriverSendWrong : ChangeSpec := { name := "fnExactDriverSend", fn := fun _ => fun
  | [d1, d2] => { results := [.lit (.bool false)], args := [d1, d2] }
  | _ => none }
def FnExactDriverSendWrongFalsely : Prop := fnExactDriverSendRow.holds Try.pinned (OpenSpec.ofChange fnExactDriverSendWrong)

/-- 'laws.FnDriverTake': WHATEVER THE INPUT: true; the input reads as it did. -/
def fnDriverTakeSpec : ChangeSpec := { name := "fnDriverTake", fn := fun _ => fun
  | [d] => { results := [.lit (.bool true)], args := [d] }
  | _ => none }
def fnDriverTakeRow : OpenClaim := { program := "ytkmampichfbppaa", sum := "b8380d139898efd9ba51bf504679d037b817c6a7e6bac2d798891c01b41ae606", func := "loop.example/serialpair/laws.FnDriverTake", spec := "fnDriverTake", apart := false }
def FnDriverTakeSaid : Prop := fnDriverTakeRow.holds Try.pinned (OpenSpec.ofChange fnDriverTakeSpec)

/-- ITS FALSE NEIGHBOUR: 'it returns false'. Refute it at one input. -/
def fnDriverTakeWrong : ChangeSpec := { name := "fnDriverTake", fn := fun _ => fun
  | [d] => { results := [.lit (.bool false)], args := [d] }
  | _ => none }
def FnDriverTakeWrongFalsely : Prop := fnDriverTakeRow.holds Try.pinned (OpenSpec.ofChange fnDriverTakeWrong)

/-- 'laws.FnDriverTakeParts': WHATEVER THE INPUT: true; the input reads as it did. -/
def fnDriverTakePartsSpec : ChangeSpec := { name := "fnDriverTakeParts", fn := fun _ => fun
  | [d1, d2] => { results := [.lit (.bool true)], args := [d1, d2] }
  | _ => none }
def fnDriverTakePartsRow : OpenClaim := { program := "ytkmampichfbppaa", sum := "b8380d139898efd9ba51bf504679d037b817c6a7e6bac2d798891c01b41ae606", func := "loop.example/serialpair/laws.FnDriverTakeParts", spec := "fnDriverTakeParts", apart := false }
def FnDriverTakePartsSaid : Prop := fnDriverTakePartsRow.holds Try.pinned (OpenSpec.ofChange fnDriverTakePartsSpec)

/-- ITS FALSE NEIGHBOUR: 'it returns false'. Refute it at one input. -/
def fnDriverTakePartsWrong : ChangeSpec := { name := "fnDriverTakeParts", fn := fun _ => fun
  | [d1, d2] => { results := [.lit (.bool false)], args := [d1, d2] }
  | _ => none }
def FnDriverTakePartsWrongFalsely : Prop := fnDriverTakePartsRow.holds Try.pinned (OpenSpec.ofChange fnDriverTakePartsWrong)

/-- 'laws.FnDriverSend': WHATEVER THE INPUT: true; the input reads as it did. -/
def fnDriverSendSpec : ChangeSpec := { name := "fnDriverSend", fn := fun _ => fun
  | [d] => { results := [.lit (.bool true)], args := [d] }
  | _ => none }
def fnDriverSendRow : OpenClaim := { program := "ytkmampichfbppaa", sum := "b8380d139898efd9ba51bf504679d037b817c6a7e6bac2d798891c01b41ae606", func := "loop.example/serialpair/laws.FnDriverSend", spec := "fnDriverSend", apart := false }
def FnDriverSendSaid : Prop := fnDriverSendRow.holds Try.pinned (OpenSpec.ofChange fnDriverSendSpec)

/-- ITS FALSE NEIGHBOUR: 'it returns false'. Refute it at one input. -/
def fnDriverSendWrong : ChangeSpec := { name := "fnDriverSend", fn := fun _ => fun
  | [d] => { results := [.lit (.bool false)], args := [d] }
  | _ => none }
def FnDriverSendWrongFalsely : Prop := fnDriverSendRow.holds Try.pinned (OpenSpec.ofChange fnDriverSendWrong)

/-- 'laws.FnDriverSendParts': WHATEVER THE INPUT: true; the input reads as it did. -/
def fnDriverSendPartsSpec : ChangeSpec := { name := "fnDriverSendParts", fn := fun _ => fun
  | [d1, d2] => { results := [.lit (.bool true)], args := [d1, d2] }
  | _ => none }
def fnDriverSendPartsRow : OpenClaim := { program := "ytkmampichfbppaa", sum := "b8380d139898efd9ba51bf504679d037b817c6a7e6bac2d798891c01b41ae606", func := "loop.example/serialpair/laws.FnDriverSendParts", spec := "fnDriverSendParts", apart := false }
def FnDriverSendPartsSaid : Prop := fnDriverSendPartsRow.holds Try.pinned (OpenSpec.ofChange fnDriverSendPartsSpec)

/-- ITS FALSE NEIGHBOUR: 'it returns false'. Refute it at one input. -/
def fnDriverSendPartsWrong : ChangeSpec := { name := "fnDriverSendParts", fn := fun _ => fun
  | [d1, d2] => { results := [.lit (.bool false)], args := [d1, d2] }
  | _ => none }
def FnDriverSendPartsWrongFalsely : Prop := fnDriverSendPartsRow.holds Try.pinned (OpenSpec.ofChange fnDriverSendPartsWrong)

/-- 'laws.FnFlowDriver': WHATEVER THE INPUT: true; the input reads as it did. -/
def fnFlowDriverSpec : ChangeSpec := { name := "fnFlowDriver", fn := fun _ => fun
  | [d] => { results := [.lit (.bool true)], args := [d] }
  | _ => none }
def fnFlowDriverRow : OpenClaim := { program := "ytkmampichfbppaa", sum := "b8380d139898efd9ba51bf504679d037b817c6a7e6bac2d798891c01b41ae606", func := "loop.example/serialpair/laws.FnFlowDriver", spec := "fnFlowDriver", unfollowed := true, recurses := true, apart := false }
def FnFlowDriverSaid : Prop := fnFlowDriverRow.holds Try.pinned (OpenSpec.ofChange fnFlowDriverSpec)

/-- ITS FALSE NEIGHBOUR: 'it returns false'. Refute it at one input. -/
def fnFlowDriverWrong : ChangeSpec := { name := "fnFlowDriver", fn := fun _ => fun
  | [d] => { results := [.lit (.bool false)], args := [d] }
  | _ => none }
def FnFlowDriverWrongFalsely : Prop := fnFlowDriverRow.holds Try.pinned (OpenSpec.ofChange fnFlowDriverWrong)

/-- 'laws.FnFlowDriverTake': WHATEVER THE INPUT: true; the input reads as it did. -/
def fnFlowDriverTakeSpec : ChangeSpec := { name := "fnFlowDriverTake", fn := fun _ => fun
  | [d] => { results := [.lit (.bool true)], args := [d] }
  | _ => none }
def fnFlowDriverTakeRow : OpenClaim := { program := "ytkmampichfbppaa", sum := "b8380d139898efd9ba51bf504679d037b817c6a7e6bac2d798891c01b41ae606", func := "loop.example/serialpair/laws.FnFlowDriverTake", spec := "fnFlowDriverTake", unfollowed := true, recurses := true, apart := false }
def FnFlowDriverTakeSaid : Prop := fnFlowDriverTakeRow.holds Try.pinned (OpenSpec.ofChange fnFlowDriverTakeSpec)

/-- ITS FALSE NEIGHBOUR: 'it returns false'. Refute it at one input. -/
def fnFlowDriverTakeWrong : ChangeSpec := { name := "fnFlowDriverTake", fn := fun _ => fun
  | [d] => { results := [.lit (.bool false)], args := [d] }
  | _ => none }
def FnFlowDriverTakeWrongFalsely : Prop := fnFlowDriverTakeRow.holds Try.pinned (OpenSpec.ofChange fnFlowDriverTakeWrong)

/- THE SECOND FORM. 'bulk': how many values and letters a reading holds, each counted each time it is reached (what is shared counts as often as it is met; a slice's spare places count too). A statement '..UptoSaid' is the law's where the arguments, and the package variables that the reading takes, are together of bulk at most 1048576: NARROWER than '..Said'. Prove '..Said' where nothing that the law and all that it calls make is longer than what came in: it says more and counts as full. Else prove '..UptoSaid'. A law counts once. -/
mutual
def uptoBulk {H : Type} : DataW H → Nat
  | .lit (.string bytes) => bytes.length + 1
  | .lit _ => 1
  | .nil => 1
  | .ptr d => uptoBulk d + 1
  | .slice elems spare => uptoBulkAll elems + uptoBulkAll spare + 1
  | .agg parts => uptoBulkAll parts + 1
  | .iface _ d => uptoBulk d + 1
  | .map entries => uptoBulkEntries entries + 1
  | .held _ => 1
def uptoBulkAll {H : Type} : List (DataW H) → Nat
  | [] => 0
  | d :: r => uptoBulk d + uptoBulkAll r
def uptoBulkEntries {H : Type} : List (Lit × DataW H) → Nat
  | [] => 0
  | x :: r => uptoBulkEntry x + uptoBulkEntries r
def uptoBulkEntry {H : Type} : Lit × DataW H → Nat
  | (.string bytes, d) => bytes.length + uptoBulk d + 1
  | (_, d) => uptoBulk d + 1
 end
def uptoSmall : (H : Type) → List (DataW H) → Bool := fun _ ds => decide (uptoBulkAll ds ≤ 1048576)
def OpenSpec.upto (s : _root_.Go.ChangeSpec) : _root_.Go.OpenSpec := { _root_.Go.OpenSpec.ofChange s with cond := some uptoSmall }

/-- 'laws.FnExactDriverTake', WHERE WHAT IT READS IS OF BULK AT MOST 1048576: true; the input reads as it did. -/
def fnExactDriverTakeUptoRow : OpenClaim := { program := "ytkmampichfbppaa", sum := "b8380d139898efd9ba51bf504679d037b817c6a7e6bac2d798891c01b41ae606", func := "loop.example/serialpair/laws.FnExactDriverTake", spec := "fnExactDriverTake", apart := false, narrowed := true }
def FnExactDriverTakeUptoSaid : Prop := fnExactDriverTakeUptoRow.holds Try.pinned (OpenSpec.upto fnExactDriverTakeSpec)

/-- 'laws.FnExactDriverSend', WHERE WHAT IT READS IS OF BULK AT MOST 1048576: true; the input reads as it did. -/
def fnExactDriverSendUptoRow : OpenClaim := { program := "ytkmampichfbppaa", sum := "b8380d139898efd9ba51bf504679d037b817c6a7e6bac2d798891c01b41ae606", func := "loop.example/serialpair/laws.FnExactDriverSend", spec := "fnExactDriverSend", apart := false, narrowed := true }
def FnExactDriverSendUptoSaid : Prop := fnExactDriverSendUptoRow.holds Try.pinned (OpenSpec.upto fnExactDriverSendSpec)

/-- 'laws.FnDriverTake', WHERE WHAT IT READS IS OF BULK AT MOST 1048576: true; the input reads as it did. -/
def fnDriverTakeUptoRow : OpenClaim := { program := "ytkmampichfbppaa", sum := "b8380d139898efd9ba51bf504679d037b817c6a7e6bac2d798891c01b41ae606", func := "loop.example/serialpair/laws.FnDriverTake", spec := "fnDriverTake", apart := false, narrowed := true }
def FnDriverTakeUptoSaid : Prop := fnDriverTakeUptoRow.holds Try.pinned (OpenSpec.upto fnDriverTakeSpec)

/-- 'laws.FnDriverTakeParts', WHERE WHAT IT READS IS OF BULK AT MOST 1048576: true; the input reads as it did. -/
def fnDriverTakePartsUptoRow : OpenClaim := { program := "ytkmampichfbppaa", sum := "b8380d139898efd9ba51bf504679d037b817c6a7e6bac2d798891c01b41ae606", func := "loop.example/serialpair/laws.FnDriverTakeParts", spec := "fnDriverTakeParts", apart := false, narrowed := true }
def FnDriverTakePartsUptoSaid : Prop := fnDriverTakePartsUptoRow.holds Try.pinned (OpenSpec.upto fnDriverTakePartsSpec)

/-- 'laws.FnDriverSend', WHERE WHAT IT READS IS OF BULK AT MOST 1048576: true; the input reads as it did. -/
def fnDriverSendUptoRow : OpenClaim := { program := "ytkmampichfbppaa", sum := "b8380d139898efd9ba51bf504679d037b817c6a7e6bac2d798891c01b41ae606", func := "loop.example/serialpair/laws.FnDriverSend", spec := "fnDriverSend", apart := false, narrowed := true }
def FnDriverSendUptoSaid : Prop := fnDriverSendUptoRow.holds Try.pinned (OpenSpec.upto fnDriverSendSpec)

/-- 'laws.FnDriverSendParts', WHERE WHAT IT READS IS OF BULK AT MOST 1048576: true; the input reads as it did. -/
def fnDriverSendPartsUptoRow : OpenClaim := { program := "ytkmampichfbppaa", sum := "b8380d139898efd9ba51bf504679d037b817c6a7e6bac2d798891c01b41ae606", func := "loop.example/serialpair/laws.FnDriverSendParts", spec := "fnDriverSendParts", apart := false, narrowed := true }
def FnDriverSendPartsUptoSaid : Prop := fnDriverSendPartsUptoRow.holds Try.pinned (OpenSpec.upto fnDriverSendPartsSpec)

/-- 'laws.FnFlowDriver', WHERE WHAT IT READS IS OF BULK AT MOST 1048576: true; the input reads as it did. -/
def fnFlowDriverUptoRow : OpenClaim := { program := "ytkmampichfbppaa", sum := "b8380d139898efd9ba51bf504679d037b817c6a7e6bac2d798891c01b41ae606", func := "loop.example/serialpair/laws.FnFlowDriver", spec := "fnFlowDriver", unfollowed := true, recurses := true, apart := false, narrowed := true }
def FnFlowDriverUptoSaid : Prop := fnFlowDriverUptoRow.holds Try.pinned (OpenSpec.upto fnFlowDriverSpec)

/-- 'laws.FnFlowDriverTake', WHERE WHAT IT READS IS OF BULK AT MOST 1048576: true; the input reads as it did. -/
def fnFlowDriverTakeUptoRow : OpenClaim := { program := "ytkmampichfbppaa", sum := "b8380d139898efd9ba51bf504679d037b817c6a7e6bac2d798891c01b41ae606", func := "loop.example/serialpair/laws.FnFlowDriverTake", spec := "fnFlowDriverTake", unfollowed := true, recurses := true, apart := false, narrowed := true }
def FnFlowDriverTakeUptoSaid : Prop := fnFlowDriverTakeUptoRow.holds Try.pinned (OpenSpec.upto fnFlowDriverTakeSpec)

end Rows
end Go.Proofs.Ytkmampichfbppaa
