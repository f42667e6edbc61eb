/-
  No cell of these rows narrows 'for every input' (looked for: loops, veiled, ifaces, maps, wideKeys, modest, calm, conditions, laid).
  DERIVED. THE GIVEN ROWS OF THIS SEAT. 10 by the template 'for every input the law returns true; each argument reads behind the call as it read before'; 0 by the template 'total and deterministic' (their statements: YtfjdmdjoebjciaaTotals.lean).
  GIVEN WITH THE SEED: the statements are not yours to turn. If you find one false, say at which input.
  Laid BY PROGRAM, IN A SANDBOX (cutbox-rows.mjs): the forced cells as the released guide's own fill.sh prints them over the translation 93e7ed2173754b38… (all of the seat's roots in one cut). By AI agents, Wed Nov 11 2026. No macro, syntax, notation, axiom, sorry.
-/
import Derived.Test.YtfjdmdjoebjciaaChecked
import GoSem.Claim
import GoSem.ClaimJoined
import GoSem.ClaimMapViews
import Derived.JoinedTies
import Derived.KernelRfl
namespace Go.Proofs.Ytfjdmdjoebjciaa
/- THE CELL 'sum', in the pinned program and in every row, IS THE sha256 OF THE DUMP (.gsa) THAT YtfjdmdjoebjciaaProg.lean LOADS. Nothing in Lean hashes anything: it is a label: what it is worth is what the hold of that sum in a sandbox is worth. -/
noncomputable def Try.pinned : Pinned := { name := "ytfjdmdjoebjciaa", sum := "93e7ed2173754b38e86da81ff5633768d3e055170943ca883b41f36a150c7c6f", checked := Try.checked }
namespace Rows
def none {H : Type} : Left H := { results := [], args := [] }

/-- 'laws.FnFifoPut': WHATEVER THE INPUT: true; the input reads as it did. -/
def fnFifoPutSpec : ChangeSpec := { name := "fnFifoPut", fn := fun _ => fun
  | [d] => { results := [.lit (.bool true)], args := [d] }
  | _ => none }
def fnFifoPutRow : OpenClaim := { program := "ytfjdmdjoebjciaa", sum := "93e7ed2173754b38e86da81ff5633768d3e055170943ca883b41f36a150c7c6f", func := "loop.example/serialpair/laws.FnFifoPut", spec := "fnFifoPut", apart := false }
def FnFifoPutSaid : Prop := fnFifoPutRow.holds Try.pinned (OpenSpec.ofChange fnFifoPutSpec)

/-- ITS FALSE NEIGHBOUR: 'it returns false'. Refute it at one input. -/
def fnFifoPutWrong : ChangeSpec := { name := "fnFifoPut", fn := fun _ => fun
  | [d] => { results := [.lit (.bool false)], args := [d] }
  | _ => none }
def FnFifoPutWrongFalsely : Prop := fnFifoPutRow.holds Try.pinned (OpenSpec.ofChange fnFifoPutWrong)

/-- 'laws.FnFifoPutWhen': WHATEVER THE INPUT: true; the input reads as it did. -/
def fnFifoPutWhenSpec : ChangeSpec := { name := "fnFifoPutWhen", fn := fun _ => fun
  | [d] => { results := [.lit (.bool true)], args := [d] }
  | _ => none }
def fnFifoPutWhenRow : OpenClaim := { program := "ytfjdmdjoebjciaa", sum := "93e7ed2173754b38e86da81ff5633768d3e055170943ca883b41f36a150c7c6f", func := "loop.example/serialpair/laws.FnFifoPutWhen", spec := "fnFifoPutWhen", apart := false }
def FnFifoPutWhenSaid : Prop := fnFifoPutWhenRow.holds Try.pinned (OpenSpec.ofChange fnFifoPutWhenSpec)

/-- ITS FALSE NEIGHBOUR: 'it returns false'. Refute it at one input. -/
def fnFifoPutWhenWrong : ChangeSpec := { name := "fnFifoPutWhen", fn := fun _ => fun
  | [d] => { results := [.lit (.bool false)], args := [d] }
  | _ => none }
def FnFifoPutWhenWrongFalsely : Prop := fnFifoPutWhenRow.holds Try.pinned (OpenSpec.ofChange fnFifoPutWhenWrong)

/-- 'laws.FnFill': WHATEVER THE INPUT: true; the input reads as it did. -/
def fnFillSpec : ChangeSpec := { name := "fnFill", fn := fun _ => fun
  | [d] => { results := [.lit (.bool true)], args := [d] }
  | _ => none }
def fnFillRow : OpenClaim := { program := "ytfjdmdjoebjciaa", sum := "93e7ed2173754b38e86da81ff5633768d3e055170943ca883b41f36a150c7c6f", func := "loop.example/serialpair/laws.FnFill", spec := "fnFill", apart := false }
def FnFillSaid : Prop := fnFillRow.holds Try.pinned (OpenSpec.ofChange fnFillSpec)

/-- ITS FALSE NEIGHBOUR: 'it returns false'. Refute it at one input. -/
def fnFillWrong : ChangeSpec := { name := "fnFill", fn := fun _ => fun
  | [d] => { results := [.lit (.bool false)], args := [d] }
  | _ => none }
def FnFillWrongFalsely : Prop := fnFillRow.holds Try.pinned (OpenSpec.ofChange fnFillWrong)

/-- 'laws.FnFillMost': WHATEVER THE INPUT: true; the input reads as it did. -/
def fnFillMostSpec : ChangeSpec := { name := "fnFillMost", fn := fun _ => fun
  | [d] => { results := [.lit (.bool true)], args := [d] }
  | _ => none }
def fnFillMostRow : OpenClaim := { program := "ytfjdmdjoebjciaa", sum := "93e7ed2173754b38e86da81ff5633768d3e055170943ca883b41f36a150c7c6f", func := "loop.example/serialpair/laws.FnFillMost", spec := "fnFillMost", apart := false }
def FnFillMostSaid : Prop := fnFillMostRow.holds Try.pinned (OpenSpec.ofChange fnFillMostSpec)

/-- ITS FALSE NEIGHBOUR: 'it returns false'. Refute it at one input. -/
def fnFillMostWrong : ChangeSpec := { name := "fnFillMost", fn := fun _ => fun
  | [d] => { results := [.lit (.bool false)], args := [d] }
  | _ => none }
def FnFillMostWrongFalsely : Prop := fnFillMostRow.holds Try.pinned (OpenSpec.ofChange fnFillMostWrong)

/-- 'laws.FnExactFifoPut': WHATEVER THE INPUT: true; the input reads as it did. -/
def fnExactFifoPutSpec : ChangeSpec := { name := "fnExactFifoPut", fn := fun _ => fun
  | [d1, d2] => { results := [.lit (.bool true)], args := [d1, d2] }
  | _ => none }
def fnExactFifoPutRow : OpenClaim := { program := "ytfjdmdjoebjciaa", sum := "93e7ed2173754b38e86da81ff5633768d3e055170943ca883b41f36a150c7c6f", func := "loop.example/serialpair/laws.FnExactFifoPut", spec := "fnExactFifoPut", apart := false }
def FnExactFifoPutSaid : Prop := fnExactFifoPutRow.holds Try.pinned (OpenSpec.ofChange fnExactFifoPutSpec)

/-- ITS FALSE NEIGHBOUR: 'it returns false'. Refute it at one input. -/
def fnExactFifoPutWrong : ChangeSpec := { name := "fnExactFifoPut", fn := fun _ => fun
  | [d1, d2] => { results := [.lit (.bool false)], args := [d1, d2] }
  | _ => none }
def FnExactFifoPutWrongFalsely : Prop := fnExactFifoPutRow.holds Try.pinned (OpenSpec.ofChange fnExactFifoPutWrong)

/-- 'laws.FnFillPut': WHATEVER THE INPUT: true; the input reads as it did. -/
def fnFillPutSpec : ChangeSpec := { name := "fnFillPut", fn := fun _ => fun
  | [d] => { results := [.lit (.bool true)], args := [d] }
  | _ => none }
def fnFillPutRow : OpenClaim := { program := "ytfjdmdjoebjciaa", sum := "93e7ed2173754b38e86da81ff5633768d3e055170943ca883b41f36a150c7c6f", func := "loop.example/serialpair/laws.FnFillPut", spec := "fnFillPut", apart := false }
def FnFillPutSaid : Prop := fnFillPutRow.holds Try.pinned (OpenSpec.ofChange fnFillPutSpec)

/-- ITS FALSE NEIGHBOUR: 'it returns false'. Refute it at one input. -/
def fnFillPutWrong : ChangeSpec := { name := "fnFillPut", fn := fun _ => fun
  | [d] => { results := [.lit (.bool false)], args := [d] }
  | _ => none }
def FnFillPutWrongFalsely : Prop := fnFillPutRow.holds Try.pinned (OpenSpec.ofChange fnFillPutWrong)

/-- 'laws.FnExactFifoFill': WHATEVER THE INPUT: true; the input reads as it did. -/
def fnExactFifoFillSpec : ChangeSpec := { name := "fnExactFifoFill", fn := fun _ => fun
  | [d1, d2] => { results := [.lit (.bool true)], args := [d1, d2] }
  | _ => none }
def fnExactFifoFillRow : OpenClaim := { program := "ytfjdmdjoebjciaa", sum := "93e7ed2173754b38e86da81ff5633768d3e055170943ca883b41f36a150c7c6f", func := "loop.example/serialpair/laws.FnExactFifoFill", spec := "fnExactFifoFill", apart := false }
def FnExactFifoFillSaid : Prop := fnExactFifoFillRow.holds Try.pinned (OpenSpec.ofChange fnExactFifoFillSpec)

/-- ITS FALSE NEIGHBOUR: 'it returns false'. Refute it at one input. -/
def fnExactFifoFillWrong : ChangeSpec := { name := "fnExactFifoFill", fn := fun _ => fun
  | [d1, d2] => { results := [.lit (.bool false)], args := [d1, d2] }
  | _ => none }
def FnExactFifoFillWrongFalsely : Prop := fnExactFifoFillRow.holds Try.pinned (OpenSpec.ofChange fnExactFifoFillWrong)

/-- 'laws.FnWaitsPut': WHATEVER THE INPUT: true; the input reads as it did. -/
def fnWaitsPutSpec : ChangeSpec := { name := "fnWaitsPut", fn := fun _ => fun
  | [d] => { results := [.lit (.bool true)], args := [d] }
  | _ => none }
def fnWaitsPutRow : OpenClaim := { program := "ytfjdmdjoebjciaa", sum := "93e7ed2173754b38e86da81ff5633768d3e055170943ca883b41f36a150c7c6f", func := "loop.example/serialpair/laws.FnWaitsPut", spec := "fnWaitsPut", apart := false }
def FnWaitsPutSaid : Prop := fnWaitsPutRow.holds Try.pinned (OpenSpec.ofChange fnWaitsPutSpec)

/-- ITS FALSE NEIGHBOUR: 'it returns false'. Refute it at one input. -/
def fnWaitsPutWrong : ChangeSpec := { name := "fnWaitsPut", fn := fun _ => fun
  | [d] => { results := [.lit (.bool false)], args := [d] }
  | _ => none }
def FnWaitsPutWrongFalsely : Prop := fnWaitsPutRow.holds Try.pinned (OpenSpec.ofChange fnWaitsPutWrong)

/-- 'laws.FnSendPut': WHATEVER THE INPUT: true; the input reads as it did. -/
def fnSendPutSpec : ChangeSpec := { name := "fnSendPut", fn := fun _ => fun
  | [d] => { results := [.lit (.bool true)], args := [d] }
  | _ => none }
def fnSendPutRow : OpenClaim := { program := "ytfjdmdjoebjciaa", sum := "93e7ed2173754b38e86da81ff5633768d3e055170943ca883b41f36a150c7c6f", func := "loop.example/serialpair/laws.FnSendPut", spec := "fnSendPut", apart := false }
def FnSendPutSaid : Prop := fnSendPutRow.holds Try.pinned (OpenSpec.ofChange fnSendPutSpec)

/-- ITS FALSE NEIGHBOUR: 'it returns false'. Refute it at one input. -/
def fnSendPutWrong : ChangeSpec := { name := "fnSendPut", fn := fun _ => fun
  | [d] => { results := [.lit (.bool false)], args := [d] }
  | _ => none }
def FnSendPutWrongFalsely : Prop := fnSendPutRow.holds Try.pinned (OpenSpec.ofChange fnSendPutWrong)

/-- 'laws.FnExactSendPut': WHATEVER THE INPUT: true; the input reads as it did. -/
def fnExactSendPutSpec : ChangeSpec := { name := "fnExactSendPut", fn := fun _ => fun
  | [d1, d2] => { results := [.lit (.bool true)], args := [d1, d2] }
  | _ => none }
def fnExactSendPutRow : OpenClaim := { program := "ytfjdmdjoebjciaa", sum := "93e7ed2173754b38e86da81ff5633768d3e055170943ca883b41f36a150c7c6f", func := "loop.example/serialpair/laws.FnExactSendPut", spec := "fnExactSendPut", apart := false }
def FnExactSendPutSaid : Prop := fnExactSendPutRow.holds Try.pinned (OpenSpec.ofChange fnExactSendPutSpec)

/-- ITS FALSE NEIGHBOUR: 'it returns false'. Refute it at one input. -/
def fnExactSendPutWrong : ChangeSpec := { name := "fnExactSendPut", fn := fun _ => fun
  | [d1, d2] => { results := [.lit (.bool false)], args := [d1, d2] }
  | _ => none }
def FnExactSendPutWrongFalsely : Prop := fnExactSendPutRow.holds Try.pinned (OpenSpec.ofChange fnExactSendPutWrong)

/- THE SECOND FORM. 'bulk': how many values and letters a reading holds, each counted each time it is reached (what is shared counts as often as it is met; a slice's spare places count too). A statement '..UptoSaid' is the law's where the arguments, and the package variables that the reading takes, are together of bulk at most 1048576: NARROWER than '..Said'. Prove '..Said' where nothing that the law and all that it calls make is longer than what came in: it says more and counts as full. Else prove '..UptoSaid'. A law counts once. -/
mutual
def uptoBulk {H : Type} : DataW H → Nat
  | .lit (.string bytes) => bytes.length + 1
  | .lit _ => 1
  | .nil => 1
  | .ptr d => uptoBulk d + 1
  | .slice elems spare => uptoBulkAll elems + uptoBulkAll spare + 1
  | .agg parts => uptoBulkAll parts + 1
  | .iface _ d => uptoBulk d + 1
  | .map entries => uptoBulkEntries entries + 1
  | .held _ => 1
def uptoBulkAll {H : Type} : List (DataW H) → Nat
  | [] => 0
  | d :: r => uptoBulk d + uptoBulkAll r
def uptoBulkEntries {H : Type} : List (Lit × DataW H) → Nat
  | [] => 0
  | x :: r => uptoBulkEntry x + uptoBulkEntries r
def uptoBulkEntry {H : Type} : Lit × DataW H → Nat
  | (.string bytes, d) => bytes.length + uptoBulk d + 1
  | (_, d) => uptoBulk d + 1
 end
def uptoSmall : (H : Type) → List (DataW H) → Bool := fun _ ds => decide (uptoBulkAll ds ≤ 1048576)
def OpenSpec.upto (s : _root_.Go.ChangeSpec) : _root_.Go.OpenSpec := { _root_.Go.OpenSpec.ofChange s with cond := some uptoSmall }

/-- 'laws.FnFifoPut', WHERE WHAT IT READS IS OF BULK AT MOST 1048576: true; the input reads as it did. -/
def fnFifoPutUptoRow : OpenClaim := { program := "ytfjdmdjoebjciaa", sum := "93e7ed2173754b38e86da81ff5633768d3e055170943ca883b41f36a150c7c6f", func := "loop.example/serialpair/laws.FnFifoPut", spec := "fnFifoPut", apart := false, narrowed := true }
def FnFifoPutUptoSaid : Prop := fnFifoPutUptoRow.holds Try.pinned (OpenSpec.upto fnFifoPutSpec)

/-- 'laws.FnFifoPutWhen', WHERE WHAT IT READS IS OF BULK AT MOST 1048576: true; the input reads as it did. -/
def fnFifoPutWhenUptoRow : OpenClaim := { program := "ytfjdmdjoebjciaa", sum := "93e7ed2173754b38e86da81ff5633768d3e055170943ca883b41f36a150c7c6f", func := "loop.example/serialpair/laws.FnFifoPutWhen", spec := "fnFifoPutWhen", apart := false, narrowed := true }
def FnFifoPutWhenUptoSaid : Prop := fnFifoPutWhenUptoRow.holds Try.pinned (OpenSpec.upto fnFifoPutWhenSpec)

/-- 'laws.FnFill', WHERE WHAT IT READS IS OF BULK AT MOST 1048576: true; the input reads as it did. -/
def fnFillUptoRow : OpenClaim := { program := "ytfjdmdjoebjciaa", sum := "93e7ed2173754b38e86da81ff5633768d3e055170943ca883b41f36a150c7c6f", func := "loop.example/serialpair/laws.FnFill", spec := "fnFill", apart := false, narrowed := true }
def FnFillUptoSaid : Prop := fnFillUptoRow.holds Try.pinned (OpenSpec.upto fnFillSpec)

/-- 'laws.FnFillMost', WHERE WHAT IT READS IS OF BULK AT MOST 1048576: true; the input reads as it did. -/
def fnFillMostUptoRow : OpenClaim := { program := "ytfjdmdjoebjciaa", sum := "93e7ed2173754b38e86da81ff5633768d3e055170943ca883b41f36a150c7c6f", func := "loop.example/serialpair/laws.FnFillMost", spec := "fnFillMost", apart := false, narrowed := true }
def FnFillMostUptoSaid : Prop := fnFillMostUptoRow.holds Try.pinned (OpenSpec.upto fnFillMostSpec)

/-- 'laws.FnExactFifoPut', WHERE WHAT IT READS IS OF BULK AT MOST 1048576: true; the input reads as it did. -/
def fnExactFifoPutUptoRow : OpenClaim := { program := "ytfjdmdjoebjciaa", sum := "93e7ed2173754b38e86da81ff5633768d3e055170943ca883b41f36a150c7c6f", func := "loop.example/serialpair/laws.FnExactFifoPut", spec := "fnExactFifoPut", apart := false, narrowed := true }
def FnExactFifoPutUptoSaid : Prop := fnExactFifoPutUptoRow.holds Try.pinned (OpenSpec.upto fnExactFifoPutSpec)

/-- 'laws.FnFillPut', WHERE WHAT IT READS IS OF BULK AT MOST 1048576: true; the input reads as it did. -/
def fnFillPutUptoRow : OpenClaim := { program := "ytfjdmdjoebjciaa", sum := "93e7ed2173754b38e86da81ff5633768d3e055170943ca883b41f36a150c7c6f", func := "loop.example/serialpair/laws.FnFillPut", spec := "fnFillPut", apart := false, narrowed := true }
def FnFillPutUptoSaid : Prop := fnFillPutUptoRow.holds Try.pinned (OpenSpec.upto fnFillPutSpec)

/-- 'laws.FnExactFifoFill', WHERE WHAT IT READS IS OF BULK AT MOST 1048576: true; the input reads as it did. -/
def fnExactFifoFillUptoRow : OpenClaim := { program := "ytfjdmdjoebjciaa", sum := "93e7ed2173754b38e86da81ff5633768d3e055170943ca883b41f36a150c7c6f", func := "loop.example/serialpair/laws.FnExactFifoFill", spec := "fnExactFifoFill", apart := false, narrowed := true }
def FnExactFifoFillUptoSaid : Prop := fnExactFifoFillUptoRow.holds Try.pinned (OpenSpec.upto fnExactFifoFillSpec)

/-- 'laws.FnWaitsPut', WHERE WHAT IT READS IS OF BULK AT MOST 1048576: true; the input reads as it did. -/
def fnWaitsPutUptoRow : OpenClaim := { program := "ytfjdmdjoebjciaa", sum := "93e7ed2173754b38e86da81ff5633768d3e055170943ca883b41f36a150c7c6f", func := "loop.example/serialpair/laws.FnWaitsPut", spec := "fnWaitsPut", apart := false, narrowed := true }
def FnWaitsPutUptoSaid : Prop := fnWaitsPutUptoRow.holds Try.pinned (OpenSpec.upto fnWaitsPutSpec)

/-- 'laws.FnSendPut', WHERE WHAT IT READS IS OF BULK AT MOST 1048576: true; the input reads as it did. -/
def fnSendPutUptoRow : OpenClaim := { program := "ytfjdmdjoebjciaa", sum := "93e7ed2173754b38e86da81ff5633768d3e055170943ca883b41f36a150c7c6f", func := "loop.example/serialpair/laws.FnSendPut", spec := "fnSendPut", apart := false, narrowed := true }
def FnSendPutUptoSaid : Prop := fnSendPutUptoRow.holds Try.pinned (OpenSpec.upto fnSendPutSpec)

/-- 'laws.FnExactSendPut', WHERE WHAT IT READS IS OF BULK AT MOST 1048576: true; the input reads as it did. -/
def fnExactSendPutUptoRow : OpenClaim := { program := "ytfjdmdjoebjciaa", sum := "93e7ed2173754b38e86da81ff5633768d3e055170943ca883b41f36a150c7c6f", func := "loop.example/serialpair/laws.FnExactSendPut", spec := "fnExactSendPut", apart := false, narrowed := true }
def FnExactSendPutUptoSaid : Prop := fnExactSendPutUptoRow.holds Try.pinned (OpenSpec.upto fnExactSendPutSpec)

end Rows
end Go.Proofs.Ytfjdmdjoebjciaa
