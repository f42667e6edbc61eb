/-
  No cell of these rows narrows 'for every input' (looked for: loops, veiled, ifaces, maps, wideKeys, modest, calm, conditions, laid).
  DERIVED. THE GIVEN ROWS OF THIS SEAT. 6 by the template 'for every input the law returns true; each argument reads behind the call as it read before'; 0 by the template 'total and deterministic' (their statements: YtmmdbbnmifpciaaTotals.lean).
  GIVEN WITH THE SEED: the statements are not yours to turn. If you find one false, say at which input.
  Laid BY PROGRAM, IN A SANDBOX (cutbox-rows.mjs): the forced cells as the released guide's own fill.sh prints them over the translation 9fbeaa328a0b5168… (all of the seat's roots in one cut). By AI agents, Wed Nov 11 2026. No macro, syntax, notation, axiom, sorry.
-/
import Derived.Test.YtmmdbbnmifpciaaChecked
import GoSem.Claim
import GoSem.ClaimJoined
import GoSem.ClaimMapViews
import Derived.JoinedTies
import Derived.KernelRfl
namespace Go.Proofs.Ytmmdbbnmifpciaa
/- THE CELL 'sum', in the pinned program and in every row, IS THE sha256 OF THE DUMP (.gsa) THAT YtmmdbbnmifpciaaProg.lean LOADS. Nothing in Lean hashes anything: it is a label: what it is worth is what the hold of that sum in a sandbox is worth. -/
noncomputable def Try.pinned : Pinned := { name := "ytmmdbbnmifpciaa", sum := "9fbeaa328a0b51681f26c8f78f462e133ab3cfaad6e92e4ab6b33dd6b81f5bd0", checked := Try.checked }
namespace Rows
def none {H : Type} : Left H := { results := [], args := [] }

/-- 'laws.FnReadyLate': WHATEVER THE INPUT: true; the input reads as it did. -/
def fnReadyLateSpec : ChangeSpec := { name := "fnReadyLate", fn := fun _ => fun
  | [d] => { results := [.lit (.bool true)], args := [d] }
  | _ => none }
def fnReadyLateRow : OpenClaim := { program := "ytmmdbbnmifpciaa", sum := "9fbeaa328a0b51681f26c8f78f462e133ab3cfaad6e92e4ab6b33dd6b81f5bd0", func := "loop.example/serialpair/laws.FnReadyLate", spec := "fnReadyLate", apart := false }
def FnReadyLateSaid : Prop := fnReadyLateRow.holds Try.pinned (OpenSpec.ofChange fnReadyLateSpec)

/-- ITS FALSE NEIGHBOUR: 'it returns false'. Refute it at one input. -/
def fnReadyLateWrong : ChangeSpec := { name := "fnReadyLate", fn := fun _ => fun
  | [d] => { results := [.lit (.bool false)], args := [d] }
  | _ => none }
def FnReadyLateWrongFalsely : Prop := fnReadyLateRow.holds Try.pinned (OpenSpec.ofChange fnReadyLateWrong)

/-- 'laws.FnRecvPut': WHATEVER THE INPUT: true; the input reads as it did. -/
def fnRecvPutSpec : ChangeSpec := { name := "fnRecvPut", fn := fun _ => fun
  | [d] => { results := [.lit (.bool true)], args := [d] }
  | _ => none }
def fnRecvPutRow : OpenClaim := { program := "ytmmdbbnmifpciaa", sum := "9fbeaa328a0b51681f26c8f78f462e133ab3cfaad6e92e4ab6b33dd6b81f5bd0", func := "loop.example/serialpair/laws.FnRecvPut", spec := "fnRecvPut", apart := false }
def FnRecvPutSaid : Prop := fnRecvPutRow.holds Try.pinned (OpenSpec.ofChange fnRecvPutSpec)

/-- ITS FALSE NEIGHBOUR: 'it returns false'. Refute it at one input. -/
def fnRecvPutWrong : ChangeSpec := { name := "fnRecvPut", fn := fun _ => fun
  | [d] => { results := [.lit (.bool false)], args := [d] }
  | _ => none }
def FnRecvPutWrongFalsely : Prop := fnRecvPutRow.holds Try.pinned (OpenSpec.ofChange fnRecvPutWrong)

/-- 'laws.FnRecvPutAge': WHATEVER THE INPUT: true; the input reads as it did. -/
def fnRecvPutAgeSpec : ChangeSpec := { name := "fnRecvPutAge", fn := fun _ => fun
  | [d] => { results := [.lit (.bool true)], args := [d] }
  | _ => none }
def fnRecvPutAgeRow : OpenClaim := { program := "ytmmdbbnmifpciaa", sum := "9fbeaa328a0b51681f26c8f78f462e133ab3cfaad6e92e4ab6b33dd6b81f5bd0", func := "loop.example/serialpair/laws.FnRecvPutAge", spec := "fnRecvPutAge", apart := false }
def FnRecvPutAgeSaid : Prop := fnRecvPutAgeRow.holds Try.pinned (OpenSpec.ofChange fnRecvPutAgeSpec)

/-- ITS FALSE NEIGHBOUR: 'it returns false'. Refute it at one input. -/
def fnRecvPutAgeWrong : ChangeSpec := { name := "fnRecvPutAge", fn := fun _ => fun
  | [d] => { results := [.lit (.bool false)], args := [d] }
  | _ => none }
def FnRecvPutAgeWrongFalsely : Prop := fnRecvPutAgeRow.holds Try.pinned (OpenSpec.ofChange fnRecvPutAgeWrong)

/-- 'laws.FnRecvTick': WHATEVER THE INPUT: true; the input reads as it did. -/
def fnRecvTickSpec : ChangeSpec := { name := "fnRecvTick", fn := fun _ => fun
  | [d] => { results := [.lit (.bool true)], args := [d] }
  | _ => none }
def fnRecvTickRow : OpenClaim := { program := "ytmmdbbnmifpciaa", sum := "9fbeaa328a0b51681f26c8f78f462e133ab3cfaad6e92e4ab6b33dd6b81f5bd0", func := "loop.example/serialpair/laws.FnRecvTick", spec := "fnRecvTick", apart := false }
def FnRecvTickSaid : Prop := fnRecvTickRow.holds Try.pinned (OpenSpec.ofChange fnRecvTickSpec)

/-- ITS FALSE NEIGHBOUR: 'it returns false'. Refute it at one input. -/
def fnRecvTickWrong : ChangeSpec := { name := "fnRecvTick", fn := fun _ => fun
  | [d] => { results := [.lit (.bool false)], args := [d] }
  | _ => none }
def FnRecvTickWrongFalsely : Prop := fnRecvTickRow.holds Try.pinned (OpenSpec.ofChange fnRecvTickWrong)

/-- 'laws.FnExactRecvPut': WHATEVER THE INPUT: true; the input reads as it did. -/
def fnExactRecvPutSpec : ChangeSpec := { name := "fnExactRecvPut", fn := fun _ => fun
  | [d1, d2] => { results := [.lit (.bool true)], args := [d1, d2] }
  | _ => none }
def fnExactRecvPutRow : OpenClaim := { program := "ytmmdbbnmifpciaa", sum := "9fbeaa328a0b51681f26c8f78f462e133ab3cfaad6e92e4ab6b33dd6b81f5bd0", func := "loop.example/serialpair/laws.FnExactRecvPut", spec := "fnExactRecvPut", apart := false }
def FnExactRecvPutSaid : Prop := fnExactRecvPutRow.holds Try.pinned (OpenSpec.ofChange fnExactRecvPutSpec)

/-- ITS FALSE NEIGHBOUR: 'it returns false'. Refute it at one input. -/
def fnExactRecvPutWrong : ChangeSpec := { name := "fnExactRecvPut", fn := fun _ => fun
  | [d1, d2] => { results := [.lit (.bool false)], args := [d1, d2] }
  | _ => none }
def FnExactRecvPutWrongFalsely : Prop := fnExactRecvPutRow.holds Try.pinned (OpenSpec.ofChange fnExactRecvPutWrong)

/-- 'laws.FnExactRecvTick': WHATEVER THE INPUT: true; the input reads as it did. -/
def fnExactRecvTickSpec : ChangeSpec := { name := "fnExactRecvTick", fn := fun _ => fun
  | [d] => { results := [.lit (.bool true)], args := [d] }
  | _ => none }
def fnExactRecvTickRow : OpenClaim := { program := "ytmmdbbnmifpciaa", sum := "9fbeaa328a0b51681f26c8f78f462e133ab3cfaad6e92e4ab6b33dd6b81f5bd0", func := "loop.example/serialpair/laws.FnExactRecvTick", spec := "fnExactRecvTick", apart := false }
def FnExactRecvTickSaid : Prop := fnExactRecvTickRow.holds Try.pinned (OpenSpec.ofChange fnExactRecvTickSpec)

/-- ITS FALSE NEIGHBOUR: 'it returns false'. Refute it at one input. -/
def fnExactRecvTickWrong : ChangeSpec := { name := "fnExactRecvTick", fn := fun _ => fun
  | [d] => { results := [.lit (.bool false)], args := [d] }
  | _ => none }
def FnExactRecvTickWrongFalsely : Prop := fnExactRecvTickRow.holds Try.pinned (OpenSpec.ofChange fnExactRecvTickWrong)

/- THE SECOND FORM. 'bulk': how many values and letters a reading holds, each counted each time it is reached (what is shared counts as often as it is met; a slice's spare places count too). A statement '..UptoSaid' is the law's where the arguments, and the package variables that the reading takes, are together of bulk at most 1048576: NARROWER than '..Said'. Prove '..Said' where nothing that the law and all that it calls make is longer than what came in: it says more and counts as full. Else prove '..UptoSaid'. A law counts once. -/
mutual
def uptoBulk {H : Type} : DataW H → Nat
  | .lit (.string bytes) => bytes.length + 1
  | .lit _ => 1
  | .nil => 1
  | .ptr d => uptoBulk d + 1
  | .slice elems spare => uptoBulkAll elems + uptoBulkAll spare + 1
  | .agg parts => uptoBulkAll parts + 1
  | .iface _ d => uptoBulk d + 1
  | .map entries => uptoBulkEntries entries + 1
  | .held _ => 1
def uptoBulkAll {H : Type} : List (DataW H) → Nat
  | [] => 0
  | d :: r => uptoBulk d + uptoBulkAll r
def uptoBulkEntries {H : Type} : List (Lit × DataW H) → Nat
  | [] => 0
  | x :: r => uptoBulkEntry x + uptoBulkEntries r
def uptoBulkEntry {H : Type} : Lit × DataW H → Nat
  | (.string bytes, d) => bytes.length + uptoBulk d + 1
  | (_, d) => uptoBulk d + 1
 end
def uptoSmall : (H : Type) → List (DataW H) → Bool := fun _ ds => decide (uptoBulkAll ds ≤ 1048576)
def OpenSpec.upto (s : _root_.Go.ChangeSpec) : _root_.Go.OpenSpec := { _root_.Go.OpenSpec.ofChange s with cond := some uptoSmall }

/-- 'laws.FnReadyLate', WHERE WHAT IT READS IS OF BULK AT MOST 1048576: true; the input reads as it did. -/
def fnReadyLateUptoRow : OpenClaim := { program := "ytmmdbbnmifpciaa", sum := "9fbeaa328a0b51681f26c8f78f462e133ab3cfaad6e92e4ab6b33dd6b81f5bd0", func := "loop.example/serialpair/laws.FnReadyLate", spec := "fnReadyLate", apart := false, narrowed := true }
def FnReadyLateUptoSaid : Prop := fnReadyLateUptoRow.holds Try.pinned (OpenSpec.upto fnReadyLateSpec)

/-- 'laws.FnRecvPut', WHERE WHAT IT READS IS OF BULK AT MOST 1048576: true; the input reads as it did. -/
def fnRecvPutUptoRow : OpenClaim := { program := "ytmmdbbnmifpciaa", sum := "9fbeaa328a0b51681f26c8f78f462e133ab3cfaad6e92e4ab6b33dd6b81f5bd0", func := "loop.example/serialpair/laws.FnRecvPut", spec := "fnRecvPut", apart := false, narrowed := true }
def FnRecvPutUptoSaid : Prop := fnRecvPutUptoRow.holds Try.pinned (OpenSpec.upto fnRecvPutSpec)

/-- 'laws.FnRecvPutAge', WHERE WHAT IT READS IS OF BULK AT MOST 1048576: true; the input reads as it did. -/
def fnRecvPutAgeUptoRow : OpenClaim := { program := "ytmmdbbnmifpciaa", sum := "9fbeaa328a0b51681f26c8f78f462e133ab3cfaad6e92e4ab6b33dd6b81f5bd0", func := "loop.example/serialpair/laws.FnRecvPutAge", spec := "fnRecvPutAge", apart := false, narrowed := true }
def FnRecvPutAgeUptoSaid : Prop := fnRecvPutAgeUptoRow.holds Try.pinned (OpenSpec.upto fnRecvPutAgeSpec)

/-- 'laws.FnRecvTick', WHERE WHAT IT READS IS OF BULK AT MOST 1048576: true; the input reads as it did. -/
def fnRecvTickUptoRow : OpenClaim := { program := "ytmmdbbnmifpciaa", sum := "9fbeaa328a0b51681f26c8f78f462e133ab3cfaad6e92e4ab6b33dd6b81f5bd0", func := "loop.example/serialpair/laws.FnRecvTick", spec := "fnRecvTick", apart := false, narrowed := true }
def FnRecvTickUptoSaid : Prop := fnRecvTickUptoRow.holds Try.pinned (OpenSpec.upto fnRecvTickSpec)

/-- 'laws.FnExactRecvPut', WHERE WHAT IT READS IS OF BULK AT MOST 1048576: true; the input reads as it did. -/
def fnExactRecvPutUptoRow : OpenClaim := { program := "ytmmdbbnmifpciaa", sum := "9fbeaa328a0b51681f26c8f78f462e133ab3cfaad6e92e4ab6b33dd6b81f5bd0", func := "loop.example/serialpair/laws.FnExactRecvPut", spec := "fnExactRecvPut", apart := false, narrowed := true }
def FnExactRecvPutUptoSaid : Prop := fnExactRecvPutUptoRow.holds Try.pinned (OpenSpec.upto fnExactRecvPutSpec)

/-- 'laws.FnExactRecvTick', WHERE WHAT IT READS IS OF BULK AT MOST 1048576: true; the input reads as it did. -/
def fnExactRecvTickUptoRow : OpenClaim := { program := "ytmmdbbnmifpciaa", sum := "9fbeaa328a0b51681f26c8f78f462e133ab3cfaad6e92e4ab6b33dd6b81f5bd0", func := "loop.example/serialpair/laws.FnExactRecvTick", spec := "fnExactRecvTick", apart := false, narrowed := true }
def FnExactRecvTickUptoSaid : Prop := fnExactRecvTickUptoRow.holds Try.pinned (OpenSpec.upto fnExactRecvTickSpec)

end Rows
end Go.Proofs.Ytmmdbbnmifpciaa
