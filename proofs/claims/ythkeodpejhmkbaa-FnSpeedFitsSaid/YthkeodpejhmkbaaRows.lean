/-
  No cell of these rows narrows 'for every input' (looked for: loops, veiled, ifaces, maps, wideKeys, modest, calm, conditions, laid).
  DERIVED. THE GIVEN ROWS OF THIS SEAT. 9 by the template 'for every input the law returns true; each argument reads behind the call as it read before'; 0 by the template 'total and deterministic' (their statements: YthkeodpejhmkbaaTotals.lean).
  GIVEN WITH THE SEED: the statements are not yours to turn. If you find one false, say at which input.
  Laid BY PROGRAM, IN A SANDBOX (cutbox-rows.mjs): the forced cells as the released guide's own fill.sh prints them over the translation d502285390eb0934… (all of the seat's roots in one cut). By AI agents, Wed Nov 11 2026. No macro, syntax, notation, axiom, sorry.
-/
import Derived.Test.YthkeodpejhmkbaaChecked
import GoSem.Claim
import GoSem.ClaimJoined
import GoSem.ClaimMapViews
import Derived.JoinedTies
import Derived.KernelRfl
namespace Go.Proofs.Ythkeodpejhmkbaa
/- THE CELL 'sum', in the pinned program and in every row, IS THE sha256 OF THE DUMP (.gsa) THAT YthkeodpejhmkbaaProg.lean LOADS. Nothing in Lean hashes anything: it is a label: what it is worth is what the hold of that sum in a sandbox is worth. -/
noncomputable def Try.pinned : Pinned := { name := "ythkeodpejhmkbaa", sum := "d502285390eb09343c19c5ddadef4f141f31cce09b04453b44bf4524f313bd0a", checked := Try.checked }
namespace Rows
def none {H : Type} : Left H := { results := [], args := [] }

/-- 'laws.FnExactRunsOf': WHATEVER THE INPUT: true; the input reads as it did. -/
def fnExactRunsOfSpec : ChangeSpec := { name := "fnExactRunsOf", fn := fun _ => fun
  | [d] => { results := [.lit (.bool true)], args := [d] }
  | _ => none }
def fnExactRunsOfRow : OpenClaim := { program := "ythkeodpejhmkbaa", sum := "d502285390eb09343c19c5ddadef4f141f31cce09b04453b44bf4524f313bd0a", func := "loop.example/serialpair/laws.FnExactRunsOf", spec := "fnExactRunsOf", apart := false }
def FnExactRunsOfSaid : Prop := fnExactRunsOfRow.holds Try.pinned (OpenSpec.ofChange fnExactRunsOfSpec)

/-- ITS FALSE NEIGHBOUR: 'it returns false'. Refute it at one input. -/
def fnExactRunsOfWrong : ChangeSpec := { name := "fnExactRunsOf", fn := fun _ => fun
  | [d] => { results := [.lit (.bool false)], args := [d] }
  | _ => none }
def FnExactRunsOfWrongFalsely : Prop := fnExactRunsOfRow.holds Try.pinned (OpenSpec.ofChange fnExactRunsOfWrong)

/-- 'laws.FnExactSpeedFits': WHATEVER THE INPUT: true; the input reads as it did. -/
def fnExactSpeedFitsSpec : ChangeSpec := { name := "fnExactSpeedFits", fn := fun _ => fun
  | [d1, d2] => { results := [.lit (.bool true)], args := [d1, d2] }
  | _ => none }
def fnExactSpeedFitsRow : OpenClaim := { program := "ythkeodpejhmkbaa", sum := "d502285390eb09343c19c5ddadef4f141f31cce09b04453b44bf4524f313bd0a", func := "loop.example/serialpair/laws.FnExactSpeedFits", spec := "fnExactSpeedFits", apart := false }
def FnExactSpeedFitsSaid : Prop := fnExactSpeedFitsRow.holds Try.pinned (OpenSpec.ofChange fnExactSpeedFitsSpec)

/-- ITS FALSE NEIGHBOUR: 'it returns false'. Refute it at one input. -/
def fnExactSpeedFitsWrong : ChangeSpec := { name := "fnExactSpeedFits", fn := fun _ => fun
  | [d1, d2] => { results := [.lit (.bool false)], args := [d1, d2] }
  | _ => none }
def FnExactSpeedFitsWrongFalsely : Prop := fnExactSpeedFitsRow.holds Try.pinned (OpenSpec.ofChange fnExactSpeedFitsWrong)

/-- 'laws.FnExactSpeedOf': WHATEVER THE INPUT: true; the input reads as it did. -/
def fnExactSpeedOfSpec : ChangeSpec := { name := "fnExactSpeedOf", fn := fun _ => fun
  | [d] => { results := [.lit (.bool true)], args := [d] }
  | _ => none }
def fnExactSpeedOfRow : OpenClaim := { program := "ythkeodpejhmkbaa", sum := "d502285390eb09343c19c5ddadef4f141f31cce09b04453b44bf4524f313bd0a", func := "loop.example/serialpair/laws.FnExactSpeedOf", spec := "fnExactSpeedOf", apart := false }
def FnExactSpeedOfSaid : Prop := fnExactSpeedOfRow.holds Try.pinned (OpenSpec.ofChange fnExactSpeedOfSpec)

/-- ITS FALSE NEIGHBOUR: 'it returns false'. Refute it at one input. -/
def fnExactSpeedOfWrong : ChangeSpec := { name := "fnExactSpeedOf", fn := fun _ => fun
  | [d] => { results := [.lit (.bool false)], args := [d] }
  | _ => none }
def FnExactSpeedOfWrongFalsely : Prop := fnExactSpeedOfRow.holds Try.pinned (OpenSpec.ofChange fnExactSpeedOfWrong)

/-- 'laws.FnRuns': WHATEVER THE INPUT: true; the input reads as it did. -/
def fnRunsSpec : ChangeSpec := { name := "fnRuns", fn := fun _ => fun
  | [d] => { results := [.lit (.bool true)], args := [d] }
  | _ => none }
def fnRunsRow : OpenClaim := { program := "ythkeodpejhmkbaa", sum := "d502285390eb09343c19c5ddadef4f141f31cce09b04453b44bf4524f313bd0a", func := "loop.example/serialpair/laws.FnRuns", spec := "fnRuns", apart := false }
def FnRunsSaid : Prop := fnRunsRow.holds Try.pinned (OpenSpec.ofChange fnRunsSpec)

/-- ITS FALSE NEIGHBOUR: 'it returns false'. Refute it at one input. -/
def fnRunsWrong : ChangeSpec := { name := "fnRuns", fn := fun _ => fun
  | [d] => { results := [.lit (.bool false)], args := [d] }
  | _ => none }
def FnRunsWrongFalsely : Prop := fnRunsRow.holds Try.pinned (OpenSpec.ofChange fnRunsWrong)

/-- 'laws.FnRunsEdges': WHATEVER THE INPUT: true; the input reads as it did. -/
def fnRunsEdgesSpec : ChangeSpec := { name := "fnRunsEdges", fn := fun _ => fun
  | [d] => { results := [.lit (.bool true)], args := [d] }
  | _ => none }
def fnRunsEdgesRow : OpenClaim := { program := "ythkeodpejhmkbaa", sum := "d502285390eb09343c19c5ddadef4f141f31cce09b04453b44bf4524f313bd0a", func := "loop.example/serialpair/laws.FnRunsEdges", spec := "fnRunsEdges", apart := false }
def FnRunsEdgesSaid : Prop := fnRunsEdgesRow.holds Try.pinned (OpenSpec.ofChange fnRunsEdgesSpec)

/-- ITS FALSE NEIGHBOUR: 'it returns false'. Refute it at one input. -/
def fnRunsEdgesWrong : ChangeSpec := { name := "fnRunsEdges", fn := fun _ => fun
  | [d] => { results := [.lit (.bool false)], args := [d] }
  | _ => none }
def FnRunsEdgesWrongFalsely : Prop := fnRunsEdgesRow.holds Try.pinned (OpenSpec.ofChange fnRunsEdgesWrong)

/-- 'laws.FnRunsTurn': WHATEVER THE INPUT: true; the input reads as it did. -/
def fnRunsTurnSpec : ChangeSpec := { name := "fnRunsTurn", fn := fun _ => fun
  | [d] => { results := [.lit (.bool true)], args := [d] }
  | _ => none }
def fnRunsTurnRow : OpenClaim := { program := "ythkeodpejhmkbaa", sum := "d502285390eb09343c19c5ddadef4f141f31cce09b04453b44bf4524f313bd0a", func := "loop.example/serialpair/laws.FnRunsTurn", spec := "fnRunsTurn", apart := false }
def FnRunsTurnSaid : Prop := fnRunsTurnRow.holds Try.pinned (OpenSpec.ofChange fnRunsTurnSpec)

/-- ITS FALSE NEIGHBOUR: 'it returns false'. Refute it at one input. -/
def fnRunsTurnWrong : ChangeSpec := { name := "fnRunsTurn", fn := fun _ => fun
  | [d] => { results := [.lit (.bool false)], args := [d] }
  | _ => none }
def FnRunsTurnWrongFalsely : Prop := fnRunsTurnRow.holds Try.pinned (OpenSpec.ofChange fnRunsTurnWrong)

/-- 'laws.FnSpeed': WHATEVER THE INPUT: true; the input reads as it did. -/
def fnSpeedSpec : ChangeSpec := { name := "fnSpeed", fn := fun _ => fun
  | [d] => { results := [.lit (.bool true)], args := [d] }
  | _ => none }
def fnSpeedRow : OpenClaim := { program := "ythkeodpejhmkbaa", sum := "d502285390eb09343c19c5ddadef4f141f31cce09b04453b44bf4524f313bd0a", func := "loop.example/serialpair/laws.FnSpeed", spec := "fnSpeed", apart := false }
def FnSpeedSaid : Prop := fnSpeedRow.holds Try.pinned (OpenSpec.ofChange fnSpeedSpec)

/-- ITS FALSE NEIGHBOUR: 'it returns false'. Refute it at one input. -/
def fnSpeedWrong : ChangeSpec := { name := "fnSpeed", fn := fun _ => fun
  | [d] => { results := [.lit (.bool false)], args := [d] }
  | _ => none }
def FnSpeedWrongFalsely : Prop := fnSpeedRow.holds Try.pinned (OpenSpec.ofChange fnSpeedWrong)

/-- 'laws.FnSpeedFits': WHATEVER THE INPUT: true; the input reads as it did. -/
def fnSpeedFitsSpec : ChangeSpec := { name := "fnSpeedFits", fn := fun _ => fun
  | [d] => { results := [.lit (.bool true)], args := [d] }
  | _ => none }
def fnSpeedFitsRow : OpenClaim := { program := "ythkeodpejhmkbaa", sum := "d502285390eb09343c19c5ddadef4f141f31cce09b04453b44bf4524f313bd0a", func := "loop.example/serialpair/laws.FnSpeedFits", spec := "fnSpeedFits", apart := false }
def FnSpeedFitsSaid : Prop := fnSpeedFitsRow.holds Try.pinned (OpenSpec.ofChange fnSpeedFitsSpec)

/-- ITS FALSE NEIGHBOUR: 'it returns false'. Refute it at one input. -/
def fnSpeedFitsWrong : ChangeSpec := { name := "fnSpeedFits", fn := fun _ => fun
  | [d] => { results := [.lit (.bool false)], args := [d] }
  | _ => none }
def FnSpeedFitsWrongFalsely : Prop := fnSpeedFitsRow.holds Try.pinned (OpenSpec.ofChange fnSpeedFitsWrong)

/-- 'laws.FnSpeedFitsOne': WHATEVER THE INPUT: true; the input reads as it did. -/
def fnSpeedFitsOneSpec : ChangeSpec := { name := "fnSpeedFitsOne", fn := fun _ => fun
  | [d] => { results := [.lit (.bool true)], args := [d] }
  | _ => none }
def fnSpeedFitsOneRow : OpenClaim := { program := "ythkeodpejhmkbaa", sum := "d502285390eb09343c19c5ddadef4f141f31cce09b04453b44bf4524f313bd0a", func := "loop.example/serialpair/laws.FnSpeedFitsOne", spec := "fnSpeedFitsOne", apart := false }
def FnSpeedFitsOneSaid : Prop := fnSpeedFitsOneRow.holds Try.pinned (OpenSpec.ofChange fnSpeedFitsOneSpec)

/-- ITS FALSE NEIGHBOUR: 'it returns false'. Refute it at one input. -/
def fnSpeedFitsOneWrong : ChangeSpec := { name := "fnSpeedFitsOne", fn := fun _ => fun
  | [d] => { results := [.lit (.bool false)], args := [d] }
  | _ => none }
def FnSpeedFitsOneWrongFalsely : Prop := fnSpeedFitsOneRow.holds Try.pinned (OpenSpec.ofChange fnSpeedFitsOneWrong)

/- THE SECOND FORM. 'bulk': how many values and letters a reading holds, each counted each time it is reached (what is shared counts as often as it is met; a slice's spare places count too). A statement '..UptoSaid' is the law's where the arguments, and the package variables that the reading takes, are together of bulk at most 1048576: NARROWER than '..Said'. Prove '..Said' where nothing that the law and all that it calls make is longer than what came in: it says more and counts as full. Else prove '..UptoSaid'. A law counts once. -/
mutual
def uptoBulk {H : Type} : DataW H → Nat
  | .lit (.string bytes) => bytes.length + 1
  | .lit _ => 1
  | .nil => 1
  | .ptr d => uptoBulk d + 1
  | .slice elems spare => uptoBulkAll elems + uptoBulkAll spare + 1
  | .agg parts => uptoBulkAll parts + 1
  | .iface _ d => uptoBulk d + 1
  | .map entries => uptoBulkEntries entries + 1
  | .held _ => 1
def uptoBulkAll {H : Type} : List (DataW H) → Nat
  | [] => 0
  | d :: r => uptoBulk d + uptoBulkAll r
def uptoBulkEntries {H : Type} : List (Lit × DataW H) → Nat
  | [] => 0
  | x :: r => uptoBulkEntry x + uptoBulkEntries r
def uptoBulkEntry {H : Type} : Lit × DataW H → Nat
  | (.string bytes, d) => bytes.length + uptoBulk d + 1
  | (_, d) => uptoBulk d + 1
 end
def uptoSmall : (H : Type) → List (DataW H) → Bool := fun _ ds => decide (uptoBulkAll ds ≤ 1048576)
def OpenSpec.upto (s : _root_.Go.ChangeSpec) : _root_.Go.OpenSpec := { _root_.Go.OpenSpec.ofChange s with cond := some uptoSmall }

/-- 'laws.FnExactRunsOf', WHERE WHAT IT READS IS OF BULK AT MOST 1048576: true; the input reads as it did. -/
def fnExactRunsOfUptoRow : OpenClaim := { program := "ythkeodpejhmkbaa", sum := "d502285390eb09343c19c5ddadef4f141f31cce09b04453b44bf4524f313bd0a", func := "loop.example/serialpair/laws.FnExactRunsOf", spec := "fnExactRunsOf", apart := false, narrowed := true }
def FnExactRunsOfUptoSaid : Prop := fnExactRunsOfUptoRow.holds Try.pinned (OpenSpec.upto fnExactRunsOfSpec)

/-- 'laws.FnExactSpeedFits', WHERE WHAT IT READS IS OF BULK AT MOST 1048576: true; the input reads as it did. -/
def fnExactSpeedFitsUptoRow : OpenClaim := { program := "ythkeodpejhmkbaa", sum := "d502285390eb09343c19c5ddadef4f141f31cce09b04453b44bf4524f313bd0a", func := "loop.example/serialpair/laws.FnExactSpeedFits", spec := "fnExactSpeedFits", apart := false, narrowed := true }
def FnExactSpeedFitsUptoSaid : Prop := fnExactSpeedFitsUptoRow.holds Try.pinned (OpenSpec.upto fnExactSpeedFitsSpec)

/-- 'laws.FnExactSpeedOf', WHERE WHAT IT READS IS OF BULK AT MOST 1048576: true; the input reads as it did. -/
def fnExactSpeedOfUptoRow : OpenClaim := { program := "ythkeodpejhmkbaa", sum := "d502285390eb09343c19c5ddadef4f141f31cce09b04453b44bf4524f313bd0a", func := "loop.example/serialpair/laws.FnExactSpeedOf", spec := "fnExactSpeedOf", apart := false, narrowed := true }
def FnExactSpeedOfUptoSaid : Prop := fnExactSpeedOfUptoRow.holds Try.pinned (OpenSpec.upto fnExactSpeedOfSpec)

/-- 'laws.FnRuns', WHERE WHAT IT READS IS OF BULK AT MOST 1048576: true; the input reads as it did. -/
def fnRunsUptoRow : OpenClaim := { program := "ythkeodpejhmkbaa", sum := "d502285390eb09343c19c5ddadef4f141f31cce09b04453b44bf4524f313bd0a", func := "loop.example/serialpair/laws.FnRuns", spec := "fnRuns", apart := false, narrowed := true }
def FnRunsUptoSaid : Prop := fnRunsUptoRow.holds Try.pinned (OpenSpec.upto fnRunsSpec)

/-- 'laws.FnRunsEdges', WHERE WHAT IT READS IS OF BULK AT MOST 1048576: true; the input reads as it did. -/
def fnRunsEdgesUptoRow : OpenClaim := { program := "ythkeodpejhmkbaa", sum := "d502285390eb09343c19c5ddadef4f141f31cce09b04453b44bf4524f313bd0a", func := "loop.example/serialpair/laws.FnRunsEdges", spec := "fnRunsEdges", apart := false, narrowed := true }
def FnRunsEdgesUptoSaid : Prop := fnRunsEdgesUptoRow.holds Try.pinned (OpenSpec.upto fnRunsEdgesSpec)

/-- 'laws.FnRunsTurn', WHERE WHAT IT READS IS OF BULK AT MOST 1048576: true; the input reads as it did. -/
def fnRunsTurnUptoRow : OpenClaim := { program := "ythkeodpejhmkbaa", sum := "d502285390eb09343c19c5ddadef4f141f31cce09b04453b44bf4524f313bd0a", func := "loop.example/serialpair/laws.FnRunsTurn", spec := "fnRunsTurn", apart := false, narrowed := true }
def FnRunsTurnUptoSaid : Prop := fnRunsTurnUptoRow.holds Try.pinned (OpenSpec.upto fnRunsTurnSpec)

/-- 'laws.FnSpeed', WHERE WHAT IT READS IS OF BULK AT MOST 1048576: true; the input reads as it did. -/
def fnSpeedUptoRow : OpenClaim := { program := "ythkeodpejhmkbaa", sum := "d502285390eb09343c19c5ddadef4f141f31cce09b04453b44bf4524f313bd0a", func := "loop.example/serialpair/laws.FnSpeed", spec := "fnSpeed", apart := false, narrowed := true }
def FnSpeedUptoSaid : Prop := fnSpeedUptoRow.holds Try.pinned (OpenSpec.upto fnSpeedSpec)

/-- 'laws.FnSpeedFits', WHERE WHAT IT READS IS OF BULK AT MOST 1048576: true; the input reads as it did. -/
def fnSpeedFitsUptoRow : OpenClaim := { program := "ythkeodpejhmkbaa", sum := "d502285390eb09343c19c5ddadef4f141f31cce09b04453b44bf4524f313bd0a", func := "loop.example/serialpair/laws.FnSpeedFits", spec := "fnSpeedFits", apart := false, narrowed := true }
def FnSpeedFitsUptoSaid : Prop := fnSpeedFitsUptoRow.holds Try.pinned (OpenSpec.upto fnSpeedFitsSpec)

/-- 'laws.FnSpeedFitsOne', WHERE WHAT IT READS IS OF BULK AT MOST 1048576: true; the input reads as it did. -/
def fnSpeedFitsOneUptoRow : OpenClaim := { program := "ythkeodpejhmkbaa", sum := "d502285390eb09343c19c5ddadef4f141f31cce09b04453b44bf4524f313bd0a", func := "loop.example/serialpair/laws.FnSpeedFitsOne", spec := "fnSpeedFitsOne", apart := false, narrowed := true }
def FnSpeedFitsOneUptoSaid : Prop := fnSpeedFitsOneUptoRow.holds Try.pinned (OpenSpec.upto fnSpeedFitsOneSpec)

end Rows
end Go.Proofs.Ythkeodpejhmkbaa
