/-
  NARROWER THAN 'FOR EVERY INPUT', by the rows' own cells (each row's printed sentence says how): FnWriteOther: ifaces, laid · FnWriteData: ifaces, laid · FnWriteNot: ifaces, laid.
  DERIVED. THE GIVEN ROWS OF THIS SEAT. 3 by the template 'for every input the law returns true; each argument reads behind the call as it read before'; 0 by the template 'total and deterministic' (their statements: YtkmampichfbppaaDoorTotals.lean).
  GIVEN WITH THE SEED: the statements are not yours to turn. If you find one false, say at which input.
  Laid BY PROGRAM, IN A SANDBOX (cutbox-rows.mjs): the forced cells as the released guide's own fill.sh prints them over the translation 2148652e67927008… (all of the seat's roots in one cut). By AI agents, Wed Nov 11 2026. No macro, syntax, notation, axiom, sorry.
-/
import Derived.Test.YtkmampichfbppaaDoorChecked
import GoSem.Claim
import GoSem.ClaimJoined
import GoSem.ClaimMapViews
import Derived.JoinedTies
import Derived.KernelRfl
namespace Go.Proofs.YtkmampichfbppaaDoor
/- THE CELL 'sum', in the pinned program and in every row, IS THE sha256 OF THE DUMP (.gsa) THAT YtkmampichfbppaaDoorProg.lean LOADS. Nothing in Lean hashes anything: it is a label: what it is worth is what the hold of that sum in a sandbox is worth. -/
noncomputable def Tryd.pinned : Pinned := { name := "ytkmampichfbppaadoor", sum := "2148652e67927008a20fe0884bab7a9ae6bd1ee29713d51509388f6a1fd049b4", checked := Tryd.checked }
namespace Rows
def none {H : Type} : Left H := { results := [], args := [] }

/- WHAT THE LISTED PACKAGE-LEVEL VARIABLES READ AS WHEN THE CALL BEGINS. Each datum BY PROGRAM (the guide's laid-datum.mjs) off the statement by which the dump's own 'gosem.cut.vars' lays the variable. In a bare row this is a premise. The card (YtkmampichfbppaaDoorCards.lean) ties it to the program's text. -/
def laid_loop_example_serialpair_impl_errNoFormat {H : Type} : DataW H := .iface "*errors.errorString" (.ptr (.agg [.lit (.string [110, 111, 32, 102, 111, 114, 109, 97, 116])]))

/-- 'laws.FnWriteOther': WHATEVER THE INPUT: true; the input reads as it did. -/
def fnWriteOtherSpec : ChangeSpec := { name := "fnWriteOther", vars := ["loop.example/serialpair/impl.errNoFormat"], fn := fun _ => fun
  | [d, g1] => { results := [.lit (.bool true)], args := [d], vars := [g1] }
  | _ => none }
def fnWriteOtherRow : OpenClaim := { program := "ytkmampichfbppaadoor", sum := "2148652e67927008a20fe0884bab7a9ae6bd1ee29713d51509388f6a1fd049b4", func := "loop.example/serialpair/laws.FnWriteOther", spec := "fnWriteOther", inPlace := ["internal/reflectlite.TypeOf"], unfollowed := true, recurses := true, named := ["loop.example/serialpair/impl.errNoFormat"], ifaces := true, apart := false, laid := [("loop.example/serialpair/impl.errNoFormat", laid_loop_example_serialpair_impl_errNoFormat)] }
def FnWriteOtherSaid : Prop := fnWriteOtherRow.holds Tryd.pinned (OpenSpec.ofChange fnWriteOtherSpec)

/-- ITS FALSE NEIGHBOUR: 'it returns false'. Refute it at one input. -/
def fnWriteOtherWrong : ChangeSpec := { name := "fnWriteOther", vars := ["loop.example/serialpair/impl.errNoFormat"], fn := fun _ => fun
  | [d, g1] => { results := [.lit (.bool false)], args := [d], vars := [g1] }
  | _ => none }
def FnWriteOtherWrongFalsely : Prop := fnWriteOtherRow.holds Tryd.pinned (OpenSpec.ofChange fnWriteOtherWrong)

/-- 'laws.FnWriteData': WHATEVER THE INPUT: true; the input reads as it did. -/
def fnWriteDataSpec : ChangeSpec := { name := "fnWriteData", vars := ["loop.example/serialpair/impl.errNoFormat"], fn := fun _ => fun
  | [d, g1] => { results := [.lit (.bool true)], args := [d], vars := [g1] }
  | _ => none }
def fnWriteDataRow : OpenClaim := { program := "ytkmampichfbppaadoor", sum := "2148652e67927008a20fe0884bab7a9ae6bd1ee29713d51509388f6a1fd049b4", func := "loop.example/serialpair/laws.FnWriteData", spec := "fnWriteData", inPlace := ["internal/reflectlite.TypeOf"], unfollowed := true, recurses := true, named := ["loop.example/serialpair/impl.errNoFormat"], ifaces := true, apart := false, laid := [("loop.example/serialpair/impl.errNoFormat", laid_loop_example_serialpair_impl_errNoFormat)] }
def FnWriteDataSaid : Prop := fnWriteDataRow.holds Tryd.pinned (OpenSpec.ofChange fnWriteDataSpec)

/-- ITS FALSE NEIGHBOUR: 'it returns false'. Refute it at one input. -/
def fnWriteDataWrong : ChangeSpec := { name := "fnWriteData", vars := ["loop.example/serialpair/impl.errNoFormat"], fn := fun _ => fun
  | [d, g1] => { results := [.lit (.bool false)], args := [d], vars := [g1] }
  | _ => none }
def FnWriteDataWrongFalsely : Prop := fnWriteDataRow.holds Tryd.pinned (OpenSpec.ofChange fnWriteDataWrong)

/-- 'laws.FnWriteNot': WHATEVER THE INPUT: true; the input reads as it did. -/
def fnWriteNotSpec : ChangeSpec := { name := "fnWriteNot", vars := ["loop.example/serialpair/impl.errNoFormat"], fn := fun _ => fun
  | [d, g1] => { results := [.lit (.bool true)], args := [d], vars := [g1] }
  | _ => none }
def fnWriteNotRow : OpenClaim := { program := "ytkmampichfbppaadoor", sum := "2148652e67927008a20fe0884bab7a9ae6bd1ee29713d51509388f6a1fd049b4", func := "loop.example/serialpair/laws.FnWriteNot", spec := "fnWriteNot", inPlace := ["internal/reflectlite.TypeOf"], unfollowed := true, recurses := true, named := ["loop.example/serialpair/impl.errNoFormat"], ifaces := true, apart := false, laid := [("loop.example/serialpair/impl.errNoFormat", laid_loop_example_serialpair_impl_errNoFormat)] }
def FnWriteNotSaid : Prop := fnWriteNotRow.holds Tryd.pinned (OpenSpec.ofChange fnWriteNotSpec)

/-- ITS FALSE NEIGHBOUR: 'it returns false'. Refute it at one input. -/
def fnWriteNotWrong : ChangeSpec := { name := "fnWriteNot", vars := ["loop.example/serialpair/impl.errNoFormat"], fn := fun _ => fun
  | [d, g1] => { results := [.lit (.bool false)], args := [d], vars := [g1] }
  | _ => none }
def FnWriteNotWrongFalsely : Prop := fnWriteNotRow.holds Tryd.pinned (OpenSpec.ofChange fnWriteNotWrong)

/- THE SECOND FORM. 'bulk': how many values and letters a reading holds, each counted each time it is reached (what is shared counts as often as it is met; a slice's spare places count too). A statement '..UptoSaid' is the law's where the arguments, and the package variables that the reading takes, are together of bulk at most 1048576: NARROWER than '..Said'. Prove '..Said' where nothing that the law and all that it calls make is longer than what came in: it says more and counts as full. Else prove '..UptoSaid'. A law counts once. -/
mutual
def uptoBulk {H : Type} : DataW H → Nat
  | .lit (.string bytes) => bytes.length + 1
  | .lit _ => 1
  | .nil => 1
  | .ptr d => uptoBulk d + 1
  | .slice elems spare => uptoBulkAll elems + uptoBulkAll spare + 1
  | .agg parts => uptoBulkAll parts + 1
  | .iface _ d => uptoBulk d + 1
  | .map entries => uptoBulkEntries entries + 1
  | .held _ => 1
def uptoBulkAll {H : Type} : List (DataW H) → Nat
  | [] => 0
  | d :: r => uptoBulk d + uptoBulkAll r
def uptoBulkEntries {H : Type} : List (Lit × DataW H) → Nat
  | [] => 0
  | x :: r => uptoBulkEntry x + uptoBulkEntries r
def uptoBulkEntry {H : Type} : Lit × DataW H → Nat
  | (.string bytes, d) => bytes.length + uptoBulk d + 1
  | (_, d) => uptoBulk d + 1
 end
def uptoSmall : (H : Type) → List (DataW H) → Bool := fun _ ds => decide (uptoBulkAll ds ≤ 1048576)
def OpenSpec.upto (s : _root_.Go.ChangeSpec) : _root_.Go.OpenSpec := { _root_.Go.OpenSpec.ofChange s with cond := some uptoSmall }

/-- 'laws.FnWriteOther', WHERE WHAT IT READS IS OF BULK AT MOST 1048576: true; the input reads as it did. -/
def fnWriteOtherUptoRow : OpenClaim := { program := "ytkmampichfbppaadoor", sum := "2148652e67927008a20fe0884bab7a9ae6bd1ee29713d51509388f6a1fd049b4", func := "loop.example/serialpair/laws.FnWriteOther", spec := "fnWriteOther", inPlace := ["internal/reflectlite.TypeOf"], unfollowed := true, recurses := true, named := ["loop.example/serialpair/impl.errNoFormat"], ifaces := true, apart := false, laid := [("loop.example/serialpair/impl.errNoFormat", laid_loop_example_serialpair_impl_errNoFormat)], narrowed := true }
def FnWriteOtherUptoSaid : Prop := fnWriteOtherUptoRow.holds Tryd.pinned (OpenSpec.upto fnWriteOtherSpec)

/-- 'laws.FnWriteData', WHERE WHAT IT READS IS OF BULK AT MOST 1048576: true; the input reads as it did. -/
def fnWriteDataUptoRow : OpenClaim := { program := "ytkmampichfbppaadoor", sum := "2148652e67927008a20fe0884bab7a9ae6bd1ee29713d51509388f6a1fd049b4", func := "loop.example/serialpair/laws.FnWriteData", spec := "fnWriteData", inPlace := ["internal/reflectlite.TypeOf"], unfollowed := true, recurses := true, named := ["loop.example/serialpair/impl.errNoFormat"], ifaces := true, apart := false, laid := [("loop.example/serialpair/impl.errNoFormat", laid_loop_example_serialpair_impl_errNoFormat)], narrowed := true }
def FnWriteDataUptoSaid : Prop := fnWriteDataUptoRow.holds Tryd.pinned (OpenSpec.upto fnWriteDataSpec)

/-- 'laws.FnWriteNot', WHERE WHAT IT READS IS OF BULK AT MOST 1048576: true; the input reads as it did. -/
def fnWriteNotUptoRow : OpenClaim := { program := "ytkmampichfbppaadoor", sum := "2148652e67927008a20fe0884bab7a9ae6bd1ee29713d51509388f6a1fd049b4", func := "loop.example/serialpair/laws.FnWriteNot", spec := "fnWriteNot", inPlace := ["internal/reflectlite.TypeOf"], unfollowed := true, recurses := true, named := ["loop.example/serialpair/impl.errNoFormat"], ifaces := true, apart := false, laid := [("loop.example/serialpair/impl.errNoFormat", laid_loop_example_serialpair_impl_errNoFormat)], narrowed := true }
def FnWriteNotUptoSaid : Prop := fnWriteNotUptoRow.holds Tryd.pinned (OpenSpec.upto fnWriteNotSpec)

end Rows
end Go.Proofs.YtkmampichfbppaaDoor
