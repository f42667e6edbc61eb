/-
  No cell of these rows narrows 'for every input' (looked for: loops, veiled, ifaces, maps, wideKeys, modest, calm, conditions, laid).
  DERIVED. THE GIVEN ROWS OF THIS SEAT. 5 by the template 'for every input the law returns true; each argument reads behind the call as it read before'; 0 by the template 'total and deterministic' (their statements: YtjamcfnclnpdkabTotals.lean).
  GIVEN WITH THE SEED: the statements are not yours to turn. If you find one false, say at which input.
  Laid BY PROGRAM, IN A SANDBOX (cutbox-rows.mjs): the forced cells as the released guide's own fill.sh prints them over the translation 704d5b17337118b4… (all of the seat's roots in one cut). By AI agents, Wed Nov 11 2026. No macro, syntax, notation, axiom, sorry.
-/
import Derived.Test.YtjamcfnclnpdkabChecked
import GoSem.Claim
import GoSem.ClaimJoined
import GoSem.ClaimMapViews
import Derived.JoinedTies
import Derived.KernelRfl
namespace Go.Proofs.Ytjamcfnclnpdkab
/- THE CELL 'sum', in the pinned program and in every row, IS THE sha256 OF THE DUMP (.gsa) THAT YtjamcfnclnpdkabProg.lean LOADS. Nothing in Lean hashes anything: it is a label: what it is worth is what the hold of that sum in a sandbox is worth. -/
noncomputable def Try.pinned : Pinned := { name := "ytjamcfnclnpdkab", sum := "704d5b17337118b48d109f64e18cf068433d7250689b72ac66e7c9b2a006e073", checked := Try.checked }
namespace Rows
def none {H : Type} : Left H := { results := [], args := [] }

/-- 'laws.FnTalkSend': WHATEVER THE INPUT: true; the input reads as it did. -/
def fnTalkSendSpec : ChangeSpec := { name := "fnTalkSend", fn := fun _ => fun
  | [d] => { results := [.lit (.bool true)], args := [d] }
  | _ => none }
def fnTalkSendRow : OpenClaim := { program := "ytjamcfnclnpdkab", sum := "704d5b17337118b48d109f64e18cf068433d7250689b72ac66e7c9b2a006e073", func := "loop.example/serialpair/laws.FnTalkSend", spec := "fnTalkSend", unfollowed := true, recurses := true, apart := false }
def FnTalkSendSaid : Prop := fnTalkSendRow.holds Try.pinned (OpenSpec.ofChange fnTalkSendSpec)

/-- ITS FALSE NEIGHBOUR: 'it returns false'. Refute it at one input. -/
def fnTalkSendWrong : ChangeSpec := { name := "fnTalkSend", fn := fun _ => fun
  | [d] => { results := [.lit (.bool false)], args := [d] }
  | _ => none }
def FnTalkSendWrongFalsely : Prop := fnTalkSendRow.holds Try.pinned (OpenSpec.ofChange fnTalkSendWrong)

/-- 'laws.FnExactTalkLate': WHATEVER THE INPUT: true; the input reads as it did. -/
def fnExactTalkLateSpec : ChangeSpec := { name := "fnExactTalkLate", fn := fun _ => fun
  | [d] => { results := [.lit (.bool true)], args := [d] }
  | _ => none }
def fnExactTalkLateRow : OpenClaim := { program := "ytjamcfnclnpdkab", sum := "704d5b17337118b48d109f64e18cf068433d7250689b72ac66e7c9b2a006e073", func := "loop.example/serialpair/laws.FnExactTalkLate", spec := "fnExactTalkLate", unfollowed := true, recurses := true, apart := false }
def FnExactTalkLateSaid : Prop := fnExactTalkLateRow.holds Try.pinned (OpenSpec.ofChange fnExactTalkLateSpec)

/-- ITS FALSE NEIGHBOUR: 'it returns false'. Refute it at one input. -/
def fnExactTalkLateWrong : ChangeSpec := { name := "fnExactTalkLate", fn := fun _ => fun
  | [d] => { results := [.lit (.bool false)], args := [d] }
  | _ => none }
def FnExactTalkLateWrongFalsely : Prop := fnExactTalkLateRow.holds Try.pinned (OpenSpec.ofChange fnExactTalkLateWrong)

/-- 'laws.FnExactTalkSend': WHATEVER THE INPUT: true; the input reads as it did. -/
def fnExactTalkSendSpec : ChangeSpec := { name := "fnExactTalkSend", fn := fun _ => fun
  | [d1, d2] => { results := [.lit (.bool true)], args := [d1, d2] }
  | _ => none }
def fnExactTalkSendRow : OpenClaim := { program := "ytjamcfnclnpdkab", sum := "704d5b17337118b48d109f64e18cf068433d7250689b72ac66e7c9b2a006e073", func := "loop.example/serialpair/laws.FnExactTalkSend", spec := "fnExactTalkSend", unfollowed := true, recurses := true, apart := false }
def FnExactTalkSendSaid : Prop := fnExactTalkSendRow.holds Try.pinned (OpenSpec.ofChange fnExactTalkSendSpec)

/-- ITS FALSE NEIGHBOUR: 'it returns false'. Refute it at one input. -/
def fnExactTalkSendWrong : ChangeSpec := { name := "fnExactTalkSend", fn := fun _ => fun
  | [d1, d2] => { results := [.lit (.bool false)], args := [d1, d2] }
  | _ => none }
def FnExactTalkSendWrongFalsely : Prop := fnExactTalkSendRow.holds Try.pinned (OpenSpec.ofChange fnExactTalkSendWrong)

/-- 'laws.FnTalkRound': WHATEVER THE INPUT: true; the input reads as it did. -/
def fnTalkRoundSpec : ChangeSpec := { name := "fnTalkRound", fn := fun _ => fun
  | [d] => { results := [.lit (.bool true)], args := [d] }
  | _ => none }
def fnTalkRoundRow : OpenClaim := { program := "ytjamcfnclnpdkab", sum := "704d5b17337118b48d109f64e18cf068433d7250689b72ac66e7c9b2a006e073", func := "loop.example/serialpair/laws.FnTalkRound", spec := "fnTalkRound", unfollowed := true, recurses := true, apart := false }
def FnTalkRoundSaid : Prop := fnTalkRoundRow.holds Try.pinned (OpenSpec.ofChange fnTalkRoundSpec)

/-- ITS FALSE NEIGHBOUR: 'it returns false'. Refute it at one input. -/
def fnTalkRoundWrong : ChangeSpec := { name := "fnTalkRound", fn := fun _ => fun
  | [d] => { results := [.lit (.bool false)], args := [d] }
  | _ => none }
def FnTalkRoundWrongFalsely : Prop := fnTalkRoundRow.holds Try.pinned (OpenSpec.ofChange fnTalkRoundWrong)

/-- 'laws.FnTalkSendHear': WHATEVER THE INPUT: true; the input reads as it did. -/
def fnTalkSendHearSpec : ChangeSpec := { name := "fnTalkSendHear", fn := fun _ => fun
  | [d] => { results := [.lit (.bool true)], args := [d] }
  | _ => none }
def fnTalkSendHearRow : OpenClaim := { program := "ytjamcfnclnpdkab", sum := "704d5b17337118b48d109f64e18cf068433d7250689b72ac66e7c9b2a006e073", func := "loop.example/serialpair/laws.FnTalkSendHear", spec := "fnTalkSendHear", unfollowed := true, recurses := true, apart := false }
def FnTalkSendHearSaid : Prop := fnTalkSendHearRow.holds Try.pinned (OpenSpec.ofChange fnTalkSendHearSpec)

/-- ITS FALSE NEIGHBOUR: 'it returns false'. Refute it at one input. -/
def fnTalkSendHearWrong : ChangeSpec := { name := "fnTalkSendHear", fn := fun _ => fun
  | [d] => { results := [.lit (.bool false)], args := [d] }
  | _ => none }
def FnTalkSendHearWrongFalsely : Prop := fnTalkSendHearRow.holds Try.pinned (OpenSpec.ofChange fnTalkSendHearWrong)

/- THE SECOND FORM. 'bulk': how many values and letters a reading holds, each counted each time it is reached (what is shared counts as often as it is met; a slice's spare places count too). A statement '..UptoSaid' is the law's where the arguments, and the package variables that the reading takes, are together of bulk at most 1048576: NARROWER than '..Said'. Prove '..Said' where nothing that the law and all that it calls make is longer than what came in: it says more and counts as full. Else prove '..UptoSaid'. A law counts once. -/
mutual
def uptoBulk {H : Type} : DataW H → Nat
  | .lit (.string bytes) => bytes.length + 1
  | .lit _ => 1
  | .nil => 1
  | .ptr d => uptoBulk d + 1
  | .slice elems spare => uptoBulkAll elems + uptoBulkAll spare + 1
  | .agg parts => uptoBulkAll parts + 1
  | .iface _ d => uptoBulk d + 1
  | .map entries => uptoBulkEntries entries + 1
  | .held _ => 1
def uptoBulkAll {H : Type} : List (DataW H) → Nat
  | [] => 0
  | d :: r => uptoBulk d + uptoBulkAll r
def uptoBulkEntries {H : Type} : List (Lit × DataW H) → Nat
  | [] => 0
  | x :: r => uptoBulkEntry x + uptoBulkEntries r
def uptoBulkEntry {H : Type} : Lit × DataW H → Nat
  | (.string bytes, d) => bytes.length + uptoBulk d + 1
  | (_, d) => uptoBulk d + 1
 end
def uptoSmall : (H : Type) → List (DataW H) → Bool := fun _ ds => decide (uptoBulkAll ds ≤ 1048576)
def OpenSpec.upto (s : _root_.Go.ChangeSpec) : _root_.Go.OpenSpec := { _root_.Go.OpenSpec.ofChange s with cond := some uptoSmall }

/-- 'laws.FnTalkSend', WHERE WHAT IT READS IS OF BULK AT MOST 1048576: true; the input reads as it did. -/
def fnTalkSendUptoRow : OpenClaim := { program := "ytjamcfnclnpdkab", sum := "704d5b17337118b48d109f64e18cf068433d7250689b72ac66e7c9b2a006e073", func := "loop.example/serialpair/laws.FnTalkSend", spec := "fnTalkSend", unfollowed := true, recurses := true, apart := false, narrowed := true }
def FnTalkSendUptoSaid : Prop := fnTalkSendUptoRow.holds Try.pinned (OpenSpec.upto fnTalkSendSpec)

/-- 'laws.FnExactTalkLate', WHERE WHAT IT READS IS OF BULK AT MOST 1048576: true; the input reads as it did. -/
def fnExactTalkLateUptoRow : OpenClaim := { program := "ytjamcfnclnpdkab", sum := "704d5b17337118b48d109f64e18cf068433d7250689b72ac66e7c9b2a006e073", func := "loop.example/serialpair/laws.FnExactTalkLate", spec := "fnExactTalkLate", unfollowed := true, recurses := true, apart := false, narrowed := true }
def FnExactTalkLateUptoSaid : Prop := fnExactTalkLateUptoRow.holds Try.pinned (OpenSpec.upto fnExactTalkLateSpec)

/-- 'laws.FnExactTalkSend', WHERE WHAT IT READS IS OF BULK AT MOST 1048576: true; the input reads as it did. -/
def fnExactTalkSendUptoRow : OpenClaim := { program := "ytjamcfnclnpdkab", sum := "704d5b17337118b48d109f64e18cf068433d7250689b72ac66e7c9b2a006e073", func := "loop.example/serialpair/laws.FnExactTalkSend", spec := "fnExactTalkSend", unfollowed := true, recurses := true, apart := false, narrowed := true }
def FnExactTalkSendUptoSaid : Prop := fnExactTalkSendUptoRow.holds Try.pinned (OpenSpec.upto fnExactTalkSendSpec)

/-- 'laws.FnTalkRound', WHERE WHAT IT READS IS OF BULK AT MOST 1048576: true; the input reads as it did. -/
def fnTalkRoundUptoRow : OpenClaim := { program := "ytjamcfnclnpdkab", sum := "704d5b17337118b48d109f64e18cf068433d7250689b72ac66e7c9b2a006e073", func := "loop.example/serialpair/laws.FnTalkRound", spec := "fnTalkRound", unfollowed := true, recurses := true, apart := false, narrowed := true }
def FnTalkRoundUptoSaid : Prop := fnTalkRoundUptoRow.holds Try.pinned (OpenSpec.upto fnTalkRoundSpec)

/-- 'laws.FnTalkSendHear', WHERE WHAT IT READS IS OF BULK AT MOST 1048576: true; the input reads as it did. -/
def fnTalkSendHearUptoRow : OpenClaim := { program := "ytjamcfnclnpdkab", sum := "704d5b17337118b48d109f64e18cf068433d7250689b72ac66e7c9b2a006e073", func := "loop.example/serialpair/laws.FnTalkSendHear", spec := "fnTalkSendHear", unfollowed := true, recurses := true, apart := false, narrowed := true }
def FnTalkSendHearUptoSaid : Prop := fnTalkSendHearUptoRow.holds Try.pinned (OpenSpec.upto fnTalkSendHearSpec)

end Rows
end Go.Proofs.Ytjamcfnclnpdkab
