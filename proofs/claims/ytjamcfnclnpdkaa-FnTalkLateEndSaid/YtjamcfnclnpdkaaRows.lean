/-
  No cell of these rows narrows 'for every input' (looked for: loops, veiled, ifaces, maps, wideKeys, modest, calm, conditions, laid).
  DERIVED. THE GIVEN ROWS OF THIS SEAT. 12 by the template 'for every input the law returns true; each argument reads behind the call as it read before'; 0 by the template 'total and deterministic' (their statements: YtjamcfnclnpdkaaTotals.lean).
  GIVEN WITH THE SEED: the statements are not yours to turn. If you find one false, say at which input.
  Laid BY PROGRAM, IN A SANDBOX (cutbox-rows.mjs): the forced cells as the released guide's own fill.sh prints them over the translation d122738a46d4cdaf… (all of the seat's roots in one cut). By AI agents, Wed Nov 11 2026. No macro, syntax, notation, axiom, sorry.
-/
import Derived.Test.YtjamcfnclnpdkaaChecked
import GoSem.Claim
import GoSem.ClaimJoined
import GoSem.ClaimMapViews
import Derived.JoinedTies
import Derived.KernelRfl
namespace Go.Proofs.Ytjamcfnclnpdkaa
/- THE CELL 'sum', in the pinned program and in every row, IS THE sha256 OF THE DUMP (.gsa) THAT YtjamcfnclnpdkaaProg.lean LOADS. Nothing in Lean hashes anything: it is a label: what it is worth is what the hold of that sum in a sandbox is worth. -/
noncomputable def Try.pinned : Pinned := { name := "ytjamcfnclnpdkaa", sum := "d122738a46d4cdafcfa25e02b6eec221da0b759704a4da9203b42115519f0b96", checked := Try.checked }
namespace Rows
def none {H : Type} : Left H := { results := [], args := [] }

/-- 'laws.FnTalkPart': WHATEVER THE INPUT: true; the input reads as it did. -/
def fnTalkPartSpec : ChangeSpec := { name := "fnTalkPart", fn := fun _ => fun
  | [d] => { results := [.lit (.bool true)], args := [d] }
  | _ => none }
def fnTalkPartRow : OpenClaim := { program := "ytjamcfnclnpdkaa", sum := "d122738a46d4cdafcfa25e02b6eec221da0b759704a4da9203b42115519f0b96", func := "loop.example/serialpair/laws.FnTalkPart", spec := "fnTalkPart", apart := false }
def FnTalkPartSaid : Prop := fnTalkPartRow.holds Try.pinned (OpenSpec.ofChange fnTalkPartSpec)

/-- ITS FALSE NEIGHBOUR: 'it returns false'. Refute it at one input. -/
def fnTalkPartWrong : ChangeSpec := { name := "fnTalkPart", fn := fun _ => fun
  | [d] => { results := [.lit (.bool false)], args := [d] }
  | _ => none }
def FnTalkPartWrongFalsely : Prop := fnTalkPartRow.holds Try.pinned (OpenSpec.ofChange fnTalkPartWrong)

/-- 'laws.FnExactTalkValid': WHATEVER THE INPUT: true; the input reads as it did. -/
def fnExactTalkValidSpec : ChangeSpec := { name := "fnExactTalkValid", fn := fun _ => fun
  | [d] => { results := [.lit (.bool true)], args := [d] }
  | _ => none }
def fnExactTalkValidRow : OpenClaim := { program := "ytjamcfnclnpdkaa", sum := "d122738a46d4cdafcfa25e02b6eec221da0b759704a4da9203b42115519f0b96", func := "loop.example/serialpair/laws.FnExactTalkValid", spec := "fnExactTalkValid", apart := false }
def FnExactTalkValidSaid : Prop := fnExactTalkValidRow.holds Try.pinned (OpenSpec.ofChange fnExactTalkValidSpec)

/-- ITS FALSE NEIGHBOUR: 'it returns false'. Refute it at one input. -/
def fnExactTalkValidWrong : ChangeSpec := { name := "fnExactTalkValid", fn := fun _ => fun
  | [d] => { results := [.lit (.bool false)], args := [d] }
  | _ => none }
def FnExactTalkValidWrongFalsely : Prop := fnExactTalkValidRow.holds Try.pinned (OpenSpec.ofChange fnExactTalkValidWrong)

/-- 'laws.FnExactTalkHear': WHATEVER THE INPUT: true; the input reads as it did. -/
def fnExactTalkHearSpec : ChangeSpec := { name := "fnExactTalkHear", fn := fun _ => fun
  | [d1, d2] => { results := [.lit (.bool true)], args := [d1, d2] }
  | _ => none }
def fnExactTalkHearRow : OpenClaim := { program := "ytjamcfnclnpdkaa", sum := "d122738a46d4cdafcfa25e02b6eec221da0b759704a4da9203b42115519f0b96", func := "loop.example/serialpair/laws.FnExactTalkHear", spec := "fnExactTalkHear", unfollowed := true, recurses := true, apart := false }
def FnExactTalkHearSaid : Prop := fnExactTalkHearRow.holds Try.pinned (OpenSpec.ofChange fnExactTalkHearSpec)

/-- ITS FALSE NEIGHBOUR: 'it returns false'. Refute it at one input. -/
def fnExactTalkHearWrong : ChangeSpec := { name := "fnExactTalkHear", fn := fun _ => fun
  | [d1, d2] => { results := [.lit (.bool false)], args := [d1, d2] }
  | _ => none }
def FnExactTalkHearWrongFalsely : Prop := fnExactTalkHearRow.holds Try.pinned (OpenSpec.ofChange fnExactTalkHearWrong)

/-- 'laws.FnTalkAnswer': WHATEVER THE INPUT: true; the input reads as it did. -/
def fnTalkAnswerSpec : ChangeSpec := { name := "fnTalkAnswer", fn := fun _ => fun
  | [d] => { results := [.lit (.bool true)], args := [d] }
  | _ => none }
def fnTalkAnswerRow : OpenClaim := { program := "ytjamcfnclnpdkaa", sum := "d122738a46d4cdafcfa25e02b6eec221da0b759704a4da9203b42115519f0b96", func := "loop.example/serialpair/laws.FnTalkAnswer", spec := "fnTalkAnswer", apart := false }
def FnTalkAnswerSaid : Prop := fnTalkAnswerRow.holds Try.pinned (OpenSpec.ofChange fnTalkAnswerSpec)

/-- ITS FALSE NEIGHBOUR: 'it returns false'. Refute it at one input. -/
def fnTalkAnswerWrong : ChangeSpec := { name := "fnTalkAnswer", fn := fun _ => fun
  | [d] => { results := [.lit (.bool false)], args := [d] }
  | _ => none }
def FnTalkAnswerWrongFalsely : Prop := fnTalkAnswerRow.holds Try.pinned (OpenSpec.ofChange fnTalkAnswerWrong)

/-- 'laws.FnTalkAnswerOld': WHATEVER THE INPUT: true; the input reads as it did. -/
def fnTalkAnswerOldSpec : ChangeSpec := { name := "fnTalkAnswerOld", fn := fun _ => fun
  | [d] => { results := [.lit (.bool true)], args := [d] }
  | _ => none }
def fnTalkAnswerOldRow : OpenClaim := { program := "ytjamcfnclnpdkaa", sum := "d122738a46d4cdafcfa25e02b6eec221da0b759704a4da9203b42115519f0b96", func := "loop.example/serialpair/laws.FnTalkAnswerOld", spec := "fnTalkAnswerOld", apart := false }
def FnTalkAnswerOldSaid : Prop := fnTalkAnswerOldRow.holds Try.pinned (OpenSpec.ofChange fnTalkAnswerOldSpec)

/-- ITS FALSE NEIGHBOUR: 'it returns false'. Refute it at one input. -/
def fnTalkAnswerOldWrong : ChangeSpec := { name := "fnTalkAnswerOld", fn := fun _ => fun
  | [d] => { results := [.lit (.bool false)], args := [d] }
  | _ => none }
def FnTalkAnswerOldWrongFalsely : Prop := fnTalkAnswerOldRow.holds Try.pinned (OpenSpec.ofChange fnTalkAnswerOldWrong)

/-- 'laws.FnExactTalkAnswer': WHATEVER THE INPUT: true; the input reads as it did. -/
def fnExactTalkAnswerSpec : ChangeSpec := { name := "fnExactTalkAnswer", fn := fun _ => fun
  | [d1, d2] => { results := [.lit (.bool true)], args := [d1, d2] }
  | _ => none }
def fnExactTalkAnswerRow : OpenClaim := { program := "ytjamcfnclnpdkaa", sum := "d122738a46d4cdafcfa25e02b6eec221da0b759704a4da9203b42115519f0b96", func := "loop.example/serialpair/laws.FnExactTalkAnswer", spec := "fnExactTalkAnswer", apart := false }
def FnExactTalkAnswerSaid : Prop := fnExactTalkAnswerRow.holds Try.pinned (OpenSpec.ofChange fnExactTalkAnswerSpec)

/-- ITS FALSE NEIGHBOUR: 'it returns false'. Refute it at one input. -/
def fnExactTalkAnswerWrong : ChangeSpec := { name := "fnExactTalkAnswer", fn := fun _ => fun
  | [d1, d2] => { results := [.lit (.bool false)], args := [d1, d2] }
  | _ => none }
def FnExactTalkAnswerWrongFalsely : Prop := fnExactTalkAnswerRow.holds Try.pinned (OpenSpec.ofChange fnExactTalkAnswerWrong)

/-- 'laws.FnHear': WHATEVER THE INPUT: true; the input reads as it did. -/
def fnHearSpec : ChangeSpec := { name := "fnHear", fn := fun _ => fun
  | [d] => { results := [.lit (.bool true)], args := [d] }
  | _ => none }
def fnHearRow : OpenClaim := { program := "ytjamcfnclnpdkaa", sum := "d122738a46d4cdafcfa25e02b6eec221da0b759704a4da9203b42115519f0b96", func := "loop.example/serialpair/laws.FnHear", spec := "fnHear", unfollowed := true, recurses := true, apart := false }
def FnHearSaid : Prop := fnHearRow.holds Try.pinned (OpenSpec.ofChange fnHearSpec)

/-- ITS FALSE NEIGHBOUR: 'it returns false'. Refute it at one input. -/
def fnHearWrong : ChangeSpec := { name := "fnHear", fn := fun _ => fun
  | [d] => { results := [.lit (.bool false)], args := [d] }
  | _ => none }
def FnHearWrongFalsely : Prop := fnHearRow.holds Try.pinned (OpenSpec.ofChange fnHearWrong)

/-- 'laws.FnHearAnswer': WHATEVER THE INPUT: true; the input reads as it did. -/
def fnHearAnswerSpec : ChangeSpec := { name := "fnHearAnswer", fn := fun _ => fun
  | [d] => { results := [.lit (.bool true)], args := [d] }
  | _ => none }
def fnHearAnswerRow : OpenClaim := { program := "ytjamcfnclnpdkaa", sum := "d122738a46d4cdafcfa25e02b6eec221da0b759704a4da9203b42115519f0b96", func := "loop.example/serialpair/laws.FnHearAnswer", spec := "fnHearAnswer", unfollowed := true, recurses := true, apart := false }
def FnHearAnswerSaid : Prop := fnHearAnswerRow.holds Try.pinned (OpenSpec.ofChange fnHearAnswerSpec)

/-- ITS FALSE NEIGHBOUR: 'it returns false'. Refute it at one input. -/
def fnHearAnswerWrong : ChangeSpec := { name := "fnHearAnswer", fn := fun _ => fun
  | [d] => { results := [.lit (.bool false)], args := [d] }
  | _ => none }
def FnHearAnswerWrongFalsely : Prop := fnHearAnswerRow.holds Try.pinned (OpenSpec.ofChange fnHearAnswerWrong)

/-- 'laws.FnHearDamage': WHATEVER THE INPUT: true; the input reads as it did. -/
def fnHearDamageSpec : ChangeSpec := { name := "fnHearDamage", fn := fun _ => fun
  | [d1, d2] => { results := [.lit (.bool true)], args := [d1, d2] }
  | _ => none }
def fnHearDamageRow : OpenClaim := { program := "ytjamcfnclnpdkaa", sum := "d122738a46d4cdafcfa25e02b6eec221da0b759704a4da9203b42115519f0b96", func := "loop.example/serialpair/laws.FnHearDamage", spec := "fnHearDamage", unfollowed := true, recurses := true, apart := false }
def FnHearDamageSaid : Prop := fnHearDamageRow.holds Try.pinned (OpenSpec.ofChange fnHearDamageSpec)

/-- ITS FALSE NEIGHBOUR: 'it returns false'. Refute it at one input. -/
def fnHearDamageWrong : ChangeSpec := { name := "fnHearDamage", fn := fun _ => fun
  | [d1, d2] => { results := [.lit (.bool false)], args := [d1, d2] }
  | _ => none }
def FnHearDamageWrongFalsely : Prop := fnHearDamageRow.holds Try.pinned (OpenSpec.ofChange fnHearDamageWrong)

/-- 'laws.FnTalkLateEnd': WHATEVER THE INPUT: true; the input reads as it did. -/
def fnTalkLateEndSpec : ChangeSpec := { name := "fnTalkLateEnd", fn := fun _ => fun
  | [d] => { results := [.lit (.bool true)], args := [d] }
  | _ => none }
def fnTalkLateEndRow : OpenClaim := { program := "ytjamcfnclnpdkaa", sum := "d122738a46d4cdafcfa25e02b6eec221da0b759704a4da9203b42115519f0b96", func := "loop.example/serialpair/laws.FnTalkLateEnd", spec := "fnTalkLateEnd", unfollowed := true, recurses := true, apart := false }
def FnTalkLateEndSaid : Prop := fnTalkLateEndRow.holds Try.pinned (OpenSpec.ofChange fnTalkLateEndSpec)

/-- ITS FALSE NEIGHBOUR: 'it returns false'. Refute it at one input. -/
def fnTalkLateEndWrong : ChangeSpec := { name := "fnTalkLateEnd", fn := fun _ => fun
  | [d] => { results := [.lit (.bool false)], args := [d] }
  | _ => none }
def FnTalkLateEndWrongFalsely : Prop := fnTalkLateEndRow.holds Try.pinned (OpenSpec.ofChange fnTalkLateEndWrong)

/-- 'laws.FnTalkLate': WHATEVER THE INPUT: true; the input reads as it did. -/
def fnTalkLateSpec : ChangeSpec := { name := "fnTalkLate", fn := fun _ => fun
  | [d] => { results := [.lit (.bool true)], args := [d] }
  | _ => none }
def fnTalkLateRow : OpenClaim := { program := "ytjamcfnclnpdkaa", sum := "d122738a46d4cdafcfa25e02b6eec221da0b759704a4da9203b42115519f0b96", func := "loop.example/serialpair/laws.FnTalkLate", spec := "fnTalkLate", unfollowed := true, recurses := true, apart := false }
def FnTalkLateSaid : Prop := fnTalkLateRow.holds Try.pinned (OpenSpec.ofChange fnTalkLateSpec)

/-- ITS FALSE NEIGHBOUR: 'it returns false'. Refute it at one input. -/
def fnTalkLateWrong : ChangeSpec := { name := "fnTalkLate", fn := fun _ => fun
  | [d] => { results := [.lit (.bool false)], args := [d] }
  | _ => none }
def FnTalkLateWrongFalsely : Prop := fnTalkLateRow.holds Try.pinned (OpenSpec.ofChange fnTalkLateWrong)

/-- 'laws.FnTalkSendTwice': WHATEVER THE INPUT: true; the input reads as it did. -/
def fnTalkSendTwiceSpec : ChangeSpec := { name := "fnTalkSendTwice", fn := fun _ => fun
  | [d] => { results := [.lit (.bool true)], args := [d] }
  | _ => none }
def fnTalkSendTwiceRow : OpenClaim := { program := "ytjamcfnclnpdkaa", sum := "d122738a46d4cdafcfa25e02b6eec221da0b759704a4da9203b42115519f0b96", func := "loop.example/serialpair/laws.FnTalkSendTwice", spec := "fnTalkSendTwice", unfollowed := true, recurses := true, apart := false }
def FnTalkSendTwiceSaid : Prop := fnTalkSendTwiceRow.holds Try.pinned (OpenSpec.ofChange fnTalkSendTwiceSpec)

/-- ITS FALSE NEIGHBOUR: 'it returns false'. Refute it at one input. -/
def fnTalkSendTwiceWrong : ChangeSpec := { name := "fnTalkSendTwice", fn := fun _ => fun
  | [d] => { results := [.lit (.bool false)], args := [d] }
  | _ => none }
def FnTalkSendTwiceWrongFalsely : Prop := fnTalkSendTwiceRow.holds Try.pinned (OpenSpec.ofChange fnTalkSendTwiceWrong)

/- THE SECOND FORM. 'bulk': how many values and letters a reading holds, each counted each time it is reached (what is shared counts as often as it is met; a slice's spare places count too). A statement '..UptoSaid' is the law's where the arguments, and the package variables that the reading takes, are together of bulk at most 1048576: NARROWER than '..Said'. Prove '..Said' where nothing that the law and all that it calls make is longer than what came in: it says more and counts as full. Else prove '..UptoSaid'. A law counts once. -/
mutual
def uptoBulk {H : Type} : DataW H → Nat
  | .lit (.string bytes) => bytes.length + 1
  | .lit _ => 1
  | .nil => 1
  | .ptr d => uptoBulk d + 1
  | .slice elems spare => uptoBulkAll elems + uptoBulkAll spare + 1
  | .agg parts => uptoBulkAll parts + 1
  | .iface _ d => uptoBulk d + 1
  | .map entries => uptoBulkEntries entries + 1
  | .held _ => 1
def uptoBulkAll {H : Type} : List (DataW H) → Nat
  | [] => 0
  | d :: r => uptoBulk d + uptoBulkAll r
def uptoBulkEntries {H : Type} : List (Lit × DataW H) → Nat
  | [] => 0
  | x :: r => uptoBulkEntry x + uptoBulkEntries r
def uptoBulkEntry {H : Type} : Lit × DataW H → Nat
  | (.string bytes, d) => bytes.length + uptoBulk d + 1
  | (_, d) => uptoBulk d + 1
 end
def uptoSmall : (H : Type) → List (DataW H) → Bool := fun _ ds => decide (uptoBulkAll ds ≤ 1048576)
def OpenSpec.upto (s : _root_.Go.ChangeSpec) : _root_.Go.OpenSpec := { _root_.Go.OpenSpec.ofChange s with cond := some uptoSmall }

/-- 'laws.FnTalkPart', WHERE WHAT IT READS IS OF BULK AT MOST 1048576: true; the input reads as it did. -/
def fnTalkPartUptoRow : OpenClaim := { program := "ytjamcfnclnpdkaa", sum := "d122738a46d4cdafcfa25e02b6eec221da0b759704a4da9203b42115519f0b96", func := "loop.example/serialpair/laws.FnTalkPart", spec := "fnTalkPart", apart := false, narrowed := true }
def FnTalkPartUptoSaid : Prop := fnTalkPartUptoRow.holds Try.pinned (OpenSpec.upto fnTalkPartSpec)

/-- 'laws.FnExactTalkValid', WHERE WHAT IT READS IS OF BULK AT MOST 1048576: true; the input reads as it did. -/
def fnExactTalkValidUptoRow : OpenClaim := { program := "ytjamcfnclnpdkaa", sum := "d122738a46d4cdafcfa25e02b6eec221da0b759704a4da9203b42115519f0b96", func := "loop.example/serialpair/laws.FnExactTalkValid", spec := "fnExactTalkValid", apart := false, narrowed := true }
def FnExactTalkValidUptoSaid : Prop := fnExactTalkValidUptoRow.holds Try.pinned (OpenSpec.upto fnExactTalkValidSpec)

/-- 'laws.FnExactTalkHear', WHERE WHAT IT READS IS OF BULK AT MOST 1048576: true; the input reads as it did. -/
def fnExactTalkHearUptoRow : OpenClaim := { program := "ytjamcfnclnpdkaa", sum := "d122738a46d4cdafcfa25e02b6eec221da0b759704a4da9203b42115519f0b96", func := "loop.example/serialpair/laws.FnExactTalkHear", spec := "fnExactTalkHear", unfollowed := true, recurses := true, apart := false, narrowed := true }
def FnExactTalkHearUptoSaid : Prop := fnExactTalkHearUptoRow.holds Try.pinned (OpenSpec.upto fnExactTalkHearSpec)

/-- 'laws.FnTalkAnswer', WHERE WHAT IT READS IS OF BULK AT MOST 1048576: true; the input reads as it did. -/
def fnTalkAnswerUptoRow : OpenClaim := { program := "ytjamcfnclnpdkaa", sum := "d122738a46d4cdafcfa25e02b6eec221da0b759704a4da9203b42115519f0b96", func := "loop.example/serialpair/laws.FnTalkAnswer", spec := "fnTalkAnswer", apart := false, narrowed := true }
def FnTalkAnswerUptoSaid : Prop := fnTalkAnswerUptoRow.holds Try.pinned (OpenSpec.upto fnTalkAnswerSpec)

/-- 'laws.FnTalkAnswerOld', WHERE WHAT IT READS IS OF BULK AT MOST 1048576: true; the input reads as it did. -/
def fnTalkAnswerOldUptoRow : OpenClaim := { program := "ytjamcfnclnpdkaa", sum := "d122738a46d4cdafcfa25e02b6eec221da0b759704a4da9203b42115519f0b96", func := "loop.example/serialpair/laws.FnTalkAnswerOld", spec := "fnTalkAnswerOld", apart := false, narrowed := true }
def FnTalkAnswerOldUptoSaid : Prop := fnTalkAnswerOldUptoRow.holds Try.pinned (OpenSpec.upto fnTalkAnswerOldSpec)

/-- 'laws.FnExactTalkAnswer', WHERE WHAT IT READS IS OF BULK AT MOST 1048576: true; the input reads as it did. -/
def fnExactTalkAnswerUptoRow : OpenClaim := { program := "ytjamcfnclnpdkaa", sum := "d122738a46d4cdafcfa25e02b6eec221da0b759704a4da9203b42115519f0b96", func := "loop.example/serialpair/laws.FnExactTalkAnswer", spec := "fnExactTalkAnswer", apart := false, narrowed := true }
def FnExactTalkAnswerUptoSaid : Prop := fnExactTalkAnswerUptoRow.holds Try.pinned (OpenSpec.upto fnExactTalkAnswerSpec)

/-- 'laws.FnHear', WHERE WHAT IT READS IS OF BULK AT MOST 1048576: true; the input reads as it did. -/
def fnHearUptoRow : OpenClaim := { program := "ytjamcfnclnpdkaa", sum := "d122738a46d4cdafcfa25e02b6eec221da0b759704a4da9203b42115519f0b96", func := "loop.example/serialpair/laws.FnHear", spec := "fnHear", unfollowed := true, recurses := true, apart := false, narrowed := true }
def FnHearUptoSaid : Prop := fnHearUptoRow.holds Try.pinned (OpenSpec.upto fnHearSpec)

/-- 'laws.FnHearAnswer', WHERE WHAT IT READS IS OF BULK AT MOST 1048576: true; the input reads as it did. -/
def fnHearAnswerUptoRow : OpenClaim := { program := "ytjamcfnclnpdkaa", sum := "d122738a46d4cdafcfa25e02b6eec221da0b759704a4da9203b42115519f0b96", func := "loop.example/serialpair/laws.FnHearAnswer", spec := "fnHearAnswer", unfollowed := true, recurses := true, apart := false, narrowed := true }
def FnHearAnswerUptoSaid : Prop := fnHearAnswerUptoRow.holds Try.pinned (OpenSpec.upto fnHearAnswerSpec)

/-- 'laws.FnHearDamage', WHERE WHAT IT READS IS OF BULK AT MOST 1048576: true; the input reads as it did. -/
def fnHearDamageUptoRow : OpenClaim := { program := "ytjamcfnclnpdkaa", sum := "d122738a46d4cdafcfa25e02b6eec221da0b759704a4da9203b42115519f0b96", func := "loop.example/serialpair/laws.FnHearDamage", spec := "fnHearDamage", unfollowed := true, recurses := true, apart := false, narrowed := true }
def FnHearDamageUptoSaid : Prop := fnHearDamageUptoRow.holds Try.pinned (OpenSpec.upto fnHearDamageSpec)

/-- 'laws.FnTalkLateEnd', WHERE WHAT IT READS IS OF BULK AT MOST 1048576: true; the input reads as it did. -/
def fnTalkLateEndUptoRow : OpenClaim := { program := "ytjamcfnclnpdkaa", sum := "d122738a46d4cdafcfa25e02b6eec221da0b759704a4da9203b42115519f0b96", func := "loop.example/serialpair/laws.FnTalkLateEnd", spec := "fnTalkLateEnd", unfollowed := true, recurses := true, apart := false, narrowed := true }
def FnTalkLateEndUptoSaid : Prop := fnTalkLateEndUptoRow.holds Try.pinned (OpenSpec.upto fnTalkLateEndSpec)

/-- 'laws.FnTalkLate', WHERE WHAT IT READS IS OF BULK AT MOST 1048576: true; the input reads as it did. -/
def fnTalkLateUptoRow : OpenClaim := { program := "ytjamcfnclnpdkaa", sum := "d122738a46d4cdafcfa25e02b6eec221da0b759704a4da9203b42115519f0b96", func := "loop.example/serialpair/laws.FnTalkLate", spec := "fnTalkLate", unfollowed := true, recurses := true, apart := false, narrowed := true }
def FnTalkLateUptoSaid : Prop := fnTalkLateUptoRow.holds Try.pinned (OpenSpec.upto fnTalkLateSpec)

/-- 'laws.FnTalkSendTwice', WHERE WHAT IT READS IS OF BULK AT MOST 1048576: true; the input reads as it did. -/
def fnTalkSendTwiceUptoRow : OpenClaim := { program := "ytjamcfnclnpdkaa", sum := "d122738a46d4cdafcfa25e02b6eec221da0b759704a4da9203b42115519f0b96", func := "loop.example/serialpair/laws.FnTalkSendTwice", spec := "fnTalkSendTwice", unfollowed := true, recurses := true, apart := false, narrowed := true }
def FnTalkSendTwiceUptoSaid : Prop := fnTalkSendTwiceUptoRow.holds Try.pinned (OpenSpec.upto fnTalkSendTwiceSpec)

end Rows
end Go.Proofs.Ytjamcfnclnpdkaa
