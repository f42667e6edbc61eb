/-
  DERIVED. GIVEN WITH THE SEED: THE CARDS: each row of YtkmampichfbppaaDoorRows.lean that lists a variable, with what it lists TIED to the program's text (the seventh form; the later family's looks); each row that meets fmt, with fmt's text TOLD by the authors' own Lean function (tested against real Go, not proved from fmt's source: count such statements apart). THE CARD IS WHAT COUNTS. Prove the row's statement (the work); the ties are given (YtkmampichfbppaaDoorTie.lean); close each card by the builder's one call (the guide's Derived/Test/ToyasCard.lean, 'card_holds'). Laid BY PROGRAM, IN A SANDBOX (cutbox-door.mjs). By AI agents, Wed Nov 11 2026. No macro, syntax, notation, axiom, sorry.
-/
import Derived.Test.YtkmampichfbppaaDoorRows
import GoSem.ClaimSeven
namespace Go.Proofs.YtkmampichfbppaaDoor
namespace Rows

/-- THE TIED CARD OF 'laws.FnWriteOther'. -/
def fnWriteOtherCard : Claim7 := { stood := { row := fnWriteOtherRow, standIns := [], harness := (true, "a99c1b190165a49e5aca63c206a6e0f9d9069e97f3e02075d63f11c59f704da7"), looks := true }, kinds := [], alts := [], laidByText := true, laidKinds := [.sentinel], laidTests := true, laidLooks := .later }
def FnWriteOtherCardSaid : Prop := Claim7.holds Tryd.pinned (.plain (OpenSpec.ofChange fnWriteOtherSpec)) fnWriteOtherCard

/-- THE TIED CARD OF 'laws.FnWriteData'. -/
def fnWriteDataCard : Claim7 := { stood := { row := fnWriteDataRow, standIns := [], harness := (true, "a99c1b190165a49e5aca63c206a6e0f9d9069e97f3e02075d63f11c59f704da7"), looks := true }, kinds := [], alts := [], laidByText := true, laidKinds := [.sentinel], laidTests := true, laidLooks := .later }
def FnWriteDataCardSaid : Prop := Claim7.holds Tryd.pinned (.plain (OpenSpec.ofChange fnWriteDataSpec)) fnWriteDataCard

/-- THE TIED CARD OF 'laws.FnWriteNot'. -/
def fnWriteNotCard : Claim7 := { stood := { row := fnWriteNotRow, standIns := [], harness := (true, "a99c1b190165a49e5aca63c206a6e0f9d9069e97f3e02075d63f11c59f704da7"), looks := true }, kinds := [], alts := [], laidByText := true, laidKinds := [.sentinel], laidTests := true, laidLooks := .later }
def FnWriteNotCardSaid : Prop := Claim7.holds Tryd.pinned (.plain (OpenSpec.ofChange fnWriteNotSpec)) fnWriteNotCard

/-- THE SECOND FORM's CARD OF 'laws.FnWriteOther'. -/
def fnWriteOtherUptoCard : Claim7 := { stood := { row := fnWriteOtherUptoRow, standIns := [], harness := (true, "a99c1b190165a49e5aca63c206a6e0f9d9069e97f3e02075d63f11c59f704da7"), looks := true }, kinds := [], alts := [], laidByText := true, laidKinds := [.sentinel], laidTests := true, laidLooks := .later }
def FnWriteOtherUptoCardSaid : Prop := Claim7.holds Tryd.pinned (.plain (OpenSpec.upto fnWriteOtherSpec)) fnWriteOtherUptoCard

/-- THE SECOND FORM's CARD OF 'laws.FnWriteData'. -/
def fnWriteDataUptoCard : Claim7 := { stood := { row := fnWriteDataUptoRow, standIns := [], harness := (true, "a99c1b190165a49e5aca63c206a6e0f9d9069e97f3e02075d63f11c59f704da7"), looks := true }, kinds := [], alts := [], laidByText := true, laidKinds := [.sentinel], laidTests := true, laidLooks := .later }
def FnWriteDataUptoCardSaid : Prop := Claim7.holds Tryd.pinned (.plain (OpenSpec.upto fnWriteDataSpec)) fnWriteDataUptoCard

/-- THE SECOND FORM's CARD OF 'laws.FnWriteNot'. -/
def fnWriteNotUptoCard : Claim7 := { stood := { row := fnWriteNotUptoRow, standIns := [], harness := (true, "a99c1b190165a49e5aca63c206a6e0f9d9069e97f3e02075d63f11c59f704da7"), looks := true }, kinds := [], alts := [], laidByText := true, laidKinds := [.sentinel], laidTests := true, laidLooks := .later }
def FnWriteNotUptoCardSaid : Prop := Claim7.holds Tryd.pinned (.plain (OpenSpec.upto fnWriteNotSpec)) fnWriteNotUptoCard
end Rows
end Go.Proofs.YtkmampichfbppaaDoor
