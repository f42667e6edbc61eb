/-
  DERIVED. GIVEN WITH THE SEED: THE CARDS: each row of YtnapcacgdidgdaaDoorRows.lean that lists a variable, with what it lists TIED to the program's text (the seventh form; the later family's looks); each row that meets fmt, with fmt's text TOLD by the authors' own Lean function (tested against real Go, not proved from fmt's source: count such statements apart). THE CARD IS WHAT COUNTS. Prove the row's statement (the work); the ties are given (YtnapcacgdidgdaaDoorTie.lean); close each card by the builder's one call (the guide's Derived/Test/ToyasCard.lean, 'card_holds'). Laid BY PROGRAM, IN A SANDBOX (cutbox-door.mjs). By AI agents, Wed Nov 11 2026. No macro, syntax, notation, axiom, sorry.
-/
import Derived.Test.YtnapcacgdidgdaaDoorRows
import GoSem.ClaimSeven
namespace Go.Proofs.YtnapcacgdidgdaaDoor
namespace Rows

/-- THE TIED CARD OF 'laws.FnRecordsText'. -/
def fnRecordsTextCard : Claim7 := { stood := { row := fnRecordsTextRow, standIns := [], harness := (true, "e485033ee79d6da8a938c3263f1e07e4051bc5923f5ad77c9f6c45ce22ea5d54"), looks := false }, kinds := [], alts := [], laidByText := true, laidKinds := [.data, .data, .data], laidTests := true, laidLooks := .later }
def FnRecordsTextCardSaid : Prop := Claim7.holds Tryd.pinned (.plain (OpenSpec.ofChange fnRecordsTextSpec)) fnRecordsTextCard

/-- THE TIED CARD OF 'laws.FnRecordsTextWay'. -/
def fnRecordsTextWayCard : Claim7 := { stood := { row := fnRecordsTextWayRow, standIns := [], harness := (true, "e485033ee79d6da8a938c3263f1e07e4051bc5923f5ad77c9f6c45ce22ea5d54"), looks := false }, kinds := [], alts := [], laidByText := true, laidKinds := [.data, .data, .data], laidTests := true, laidLooks := .later }
def FnRecordsTextWayCardSaid : Prop := Claim7.holds Tryd.pinned (.plain (OpenSpec.ofChange fnRecordsTextWaySpec)) fnRecordsTextWayCard

/-- THE TIED CARD OF 'laws.FnExactRecordsText'. -/
def fnExactRecordsTextCard : Claim7 := { stood := { row := fnExactRecordsTextRow, standIns := [], harness := (true, "e485033ee79d6da8a938c3263f1e07e4051bc5923f5ad77c9f6c45ce22ea5d54"), looks := false }, kinds := [], alts := [], laidByText := true, laidKinds := [.data, .data, .data], laidTests := true, laidLooks := .later }
def FnExactRecordsTextCardSaid : Prop := Claim7.holds Tryd.pinned (.plain (OpenSpec.ofChange fnExactRecordsTextSpec)) fnExactRecordsTextCard

/-- THE SECOND FORM's CARD OF 'laws.FnRecordsText'. -/
def fnRecordsTextUptoCard : Claim7 := { stood := { row := fnRecordsTextUptoRow, standIns := [], harness := (true, "e485033ee79d6da8a938c3263f1e07e4051bc5923f5ad77c9f6c45ce22ea5d54"), looks := false }, kinds := [], alts := [], laidByText := true, laidKinds := [.data, .data, .data], laidTests := true, laidLooks := .later }
def FnRecordsTextUptoCardSaid : Prop := Claim7.holds Tryd.pinned (.plain (OpenSpec.upto fnRecordsTextSpec)) fnRecordsTextUptoCard

/-- THE SECOND FORM's CARD OF 'laws.FnRecordsTextWay'. -/
def fnRecordsTextWayUptoCard : Claim7 := { stood := { row := fnRecordsTextWayUptoRow, standIns := [], harness := (true, "e485033ee79d6da8a938c3263f1e07e4051bc5923f5ad77c9f6c45ce22ea5d54"), looks := false }, kinds := [], alts := [], laidByText := true, laidKinds := [.data, .data, .data], laidTests := true, laidLooks := .later }
def FnRecordsTextWayUptoCardSaid : Prop := Claim7.holds Tryd.pinned (.plain (OpenSpec.upto fnRecordsTextWaySpec)) fnRecordsTextWayUptoCard

/-- THE SECOND FORM's CARD OF 'laws.FnExactRecordsText'. -/
def fnExactRecordsTextUptoCard : Claim7 := { stood := { row := fnExactRecordsTextUptoRow, standIns := [], harness := (true, "e485033ee79d6da8a938c3263f1e07e4051bc5923f5ad77c9f6c45ce22ea5d54"), looks := false }, kinds := [], alts := [], laidByText := true, laidKinds := [.data, .data, .data], laidTests := true, laidLooks := .later }
def FnExactRecordsTextUptoCardSaid : Prop := Claim7.holds Tryd.pinned (.plain (OpenSpec.upto fnExactRecordsTextSpec)) fnExactRecordsTextUptoCard
end Rows
end Go.Proofs.YtnapcacgdidgdaaDoor
