/-
  DERIVED. GIVEN WITH THE SEED: THE CARDS: each row of YteoaojbmnibpcaaGreatDoorRows.lean that lists a variable, with what it lists TIED to the program's text (the seventh form; the later family's looks); each row that meets fmt, with fmt's text TOLD by the authors' own Lean function (tested against real Go, not proved from fmt's source: count such statements apart). THE CARD IS WHAT COUNTS. Prove the row's statement (the work); the ties are given (YteoaojbmnibpcaaGreatDoorTie.lean); close each card by the builder's one call (the guide's Derived/Test/ToyasCard.lean, 'card_holds'). Laid BY PROGRAM, IN A SANDBOX (cutbox-door.mjs). By AI agents, Wed Nov 11 2026. No macro, syntax, notation, axiom, sorry.
-/
import Derived.Test.YteoaojbmnibpcaaGreatDoorRows
import GoSem.ClaimSeven
namespace Go.Proofs.YteoaojbmnibpcaaGreatDoor
namespace Rows

/-- THE TIED CARD OF 'laws.FnClauseText'. -/
def fnClauseTextCard : Claim7 := { stood := { row := fnClauseTextRow, standIns := [], harness := (true, "51feaae12d59623d5eec27fe27d7207a50b471db07b0fc2f63609d7213aa6edd"), looks := true }, kinds := [], alts := [], laidByText := true, laidKinds := [.data, .pinned], laidTests := true, laidLooks := .later }
def FnClauseTextCardSaid : Prop := Claim7.holds Tryz.pinned (.plain (OpenSpec.ofChange fnClauseTextSpec)) fnClauseTextCard

/-- THE TIED CARD OF 'laws.FnExactParseStep'. -/
def fnExactParseStepCard : Claim7 := { stood := { row := fnExactParseStepRow, standIns := [], harness := (true, "51feaae12d59623d5eec27fe27d7207a50b471db07b0fc2f63609d7213aa6edd"), looks := true }, kinds := [], alts := [], laidByText := true, laidKinds := [.data, .data, .data, .data, .sentinel, .sentinel, .pinned], laidTests := true, laidLooks := .later }
def FnExactParseStepCardSaid : Prop := Claim7.holds Tryz.pinned (.plain (OpenSpec.ofChange fnExactParseStepSpec)) fnExactParseStepCard

/-- THE SECOND FORM's CARD OF 'laws.FnClauseText'. -/
def fnClauseTextUptoCard : Claim7 := { stood := { row := fnClauseTextUptoRow, standIns := [], harness := (true, "51feaae12d59623d5eec27fe27d7207a50b471db07b0fc2f63609d7213aa6edd"), looks := true }, kinds := [], alts := [], laidByText := true, laidKinds := [.data, .pinned], laidTests := true, laidLooks := .later }
def FnClauseTextUptoCardSaid : Prop := Claim7.holds Tryz.pinned (.plain (OpenSpec.upto fnClauseTextSpec)) fnClauseTextUptoCard

/-- THE SECOND FORM's CARD OF 'laws.FnExactParseStep'. -/
def fnExactParseStepUptoCard : Claim7 := { stood := { row := fnExactParseStepUptoRow, standIns := [], harness := (true, "51feaae12d59623d5eec27fe27d7207a50b471db07b0fc2f63609d7213aa6edd"), looks := true }, kinds := [], alts := [], laidByText := true, laidKinds := [.data, .data, .data, .data, .sentinel, .sentinel, .pinned], laidTests := true, laidLooks := .later }
def FnExactParseStepUptoCardSaid : Prop := Claim7.holds Tryz.pinned (.plain (OpenSpec.upto fnExactParseStepSpec)) fnExactParseStepUptoCard
end Rows
end Go.Proofs.YteoaojbmnibpcaaGreatDoor
