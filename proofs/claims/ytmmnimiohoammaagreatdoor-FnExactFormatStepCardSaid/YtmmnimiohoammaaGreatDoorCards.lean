/-
  DERIVED. GIVEN WITH THE SEED: THE CARDS: each row of YtmmnimiohoammaaGreatDoorRows.lean that lists a variable, with what it lists TIED to the program's text (the seventh form; the later family's looks); each row that meets fmt, with fmt's text TOLD by the authors' own Lean function (tested against real Go, not proved from fmt's source: count such statements apart). THE CARD IS WHAT COUNTS. Prove the row's statement (the work); the ties are given (YtmmnimiohoammaaGreatDoorTie.lean); close each card by the builder's one call (the guide's Derived/Test/ToyasCard.lean, 'card_holds'). Laid BY PROGRAM, IN A SANDBOX (cutbox-door.mjs). By AI agents, Wed Nov 11 2026. No macro, syntax, notation, axiom, sorry.
-/
import Derived.Test.YtmmnimiohoammaaGreatDoorRows
import GoSem.ClaimSeven
namespace Go.Proofs.YtmmnimiohoammaaGreatDoor
namespace Rows

/-- THE TIED CARD OF 'laws.FnExactFormatStep'. -/
def fnExactFormatStepCard : Claim7 := { stood := { row := fnExactFormatStepRow, standIns := [], harness := (true, "76d87b0ebaba926075522b0af05601c523290315fdcc3538b35b298de8af9d2e"), looks := false }, kinds := [], alts := [], laidByText := true, laidKinds := [.data, .data, .data], laidTests := true, laidLooks := .later }
def FnExactFormatStepCardSaid : Prop := Claim7.holds Tryz.pinned (.plain (OpenSpec.ofChange fnExactFormatStepSpec)) fnExactFormatStepCard

/-- THE SECOND FORM's CARD OF 'laws.FnExactFormatStep'. -/
def fnExactFormatStepUptoCard : Claim7 := { stood := { row := fnExactFormatStepUptoRow, standIns := [], harness := (true, "76d87b0ebaba926075522b0af05601c523290315fdcc3538b35b298de8af9d2e"), looks := false }, kinds := [], alts := [], laidByText := true, laidKinds := [.data, .data, .data], laidTests := true, laidLooks := .later }
def FnExactFormatStepUptoCardSaid : Prop := Claim7.holds Tryz.pinned (.plain (OpenSpec.upto fnExactFormatStepSpec)) fnExactFormatStepUptoCard
end Rows
end Go.Proofs.YtmmnimiohoammaaGreatDoor
