/-
  DERIVED. GIVEN WITH THE SEED: THE CARDS: each row of YtjgmjdidbgcljaaGreatDoorRows.lean that lists a variable, with what it lists TIED to the program's text (the seventh form; the later family's looks); each row that meets fmt, with fmt's text TOLD by the authors' own Lean function (tested against real Go, not proved from fmt's source: count such statements apart). THE CARD IS WHAT COUNTS. Prove the row's statement (the work); the ties are given (YtjgmjdidbgcljaaGreatDoorTie.lean); close each card by the builder's one call (the guide's Derived/Test/ToyasCard.lean, 'card_holds'). Laid BY PROGRAM, IN A SANDBOX (cutbox-door.mjs). By AI agents, Wed Nov 11 2026. No macro, syntax, notation, axiom, sorry.
-/
import Derived.Test.YtjgmjdidbgcljaaGreatDoorRows
import GoSem.ClaimSeven
namespace Go.Proofs.YtjgmjdidbgcljaaGreatDoor
namespace Rows

/-- THE TIED CARD OF 'laws.FnSuperposition'. -/
def fnSuperpositionCard : Claim7 := { stood := { row := fnSuperpositionRow, standIns := [], harness := (true, "c6b343a083cc8263fb9662b3873e3fbcf3828bbc5aea125f4bd9eaac0d3ced1a"), looks := false }, kinds := [], alts := [], laidByText := true, laidKinds := [.data, .data, .data], laidTests := true, laidLooks := .later }
def FnSuperpositionCardSaid : Prop := Claim7.holds Tryz.pinned (.plain (OpenSpec.ofChange fnSuperpositionSpec)) fnSuperpositionCard

/-- THE SECOND FORM's CARD OF 'laws.FnSuperposition'. -/
def fnSuperpositionUptoCard : Claim7 := { stood := { row := fnSuperpositionUptoRow, standIns := [], harness := (true, "c6b343a083cc8263fb9662b3873e3fbcf3828bbc5aea125f4bd9eaac0d3ced1a"), looks := false }, kinds := [], alts := [], laidByText := true, laidKinds := [.data, .data, .data], laidTests := true, laidLooks := .later }
def FnSuperpositionUptoCardSaid : Prop := Claim7.holds Tryz.pinned (.plain (OpenSpec.upto fnSuperpositionSpec)) fnSuperpositionUptoCard
end Rows
end Go.Proofs.YtjgmjdidbgcljaaGreatDoor
