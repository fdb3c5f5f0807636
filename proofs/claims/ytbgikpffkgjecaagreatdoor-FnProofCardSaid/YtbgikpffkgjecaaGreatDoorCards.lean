/-
  DERIVED. GIVEN WITH THE SEED: THE CARDS: each row of YtbgikpffkgjecaaGreatDoorRows.lean that lists a variable, with what it lists TIED to the program's text (the seventh form; the later family's looks); each row that meets fmt, with fmt's text TOLD by the authors' own Lean function (tested against real Go, not proved from fmt's source: count such statements apart). THE CARD IS WHAT COUNTS. Prove the row's statement (the work); the ties are given (YtbgikpffkgjecaaGreatDoorTie.lean); close each card by the builder's one call (the guide's Derived/Test/ToyasCard.lean, 'card_holds'). Laid BY PROGRAM, IN A SANDBOX (cutbox-door.mjs). By AI agents, Wed Nov 11 2026. No macro, syntax, notation, axiom, sorry.
-/
import Derived.Test.YtbgikpffkgjecaaGreatDoorRows
import GoSem.ClaimSeven
namespace Go.Proofs.YtbgikpffkgjecaaGreatDoor
namespace Rows

/-- THE TIED CARD OF 'laws.FnProof'. -/
def fnProofCard : Claim7 := { stood := { row := fnProofRow, standIns := [], harness := (true, "1cfb28450b87ddc864181852b317dc1367e5b253b6e92cab59dacb2eedc5560c"), looks := false }, kinds := [], alts := [], laidByText := true, laidKinds := [.data, .data, .data], laidTests := true, laidLooks := .later }
def FnProofCardSaid : Prop := Claim7.holds Tryz.pinned (.plain (OpenSpec.ofChange fnProofSpec)) fnProofCard

/-- THE SECOND FORM's CARD OF 'laws.FnProof'. -/
def fnProofUptoCard : Claim7 := { stood := { row := fnProofUptoRow, standIns := [], harness := (true, "1cfb28450b87ddc864181852b317dc1367e5b253b6e92cab59dacb2eedc5560c"), looks := false }, kinds := [], alts := [], laidByText := true, laidKinds := [.data, .data, .data], laidTests := true, laidLooks := .later }
def FnProofUptoCardSaid : Prop := Claim7.holds Tryz.pinned (.plain (OpenSpec.upto fnProofSpec)) fnProofUptoCard
end Rows
end Go.Proofs.YtbgikpffkgjecaaGreatDoor
