/-
  DERIVED. GIVEN WITH THE SEED: THE CARDS: each row of YthapkjbfjniaiaaGreatDoorRows.lean that lists a variable, with what it lists TIED to the program's text (the seventh form; the later family's looks); each row that meets fmt, with fmt's text TOLD by the authors' own Lean function (tested against real Go, not proved from fmt's source: count such statements apart). THE CARD IS WHAT COUNTS. Prove the row's statement (the work); the ties are given (YthapkjbfjniaiaaGreatDoorTie.lean); close each card by the builder's one call (the guide's Derived/Test/ToyasCard.lean, 'card_holds'). Laid BY PROGRAM, IN A SANDBOX (cutbox-door.mjs). By AI agents, Wed Nov 11 2026. No macro, syntax, notation, axiom, sorry.
-/
import Derived.Test.YthapkjbfjniaiaaGreatDoorRows
import GoSem.ClaimSeven
namespace Go.Proofs.YthapkjbfjniaiaaGreatDoor
namespace Rows

/-- THE TIED CARD OF 'laws.FnCriticalPairs'. -/
def fnCriticalPairsCard : Claim7 := { stood := { row := fnCriticalPairsRow, standIns := [], harness := (true, "fac7c60952fa9dd3d085e785baaa678baf502204dc7aa7695ba5cde1f1f63445"), looks := false }, kinds := [], alts := [], laidByText := true, laidKinds := [.data, .data, .data], laidTests := true, laidLooks := .later }
def FnCriticalPairsCardSaid : Prop := Claim7.holds Tryz.pinned (.plain (OpenSpec.ofChange fnCriticalPairsSpec)) fnCriticalPairsCard

/-- THE SECOND FORM's CARD OF 'laws.FnCriticalPairs'. -/
def fnCriticalPairsUptoCard : Claim7 := { stood := { row := fnCriticalPairsUptoRow, standIns := [], harness := (true, "fac7c60952fa9dd3d085e785baaa678baf502204dc7aa7695ba5cde1f1f63445"), looks := false }, kinds := [], alts := [], laidByText := true, laidKinds := [.data, .data, .data], laidTests := true, laidLooks := .later }
def FnCriticalPairsUptoCardSaid : Prop := Claim7.holds Tryz.pinned (.plain (OpenSpec.upto fnCriticalPairsSpec)) fnCriticalPairsUptoCard
end Rows
end Go.Proofs.YthapkjbfjniaiaaGreatDoor
