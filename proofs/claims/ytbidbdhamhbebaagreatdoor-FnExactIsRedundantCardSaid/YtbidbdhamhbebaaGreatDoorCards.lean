/-
  DERIVED. GIVEN WITH THE SEED: THE CARDS: each row of YtbidbdhamhbebaaGreatDoorRows.lean that lists a variable, with what it lists TIED to the program's text (the seventh form; the later family's looks); each row that meets fmt, with fmt's text TOLD by the authors' own Lean function (tested against real Go, not proved from fmt's source: count such statements apart). THE CARD IS WHAT COUNTS. Prove the row's statement (the work); the ties are given (YtbidbdhamhbebaaGreatDoorTie.lean); close each card by the builder's one call (the guide's Derived/Test/ToyasCard.lean, 'card_holds'). Laid BY PROGRAM, IN A SANDBOX (cutbox-door.mjs). By AI agents, Wed Nov 11 2026. No macro, syntax, notation, axiom, sorry.
-/
import Derived.Test.YtbidbdhamhbebaaGreatDoorRows
import GoSem.ClaimSeven
namespace Go.Proofs.YtbidbdhamhbebaaGreatDoor
namespace Rows

/-- THE TIED CARD OF 'laws.FnExactIsRedundant'. -/
def fnExactIsRedundantCard : Claim7 := { stood := { row := fnExactIsRedundantRow, standIns := [], harness := (true, "a6e4739e4d55fa2c7f81028fd87dd8db6c0b9db8ee1941fe55aba316674ab4b5"), looks := false }, kinds := [], alts := [], laidByText := true, laidKinds := [.data, .data, .data], laidTests := true, laidLooks := .later }
def FnExactIsRedundantCardSaid : Prop := Claim7.holds Tryz.pinned (.plain (OpenSpec.ofChange fnExactIsRedundantSpec)) fnExactIsRedundantCard

/-- THE SECOND FORM's CARD OF 'laws.FnExactIsRedundant'. -/
def fnExactIsRedundantUptoCard : Claim7 := { stood := { row := fnExactIsRedundantUptoRow, standIns := [], harness := (true, "a6e4739e4d55fa2c7f81028fd87dd8db6c0b9db8ee1941fe55aba316674ab4b5"), looks := false }, kinds := [], alts := [], laidByText := true, laidKinds := [.data, .data, .data], laidTests := true, laidLooks := .later }
def FnExactIsRedundantUptoCardSaid : Prop := Claim7.holds Tryz.pinned (.plain (OpenSpec.upto fnExactIsRedundantSpec)) fnExactIsRedundantUptoCard
end Rows
end Go.Proofs.YtbidbdhamhbebaaGreatDoor
