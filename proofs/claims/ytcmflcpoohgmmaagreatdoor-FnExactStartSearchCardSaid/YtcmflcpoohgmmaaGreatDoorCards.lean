/-
  DERIVED. GIVEN WITH THE SEED: THE CARDS: each row of YtcmflcpoohgmmaaGreatDoorRows.lean that lists a variable, with what it lists TIED to the program's text (the seventh form; the later family's looks); each row that meets fmt, with fmt's text TOLD by the authors' own Lean function (tested against real Go, not proved from fmt's source: count such statements apart). THE CARD IS WHAT COUNTS. Prove the row's statement (the work); the ties are given (YtcmflcpoohgmmaaGreatDoorTie.lean); close each card by the builder's one call (the guide's Derived/Test/ToyasCard.lean, 'card_holds'). Laid BY PROGRAM, IN A SANDBOX (cutbox-door.mjs). By AI agents, Wed Nov 11 2026. No macro, syntax, notation, axiom, sorry.
-/
import Derived.Test.YtcmflcpoohgmmaaGreatDoorRows
import GoSem.ClaimSeven
namespace Go.Proofs.YtcmflcpoohgmmaaGreatDoor
namespace Rows

/-- THE TIED CARD OF 'laws.FnExactStartSearch'. -/
def fnExactStartSearchCard : Claim7 := { stood := { row := fnExactStartSearchRow, standIns := [], harness := (true, "e6d95ec176221bbba264b42db33707d13fbc4b9efc28ef3939fc568328da5889"), looks := false }, kinds := [], alts := [], laidByText := true, laidKinds := [.data, .data, .data], laidTests := true, laidLooks := .later }
def FnExactStartSearchCardSaid : Prop := Claim7.holds Tryz.pinned (.plain (OpenSpec.ofChange fnExactStartSearchSpec)) fnExactStartSearchCard

/-- THE SECOND FORM's CARD OF 'laws.FnExactStartSearch'. -/
def fnExactStartSearchUptoCard : Claim7 := { stood := { row := fnExactStartSearchUptoRow, standIns := [], harness := (true, "e6d95ec176221bbba264b42db33707d13fbc4b9efc28ef3939fc568328da5889"), looks := false }, kinds := [], alts := [], laidByText := true, laidKinds := [.data, .data, .data], laidTests := true, laidLooks := .later }
def FnExactStartSearchUptoCardSaid : Prop := Claim7.holds Tryz.pinned (.plain (OpenSpec.upto fnExactStartSearchSpec)) fnExactStartSearchUptoCard
end Rows
end Go.Proofs.YtcmflcpoohgmmaaGreatDoor
