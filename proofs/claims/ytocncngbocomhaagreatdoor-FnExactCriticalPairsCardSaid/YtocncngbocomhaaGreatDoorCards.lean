/-
  DERIVED. GIVEN WITH THE SEED: THE CARDS: each row of YtocncngbocomhaaGreatDoorRows.lean that lists a variable, with what it lists TIED to the program's text (the seventh form; the later family's looks); each row that meets fmt, with fmt's text TOLD by the authors' own Lean function (tested against real Go, not proved from fmt's source: count such statements apart). THE CARD IS WHAT COUNTS. Prove the row's statement (the work); the ties are given (YtocncngbocomhaaGreatDoorTie.lean); close each card by the builder's one call (the guide's Derived/Test/ToyasCard.lean, 'card_holds'). Laid BY PROGRAM, IN A SANDBOX (cutbox-door.mjs). By AI agents, Wed Nov 11 2026. No macro, syntax, notation, axiom, sorry.
-/
import Derived.Test.YtocncngbocomhaaGreatDoorRows
import GoSem.ClaimSeven
namespace Go.Proofs.YtocncngbocomhaaGreatDoor
namespace Rows

/-- THE TIED CARD OF 'laws.FnExactCriticalPairs'. -/
def fnExactCriticalPairsCard : Claim7 := { stood := { row := fnExactCriticalPairsRow, standIns := [], harness := (true, "bbec97ca131a9968daec8b4691e868075d23de59e21c89ad4d8e12d8f2726fb5"), looks := false }, kinds := [], alts := [], laidByText := true, laidKinds := [.data, .data, .data], laidTests := true, laidLooks := .later }
def FnExactCriticalPairsCardSaid : Prop := Claim7.holds Tryz.pinned (.plain (OpenSpec.ofChange fnExactCriticalPairsSpec)) fnExactCriticalPairsCard

/-- THE SECOND FORM's CARD OF 'laws.FnExactCriticalPairs'. -/
def fnExactCriticalPairsUptoCard : Claim7 := { stood := { row := fnExactCriticalPairsUptoRow, standIns := [], harness := (true, "bbec97ca131a9968daec8b4691e868075d23de59e21c89ad4d8e12d8f2726fb5"), looks := false }, kinds := [], alts := [], laidByText := true, laidKinds := [.data, .data, .data], laidTests := true, laidLooks := .later }
def FnExactCriticalPairsUptoCardSaid : Prop := Claim7.holds Tryz.pinned (.plain (OpenSpec.upto fnExactCriticalPairsSpec)) fnExactCriticalPairsUptoCard
end Rows
end Go.Proofs.YtocncngbocomhaaGreatDoor
