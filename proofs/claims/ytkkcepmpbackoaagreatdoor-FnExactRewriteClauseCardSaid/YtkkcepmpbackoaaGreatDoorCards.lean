/-
  DERIVED. GIVEN WITH THE SEED: THE CARDS: each row of YtkkcepmpbackoaaGreatDoorRows.lean that lists a variable, with what it lists TIED to the program's text (the seventh form; the later family's looks); each row that meets fmt, with fmt's text TOLD by the authors' own Lean function (tested against real Go, not proved from fmt's source: count such statements apart). THE CARD IS WHAT COUNTS. Prove the row's statement (the work); the ties are given (YtkkcepmpbackoaaGreatDoorTie.lean); close each card by the builder's one call (the guide's Derived/Test/ToyasCard.lean, 'card_holds'). Laid BY PROGRAM, IN A SANDBOX (cutbox-door.mjs). By AI agents, Wed Nov 11 2026. No macro, syntax, notation, axiom, sorry.
-/
import Derived.Test.YtkkcepmpbackoaaGreatDoorRows
import GoSem.ClaimSeven
namespace Go.Proofs.YtkkcepmpbackoaaGreatDoor
namespace Rows

/-- THE TIED CARD OF 'laws.FnExactResolveReflexive'. -/
def fnExactResolveReflexiveCard : Claim7 := { stood := { row := fnExactResolveReflexiveRow, standIns := [], harness := (true, "249bea061ab0da574a720d6191242bb3d8895f619ff5a6ae0b53c96bcc8a93c2"), looks := false }, kinds := [], alts := [], laidByText := true, laidKinds := [.data, .data, .data], laidTests := true, laidLooks := .later }
def FnExactResolveReflexiveCardSaid : Prop := Claim7.holds Tryz.pinned (.plain (OpenSpec.ofChange fnExactResolveReflexiveSpec)) fnExactResolveReflexiveCard

/-- THE TIED CARD OF 'laws.FnExactRewriteClause'. -/
def fnExactRewriteClauseCard : Claim7 := { stood := { row := fnExactRewriteClauseRow, standIns := [], harness := (true, "249bea061ab0da574a720d6191242bb3d8895f619ff5a6ae0b53c96bcc8a93c2"), looks := false }, kinds := [], alts := [], laidByText := true, laidKinds := [.data, .data, .data], laidTests := true, laidLooks := .later }
def FnExactRewriteClauseCardSaid : Prop := Claim7.holds Tryz.pinned (.plain (OpenSpec.ofChange fnExactRewriteClauseSpec)) fnExactRewriteClauseCard

/-- THE TIED CARD OF 'laws.FnExactSuperpose'. -/
def fnExactSuperposeCard : Claim7 := { stood := { row := fnExactSuperposeRow, standIns := [], harness := (true, "249bea061ab0da574a720d6191242bb3d8895f619ff5a6ae0b53c96bcc8a93c2"), looks := false }, kinds := [], alts := [], laidByText := true, laidKinds := [.data, .data, .data], laidTests := true, laidLooks := .later }
def FnExactSuperposeCardSaid : Prop := Claim7.holds Tryz.pinned (.plain (OpenSpec.ofChange fnExactSuperposeSpec)) fnExactSuperposeCard

/-- THE SECOND FORM's CARD OF 'laws.FnExactResolveReflexive'. -/
def fnExactResolveReflexiveUptoCard : Claim7 := { stood := { row := fnExactResolveReflexiveUptoRow, standIns := [], harness := (true, "249bea061ab0da574a720d6191242bb3d8895f619ff5a6ae0b53c96bcc8a93c2"), looks := false }, kinds := [], alts := [], laidByText := true, laidKinds := [.data, .data, .data], laidTests := true, laidLooks := .later }
def FnExactResolveReflexiveUptoCardSaid : Prop := Claim7.holds Tryz.pinned (.plain (OpenSpec.upto fnExactResolveReflexiveSpec)) fnExactResolveReflexiveUptoCard

/-- THE SECOND FORM's CARD OF 'laws.FnExactRewriteClause'. -/
def fnExactRewriteClauseUptoCard : Claim7 := { stood := { row := fnExactRewriteClauseUptoRow, standIns := [], harness := (true, "249bea061ab0da574a720d6191242bb3d8895f619ff5a6ae0b53c96bcc8a93c2"), looks := false }, kinds := [], alts := [], laidByText := true, laidKinds := [.data, .data, .data], laidTests := true, laidLooks := .later }
def FnExactRewriteClauseUptoCardSaid : Prop := Claim7.holds Tryz.pinned (.plain (OpenSpec.upto fnExactRewriteClauseSpec)) fnExactRewriteClauseUptoCard

/-- THE SECOND FORM's CARD OF 'laws.FnExactSuperpose'. -/
def fnExactSuperposeUptoCard : Claim7 := { stood := { row := fnExactSuperposeUptoRow, standIns := [], harness := (true, "249bea061ab0da574a720d6191242bb3d8895f619ff5a6ae0b53c96bcc8a93c2"), looks := false }, kinds := [], alts := [], laidByText := true, laidKinds := [.data, .data, .data], laidTests := true, laidLooks := .later }
def FnExactSuperposeUptoCardSaid : Prop := Claim7.holds Tryz.pinned (.plain (OpenSpec.upto fnExactSuperposeSpec)) fnExactSuperposeUptoCard
end Rows
end Go.Proofs.YtkkcepmpbackoaaGreatDoor
