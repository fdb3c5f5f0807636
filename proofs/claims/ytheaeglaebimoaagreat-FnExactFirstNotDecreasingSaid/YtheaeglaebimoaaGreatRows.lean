/-
  NARROWER THAN 'FOR EVERY INPUT', by the rows' own cells (each row's printed sentence says how): FnExactFirstNotDecreasing: loops · FnExactOrientEquation: loops.
  DERIVED. THE GIVEN ROWS OF THIS SEAT. 4 by the template 'for every input the law returns true; each argument reads behind the call as it read before'; 0 by the template 'total and deterministic' (their statements: YtheaeglaebimoaaGreatTotals.lean).
  GIVEN WITH THE SEED: the statements are not yours to turn. If you find one false, say at which input.
  Laid BY PROGRAM, IN A SANDBOX (cutbox-rows.mjs): the forced cells as the released guide's own fill.sh prints them over the translation 1a54ccc411b6025a… (all of the seat's roots in one cut). By AI agents, Wed Nov 11 2026. No macro, syntax, notation, axiom, sorry.
-/
import Derived.Test.YtheaeglaebimoaaGreatChecked
import GoSem.Claim
import GoSem.ClaimJoined
import GoSem.ClaimMapViews
import Derived.JoinedTies
import Derived.KernelRfl
namespace Go.Proofs.YtheaeglaebimoaaGreat
/- THE CELL 'sum', in the pinned program and in every row, IS THE sha256 OF THE DUMP (.gsa) THAT YtheaeglaebimoaaGreatProg.lean LOADS. Nothing in Lean hashes anything: it is a label: what it is worth is what the hold of that sum in a sandbox is worth. -/
noncomputable def Tryz.pinned : Pinned := { name := "ytheaeglaebimoaagreat", sum := "1a54ccc411b6025ae02927309dfe50c7d7b850a83c6d91e7b244d26143c573d3", checked := Tryz.checked }
namespace Rows
def none {H : Type} : Left H := { results := [], args := [] }

/-- 'laws.FnExactFirstNotDecreasing': WHATEVER THE INPUT: true; the input reads as it did. -/
def fnExactFirstNotDecreasingSpec : ChangeSpec := { name := "fnExactFirstNotDecreasing", fn := fun _ => fun
  | [d1, d2] => { results := [.lit (.bool true)], args := [d1, d2] }
  | _ => none }
def fnExactFirstNotDecreasingRow : OpenClaim := { program := "ytheaeglaebimoaagreat", sum := "1a54ccc411b6025ae02927309dfe50c7d7b850a83c6d91e7b244d26143c573d3", func := "loop.example/g00892/laws.FnExactFirstNotDecreasing", spec := "fnExactFirstNotDecreasing", unfollowed := true, recurses := true, loops := true, apart := false }
def FnExactFirstNotDecreasingSaid : Prop := fnExactFirstNotDecreasingRow.holds Tryz.pinned (OpenSpec.ofChange fnExactFirstNotDecreasingSpec)

/-- ITS FALSE NEIGHBOUR: 'it returns false'. Refute it at one input. -/
def fnExactFirstNotDecreasingWrong : ChangeSpec := { name := "fnExactFirstNotDecreasing", fn := fun _ => fun
  | [d1, d2] => { results := [.lit (.bool false)], args := [d1, d2] }
  | _ => none }
def FnExactFirstNotDecreasingWrongFalsely : Prop := fnExactFirstNotDecreasingRow.holds Tryz.pinned (OpenSpec.ofChange fnExactFirstNotDecreasingWrong)

/-- 'laws.FnOrderings': WHATEVER THE INPUT: true; the input reads as it did. -/
def fnOrderingsSpec : ChangeSpec := { name := "fnOrderings", fn := fun _ => fun
  | [d] => { results := [.lit (.bool true)], args := [d] }
  | _ => none }
def fnOrderingsRow : OpenClaim := { program := "ytheaeglaebimoaagreat", sum := "1a54ccc411b6025ae02927309dfe50c7d7b850a83c6d91e7b244d26143c573d3", func := "loop.example/g00892/laws.FnOrderings", spec := "fnOrderings", unfollowed := true, recurses := true, apart := false }
def FnOrderingsSaid : Prop := fnOrderingsRow.holds Tryz.pinned (OpenSpec.ofChange fnOrderingsSpec)

/-- ITS FALSE NEIGHBOUR: 'it returns false'. Refute it at one input. -/
def fnOrderingsWrong : ChangeSpec := { name := "fnOrderings", fn := fun _ => fun
  | [d] => { results := [.lit (.bool false)], args := [d] }
  | _ => none }
def FnOrderingsWrongFalsely : Prop := fnOrderingsRow.holds Tryz.pinned (OpenSpec.ofChange fnOrderingsWrong)

/-- 'laws.FnOriented': WHATEVER THE INPUT: true; the input reads as it did. -/
def fnOrientedSpec : ChangeSpec := { name := "fnOriented", fn := fun _ => fun
  | [d] => { results := [.lit (.bool true)], args := [d] }
  | _ => none }
def fnOrientedRow : OpenClaim := { program := "ytheaeglaebimoaagreat", sum := "1a54ccc411b6025ae02927309dfe50c7d7b850a83c6d91e7b244d26143c573d3", func := "loop.example/g00892/laws.FnOriented", spec := "fnOriented", unfollowed := true, recurses := true, apart := false }
def FnOrientedSaid : Prop := fnOrientedRow.holds Tryz.pinned (OpenSpec.ofChange fnOrientedSpec)

/-- ITS FALSE NEIGHBOUR: 'it returns false'. Refute it at one input. -/
def fnOrientedWrong : ChangeSpec := { name := "fnOriented", fn := fun _ => fun
  | [d] => { results := [.lit (.bool false)], args := [d] }
  | _ => none }
def FnOrientedWrongFalsely : Prop := fnOrientedRow.holds Tryz.pinned (OpenSpec.ofChange fnOrientedWrong)

/-- 'laws.FnExactOrientEquation': WHATEVER THE INPUT: true; the input reads as it did. -/
def fnExactOrientEquationSpec : ChangeSpec := { name := "fnExactOrientEquation", fn := fun _ => fun
  | [d1, d2] => { results := [.lit (.bool true)], args := [d1, d2] }
  | _ => none }
def fnExactOrientEquationRow : OpenClaim := { program := "ytheaeglaebimoaagreat", sum := "1a54ccc411b6025ae02927309dfe50c7d7b850a83c6d91e7b244d26143c573d3", func := "loop.example/g00892/laws.FnExactOrientEquation", spec := "fnExactOrientEquation", unfollowed := true, recurses := true, loops := true, apart := false }
def FnExactOrientEquationSaid : Prop := fnExactOrientEquationRow.holds Tryz.pinned (OpenSpec.ofChange fnExactOrientEquationSpec)

/-- ITS FALSE NEIGHBOUR: 'it returns false'. Refute it at one input. -/
def fnExactOrientEquationWrong : ChangeSpec := { name := "fnExactOrientEquation", fn := fun _ => fun
  | [d1, d2] => { results := [.lit (.bool false)], args := [d1, d2] }
  | _ => none }
def FnExactOrientEquationWrongFalsely : Prop := fnExactOrientEquationRow.holds Tryz.pinned (OpenSpec.ofChange fnExactOrientEquationWrong)

/- THE SECOND FORM. 'bulk': how many values and letters a reading holds, each counted each time it is reached (what is shared counts as often as it is met; a slice's spare places count too). A statement '..UptoSaid' is the law's where the arguments, and the package variables that the reading takes, are together of bulk at most 1048576: NARROWER than '..Said'. Prove '..Said' where nothing that the law and all that it calls make is longer than what came in: it says more and counts as full. Else prove '..UptoSaid'. A law counts once. -/
mutual
def uptoBulk {H : Type} : DataW H → Nat
  | .lit (.string bytes) => bytes.length + 1
  | .lit _ => 1
  | .nil => 1
  | .ptr d => uptoBulk d + 1
  | .slice elems spare => uptoBulkAll elems + uptoBulkAll spare + 1
  | .agg parts => uptoBulkAll parts + 1
  | .iface _ d => uptoBulk d + 1
  | .map entries => uptoBulkEntries entries + 1
  | .held _ => 1
def uptoBulkAll {H : Type} : List (DataW H) → Nat
  | [] => 0
  | d :: r => uptoBulk d + uptoBulkAll r
def uptoBulkEntries {H : Type} : List (Lit × DataW H) → Nat
  | [] => 0
  | x :: r => uptoBulkEntry x + uptoBulkEntries r
def uptoBulkEntry {H : Type} : Lit × DataW H → Nat
  | (.string bytes, d) => bytes.length + uptoBulk d + 1
  | (_, d) => uptoBulk d + 1
 end
def uptoSmall : (H : Type) → List (DataW H) → Bool := fun _ ds => decide (uptoBulkAll ds ≤ 1048576)
def OpenSpec.upto (s : _root_.Go.ChangeSpec) : _root_.Go.OpenSpec := { _root_.Go.OpenSpec.ofChange s with cond := some uptoSmall }

/-- 'laws.FnExactFirstNotDecreasing', WHERE WHAT IT READS IS OF BULK AT MOST 1048576: true; the input reads as it did. -/
def fnExactFirstNotDecreasingUptoRow : OpenClaim := { program := "ytheaeglaebimoaagreat", sum := "1a54ccc411b6025ae02927309dfe50c7d7b850a83c6d91e7b244d26143c573d3", func := "loop.example/g00892/laws.FnExactFirstNotDecreasing", spec := "fnExactFirstNotDecreasing", unfollowed := true, recurses := true, loops := true, apart := false, narrowed := true }
def FnExactFirstNotDecreasingUptoSaid : Prop := fnExactFirstNotDecreasingUptoRow.holds Tryz.pinned (OpenSpec.upto fnExactFirstNotDecreasingSpec)

/-- 'laws.FnOrderings', WHERE WHAT IT READS IS OF BULK AT MOST 1048576: true; the input reads as it did. -/
def fnOrderingsUptoRow : OpenClaim := { program := "ytheaeglaebimoaagreat", sum := "1a54ccc411b6025ae02927309dfe50c7d7b850a83c6d91e7b244d26143c573d3", func := "loop.example/g00892/laws.FnOrderings", spec := "fnOrderings", unfollowed := true, recurses := true, apart := false, narrowed := true }
def FnOrderingsUptoSaid : Prop := fnOrderingsUptoRow.holds Tryz.pinned (OpenSpec.upto fnOrderingsSpec)

/-- 'laws.FnOriented', WHERE WHAT IT READS IS OF BULK AT MOST 1048576: true; the input reads as it did. -/
def fnOrientedUptoRow : OpenClaim := { program := "ytheaeglaebimoaagreat", sum := "1a54ccc411b6025ae02927309dfe50c7d7b850a83c6d91e7b244d26143c573d3", func := "loop.example/g00892/laws.FnOriented", spec := "fnOriented", unfollowed := true, recurses := true, apart := false, narrowed := true }
def FnOrientedUptoSaid : Prop := fnOrientedUptoRow.holds Tryz.pinned (OpenSpec.upto fnOrientedSpec)

/-- 'laws.FnExactOrientEquation', WHERE WHAT IT READS IS OF BULK AT MOST 1048576: true; the input reads as it did. -/
def fnExactOrientEquationUptoRow : OpenClaim := { program := "ytheaeglaebimoaagreat", sum := "1a54ccc411b6025ae02927309dfe50c7d7b850a83c6d91e7b244d26143c573d3", func := "loop.example/g00892/laws.FnExactOrientEquation", spec := "fnExactOrientEquation", unfollowed := true, recurses := true, loops := true, apart := false, narrowed := true }
def FnExactOrientEquationUptoSaid : Prop := fnExactOrientEquationUptoRow.holds Tryz.pinned (OpenSpec.upto fnExactOrientEquationSpec)

end Rows
end Go.Proofs.YtheaeglaebimoaaGreat
