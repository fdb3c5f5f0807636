/- WHAT THE FRAMES OF THE LAWS SHARE. -/
import Derived.Test.YtnbjmmldjggkfaaGreatGx
import Derived.Test.YtnbjmmldjggkfaaGreatRows
import Derived.ProofKit
import Derived.SizedLaws
import Derived.Lib.RowBridge
namespace Go.Proofs.YtnbjmmldjggkfaaGreat
open Go Go.ChangeShapes Go.WideShapes Go.ChangeAt Go.RowKit Go.Proofs.YtnbjmmldjggkfaaGreat.Abs

theorem Tryz.ownK : ownKnob Tryz.prog.godebug = none := by kernel_rfl
theorem Tryz.laid : laidOutB Tryz.prog = true := by kernel_rfl
/-- Nothing is asked of the surroundings. -/
def Xf : Ctx := ⟨fun _ => True, fun _ => False, fun _ _ _ h => h⟩
theorem G_out {X : Ctx} {f : FuncId} {args : List A} {a : A} (hs : K.pureF f = true) (h : G f args = some (a, [])) : PureOk X Tryz.prog f args (a, []) := G_ok hs h
theorem rel_cellsA {w : World} {O : Nat → Prop} {l : List A} {cs : Array Value} (h : relL w O l (Value.agg cs).cells.toList) : rel w O (.agg l) (.agg cs) := by
  simp only [rel]
  exact ⟨cs.toList, by simp, by simpa [Value.cells] using h⟩
end Go.Proofs.YtnbjmmldjggkfaaGreat
