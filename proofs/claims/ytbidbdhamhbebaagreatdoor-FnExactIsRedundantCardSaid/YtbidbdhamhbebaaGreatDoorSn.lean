/- Sn -/
import Derived.Test.YtbidbdhamhbebaaGreatDoorKt
namespace Go.Proofs.YtbidbdhamhbebaaGreatDoor
open Go Go.RowKit Go.Proofs.YtbidbdhamhbebaaGreatDoor.Abs
set_option linter.unusedSimpArgs false
set_option linter.unusedVariables false
def fnB (fn:Func):Bool:= !(fn.name == "runtime.NumGoroutine") && (match fn.body with|some c=>Qs c|none=>true)
theorem z6 {l:List Func} {k m:Nat} (h1:((l.drop k).take 25).all fnB=true) (h2:(l.drop m).all fnB=true) (e:m=k+25):(l.drop k).all fnB=true:=by
 rw [<-Ql 25 (l.drop k),List.all_append,h1,jdX,<-e,h2];rfl
theorem jH9:((Tryz.prog.funcs.toList.drop 0).take 25).all fnB=true:=by kernel_rfl
theorem jIa:((Tryz.prog.funcs.toList.drop 25).take 25).all fnB=true:=by kernel_rfl
theorem jIb:((Tryz.prog.funcs.toList.drop 50).take 25).all fnB=true:=by kernel_rfl
theorem jIc:((Tryz.prog.funcs.toList.drop 75).take 25).all fnB=true:=by kernel_rfl
theorem jId:((Tryz.prog.funcs.toList.drop 100).take 25).all fnB=true:=by kernel_rfl
theorem jIe:((Tryz.prog.funcs.toList.drop 125).take 25).all fnB=true:=by kernel_rfl
theorem jIf:((Tryz.prog.funcs.toList.drop 150).take 25).all fnB=true:=by kernel_rfl
theorem jIg:((Tryz.prog.funcs.toList.drop 175).take 25).all fnB=true:=by kernel_rfl
theorem jIh:((Tryz.prog.funcs.toList.drop 200).take 25).all fnB=true:=by kernel_rfl
theorem jIi:((Tryz.prog.funcs.toList.drop 225).take 25).all fnB=true:=by kernel_rfl
theorem jGq:((Tryz.prog.funcs.toList.drop 250).take 25).all fnB=true:=by kernel_rfl
theorem jGr:((Tryz.prog.funcs.toList.drop 275).take 25).all fnB=true:=by kernel_rfl
theorem jGs:((Tryz.prog.funcs.toList.drop 300).take 25).all fnB=true:=by kernel_rfl
theorem jGt:((Tryz.prog.funcs.toList.drop 325).take 25).all fnB=true:=by kernel_rfl
theorem jGu:((Tryz.prog.funcs.toList.drop 350).take 25).all fnB=true:=by kernel_rfl
theorem jGv:((Tryz.prog.funcs.toList.drop 375).take 25).all fnB=true:=by kernel_rfl
theorem jGw:((Tryz.prog.funcs.toList.drop 400).take 25).all fnB=true:=by kernel_rfl
theorem jGx:((Tryz.prog.funcs.toList.drop 425).take 25).all fnB=true:=by kernel_rfl
theorem jGy:((Tryz.prog.funcs.toList.drop 450).take 25).all fnB=true:=by kernel_rfl
theorem jGz:((Tryz.prog.funcs.toList.drop 475).take 25).all fnB=true:=by kernel_rfl
theorem jIj:(Tryz.prog.funcs.toList.drop 500).all fnB=true:=by kernel_rfl
theorem jBe:Tryz.prog.funcs.toList.all fnB=true:=(z6 jH9 (z6 jIa (z6 jIb (z6 jIc (z6 jId (z6 jIe (z6 jIf (z6 jIg (z6 jIh (z6 jIi (z6 jGq (z6 jGr (z6 jGs (z6 jGt (z6 jGu (z6 jGv (z6 jGw (z6 jGx (z6 jGy (z6 jGz jIj rfl) rfl) rfl) rfl) rfl) rfl) rfl) rfl) rfl) rfl) rfl) rfl) rfl) rfl) rfl) rfl) rfl) rfl) rfl) rfl)
theorem jx5 {f:FuncId} {fn:Func} (h:Tryz.prog.funcs[f]? = some fn):fnB fn=true:=by
 have:=List.all_eq_true.mp jBe fn (Array.mem_toList_iff.mpr (Array.mem_of_getElem? h));exact this
theorem jhS:Sane K where
 ty:=jKH
 mixed:=by kernel_rfl
 names:=λf fn h=>by
  have:=jx5 h;simp only [fnB,ju,JO] at this;exact this.1
 lex:=λf fn c h hb=>by
  have:=jx5 h;simp only [fnB,ju,hb] at this;exact this.2
end Go.Proofs.YtbidbdhamhbebaaGreatDoor
