/- Sn -/
import Derived.Test.YtoaifmomhaneiaaGreatDoorKt
namespace Go.Proofs.YtoaifmomhaneiaaGreatDoor
open Go Go.RowKit Go.Proofs.YtoaifmomhaneiaaGreatDoor.Abs
set_option linter.unusedSimpArgs false
set_option linter.unusedVariables false
def fnB (fn:Func):Bool:= !(fn.name == "runtime.NumGoroutine") && (match fn.body with|some c=>jd8 c|none=>true)
theorem ya {l:List Func} {k m:Nat} (h1:((l.drop k).take 25).all fnB=true) (h2:(l.drop m).all fnB=true) (e:m=k+25):(l.drop k).all fnB=true:=by
 rw [<-jew 25 (l.drop k),List.all_append,h1,jlf,<-e,h2];rfl
theorem jKa:((Tryz.prog.funcs.toList.drop 0).take 25).all fnB=true:=by kernel_rfl
theorem jKb:((Tryz.prog.funcs.toList.drop 25).take 25).all fnB=true:=by kernel_rfl
theorem jKc:((Tryz.prog.funcs.toList.drop 50).take 25).all fnB=true:=by kernel_rfl
theorem jKd:((Tryz.prog.funcs.toList.drop 75).take 25).all fnB=true:=by kernel_rfl
theorem jKe:((Tryz.prog.funcs.toList.drop 100).take 25).all fnB=true:=by kernel_rfl
theorem jKf:((Tryz.prog.funcs.toList.drop 125).take 25).all fnB=true:=by kernel_rfl
theorem jKg:((Tryz.prog.funcs.toList.drop 150).take 25).all fnB=true:=by kernel_rfl
theorem jKh:((Tryz.prog.funcs.toList.drop 175).take 25).all fnB=true:=by kernel_rfl
theorem jKi:((Tryz.prog.funcs.toList.drop 200).take 25).all fnB=true:=by kernel_rfl
theorem jKj:((Tryz.prog.funcs.toList.drop 225).take 25).all fnB=true:=by kernel_rfl
theorem jFl:((Tryz.prog.funcs.toList.drop 250).take 25).all fnB=true:=by kernel_rfl
theorem jFm:((Tryz.prog.funcs.toList.drop 275).take 25).all fnB=true:=by kernel_rfl
theorem jFn:((Tryz.prog.funcs.toList.drop 300).take 25).all fnB=true:=by kernel_rfl
theorem jFo:((Tryz.prog.funcs.toList.drop 325).take 25).all fnB=true:=by kernel_rfl
theorem jFp:((Tryz.prog.funcs.toList.drop 350).take 25).all fnB=true:=by kernel_rfl
theorem jFq:((Tryz.prog.funcs.toList.drop 375).take 25).all fnB=true:=by kernel_rfl
theorem jFr:((Tryz.prog.funcs.toList.drop 400).take 25).all fnB=true:=by kernel_rfl
theorem jFs:((Tryz.prog.funcs.toList.drop 425).take 25).all fnB=true:=by kernel_rfl
theorem jFt:((Tryz.prog.funcs.toList.drop 450).take 25).all fnB=true:=by kernel_rfl
theorem jFu:((Tryz.prog.funcs.toList.drop 475).take 25).all fnB=true:=by kernel_rfl
theorem jKk:(Tryz.prog.funcs.toList.drop 500).all fnB=true:=by kernel_rfl
theorem jBf:Tryz.prog.funcs.toList.all fnB=true:=(ya jKa (ya jKb (ya jKc (ya jKd (ya jKe (ya jKf (ya jKg (ya jKh (ya jKi (ya jKj (ya jFl (ya jFm (ya jFn (ya jFo (ya jFp (ya jFq (ya jFr (ya jFs (ya jFt (ya jFu jKk rfl) rfl) rfl) rfl) rfl) rfl) rfl) rfl) rfl) rfl) rfl) rfl) rfl) rfl) rfl) rfl) rfl) rfl) rfl) rfl)
theorem jxY {f:FuncId} {fn:Func} (h:Tryz.prog.funcs[f]? = some fn):fnB fn=true:=by
 have:=List.all_eq_true.mp jBf fn (Array.mem_toList_iff.mpr (jsp h));exact this
theorem jiO:Sane K where
 ty:=jOs
 mixed:=by kernel_rfl
 names:=λf fn h=>by
  have:=jxY h;simp only [fnB,jy,JF] at this;exact this.1
 lex:=λf fn c h hb=>by
  have:=jxY h;simp only [fnB,jy,hb] at this;exact this.2
end Go.Proofs.YtoaifmomhaneiaaGreatDoor
