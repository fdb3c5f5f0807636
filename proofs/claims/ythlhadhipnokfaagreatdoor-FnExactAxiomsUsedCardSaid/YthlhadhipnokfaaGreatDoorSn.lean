/- Sn -/
import Derived.Test.YthlhadhipnokfaaGreatDoorKt
namespace Go.Proofs.YthlhadhipnokfaaGreatDoor
open Go Go.RowKit Go.Proofs.YthlhadhipnokfaaGreatDoor.Abs
set_option linter.unusedSimpArgs false
set_option linter.unusedVariables false
def fnB(fn:Func):Bool:= !(fn.name == "runtime.NumGoroutine") && (match fn.body with|some c=>jcT c|none=>true)
theorem zK{l:List Func}{k m:Nat}(h1:((l.drop k).take 25).all fnB=true)(h2:(l.drop m).all fnB=true)(e:m=k+25):(l.drop k).all fnB=true:=by
 rw[<-Qj 25 (l.drop k),List.all_append,h1,List.drop_drop,<-e,h2];rfl
theorem jJc:((Tryz.prog.funcs.toList.drop 0).take 25).all fnB=true:=by kernel_rfl
theorem jJd:((Tryz.prog.funcs.toList.drop 25).take 25).all fnB=true:=by kernel_rfl
theorem jJe:((Tryz.prog.funcs.toList.drop 50).take 25).all fnB=true:=by kernel_rfl
theorem jJf:((Tryz.prog.funcs.toList.drop 75).take 25).all fnB=true:=by kernel_rfl
theorem jJg:((Tryz.prog.funcs.toList.drop 100).take 25).all fnB=true:=by kernel_rfl
theorem jJh:((Tryz.prog.funcs.toList.drop 125).take 25).all fnB=true:=by kernel_rfl
theorem jJi:((Tryz.prog.funcs.toList.drop 150).take 25).all fnB=true:=by kernel_rfl
theorem jJj:((Tryz.prog.funcs.toList.drop 175).take 25).all fnB=true:=by kernel_rfl
theorem jJk:((Tryz.prog.funcs.toList.drop 200).take 25).all fnB=true:=by kernel_rfl
theorem jJl:((Tryz.prog.funcs.toList.drop 225).take 25).all fnB=true:=by kernel_rfl
theorem jG4:((Tryz.prog.funcs.toList.drop 250).take 25).all fnB=true:=by kernel_rfl
theorem jG5:((Tryz.prog.funcs.toList.drop 275).take 25).all fnB=true:=by kernel_rfl
theorem jG6:((Tryz.prog.funcs.toList.drop 300).take 25).all fnB=true:=by kernel_rfl
theorem jG7:((Tryz.prog.funcs.toList.drop 325).take 25).all fnB=true:=by kernel_rfl
theorem jG8:((Tryz.prog.funcs.toList.drop 350).take 25).all fnB=true:=by kernel_rfl
theorem jG9:((Tryz.prog.funcs.toList.drop 375).take 25).all fnB=true:=by kernel_rfl
theorem jHa:((Tryz.prog.funcs.toList.drop 400).take 25).all fnB=true:=by kernel_rfl
theorem jHb:((Tryz.prog.funcs.toList.drop 425).take 25).all fnB=true:=by kernel_rfl
theorem jHc:((Tryz.prog.funcs.toList.drop 450).take 25).all fnB=true:=by kernel_rfl
theorem jHd:((Tryz.prog.funcs.toList.drop 475).take 25).all fnB=true:=by kernel_rfl
theorem jJm:(Tryz.prog.funcs.toList.drop 500).all fnB=true:=by kernel_rfl
theorem jCb:Tryz.prog.funcs.toList.all fnB=true:=(zK jJc (zK jJd (zK jJe (zK jJf (zK jJg (zK jJh (zK jJi (zK jJj (zK jJk (zK jJl (zK jG4 (zK jG5 (zK jG6 (zK jG7 (zK jG8 (zK jG9 (zK jHa (zK jHb (zK jHc (zK jHd jJm rfl) rfl) rfl) rfl) rfl) rfl) rfl) rfl) rfl) rfl) rfl) rfl) rfl) rfl) rfl) rfl) rfl) rfl) rfl) rfl)
theorem jyP{f:FuncId}{fn:Func}(h:Tryz.prog.funcs[f]? = some fn):fnB fn=true:=by
 have:=List.all_eq_true.mp jCb fn (Array.mem_toList_iff.mpr (Array.mem_of_getElem? h));exact this
theorem jfD:Sane K where
 ty:=jL2
 mixed:=by kernel_rfl
 names:=λf fn h=>by
  have:=jyP h;simp only[fnB,jI,QY]at this;exact this.1
 lex:=λf fn c h hb=>by
  have:=jyP h;simp only[fnB,jI,hb]at this;exact this.2
end Go.Proofs.YthlhadhipnokfaaGreatDoor
