/- Sn -/
import Derived.Test.YthapkjbfjniaiaaGreatDoorKt
namespace Go.Proofs.YthapkjbfjniaiaaGreatDoor
open Go Go.RowKit Go.Proofs.YthapkjbfjniaiaaGreatDoor.Abs
set_option linter.unusedSimpArgs false
set_option linter.unusedVariables false
def KT(fn:Func):Bool:= !(fn.name == "runtime.NumGoroutine") && (match fn.body with|some c=>yI c|none=>true)
theorem jP{l:List Func}{k m:Nat}(h1:((l.drop k).take 25).all KT=true)(h2:(l.drop m).all KT=true)(e:m=k+25):(l.drop k).all KT=true:=by
 rw[<-jbQ 25 (l.drop k),List.all_append,h1,List.drop_drop,<-e,h2];rfl
theorem jhK:((Tryz.prog.funcs.toList.drop 0).take 25).all KT=true:=by kernel_rfl
theorem jhL:((Tryz.prog.funcs.toList.drop 25).take 25).all KT=true:=by kernel_rfl
theorem jhM:((Tryz.prog.funcs.toList.drop 50).take 25).all KT=true:=by kernel_rfl
theorem jhN:((Tryz.prog.funcs.toList.drop 75).take 25).all KT=true:=by kernel_rfl
theorem jhO:((Tryz.prog.funcs.toList.drop 100).take 25).all KT=true:=by kernel_rfl
theorem jhP:((Tryz.prog.funcs.toList.drop 125).take 25).all KT=true:=by kernel_rfl
theorem jhQ:((Tryz.prog.funcs.toList.drop 150).take 25).all KT=true:=by kernel_rfl
theorem jhR:((Tryz.prog.funcs.toList.drop 175).take 25).all KT=true:=by kernel_rfl
theorem jhS:((Tryz.prog.funcs.toList.drop 200).take 25).all KT=true:=by kernel_rfl
theorem jhT:((Tryz.prog.funcs.toList.drop 225).take 25).all KT=true:=by kernel_rfl
theorem jgR:((Tryz.prog.funcs.toList.drop 250).take 25).all KT=true:=by kernel_rfl
theorem jgS:((Tryz.prog.funcs.toList.drop 275).take 25).all KT=true:=by kernel_rfl
theorem jgT:((Tryz.prog.funcs.toList.drop 300).take 25).all KT=true:=by kernel_rfl
theorem jgU:((Tryz.prog.funcs.toList.drop 325).take 25).all KT=true:=by kernel_rfl
theorem jgV:((Tryz.prog.funcs.toList.drop 350).take 25).all KT=true:=by kernel_rfl
theorem jgW:((Tryz.prog.funcs.toList.drop 375).take 25).all KT=true:=by kernel_rfl
theorem jgX:((Tryz.prog.funcs.toList.drop 400).take 25).all KT=true:=by kernel_rfl
theorem jgY:((Tryz.prog.funcs.toList.drop 425).take 25).all KT=true:=by kernel_rfl
theorem jgZ:((Tryz.prog.funcs.toList.drop 450).take 25).all KT=true:=by kernel_rfl
theorem jg0:((Tryz.prog.funcs.toList.drop 475).take 25).all KT=true:=by kernel_rfl
theorem jhU:(Tryz.prog.funcs.toList.drop 500).all KT=true:=by kernel_rfl
theorem jfa:Tryz.prog.funcs.toList.all KT=true:=(jP jhK (jP jhL (jP jhM (jP jhN (jP jhO (jP jhP (jP jhQ (jP jhR (jP jhS (jP jhT (jP jgR (jP jgS (jP jgT (jP jgU (jP jgV (jP jgW (jP jgX (jP jgY (jP jgZ (jP jg0 jhU rfl) rfl) rfl) rfl) rfl) rfl) rfl) rfl) rfl) rfl) rfl) rfl) rfl) rfl) rfl) rfl) rfl) rfl) rfl) rfl)
theorem jej{f:FuncId}{fn:Func}(h:Tryz.prog.funcs[f]? = some fn):KT fn=true:=by
 have:=List.all_eq_true.mp jfa fn (Array.mem_toList_iff.mpr (Array.mem_of_getElem? h));exact this
theorem jhH:Sane K where
 ty:=jia
 mixed:=by kernel_rfl
 names:=λf fn h=>by
  have:=jej h;simp only[KT,jm,qO]at this;exact this.1
 lex:=λf fn c h hb=>by
  have:=jej h;simp only[KT,jm,hb]at this;exact this.2
end Go.Proofs.YthapkjbfjniaiaaGreatDoor
