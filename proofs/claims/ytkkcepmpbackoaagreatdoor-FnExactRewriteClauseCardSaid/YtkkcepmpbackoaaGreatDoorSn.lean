/- Sn -/
import Derived.Test.YtkkcepmpbackoaaGreatDoorKt
namespace Go.Proofs.YtkkcepmpbackoaaGreatDoor
open Go Go.RowKit Go.Proofs.YtkkcepmpbackoaaGreatDoor.Abs
set_option linter.unusedSimpArgs false
set_option linter.unusedVariables false
def fnB(fn:Func):Bool:= !(fn.name == "runtime.NumGoroutine") && (match fn.body with|some c=>Kr c|none=>true)
theorem kr{l:List Func}{k m:Nat}(h1:((l.drop k).take 25).all fnB=true)(h2:(l.drop m).all fnB=true)(e:m=k+25):(l.drop k).all fnB=true:=by
 rw[<-List.take_append_drop 25 (l.drop k),List.all_append,h1,List.drop_drop,<-e,h2];rfl
theorem jze:((Tryz.prog.funcs.toList.drop 0).take 25).all fnB=true:=by kernel_rfl
theorem jzf:((Tryz.prog.funcs.toList.drop 25).take 25).all fnB=true:=by kernel_rfl
theorem jzg:((Tryz.prog.funcs.toList.drop 50).take 25).all fnB=true:=by kernel_rfl
theorem jzh:((Tryz.prog.funcs.toList.drop 75).take 25).all fnB=true:=by kernel_rfl
theorem jzi:((Tryz.prog.funcs.toList.drop 100).take 25).all fnB=true:=by kernel_rfl
theorem jzj:((Tryz.prog.funcs.toList.drop 125).take 25).all fnB=true:=by kernel_rfl
theorem jzk:((Tryz.prog.funcs.toList.drop 150).take 25).all fnB=true:=by kernel_rfl
theorem jzl:((Tryz.prog.funcs.toList.drop 175).take 25).all fnB=true:=by kernel_rfl
theorem jzm:((Tryz.prog.funcs.toList.drop 200).take 25).all fnB=true:=by kernel_rfl
theorem jzn:((Tryz.prog.funcs.toList.drop 225).take 25).all fnB=true:=by kernel_rfl
theorem jxg:((Tryz.prog.funcs.toList.drop 250).take 25).all fnB=true:=by kernel_rfl
theorem jxh:((Tryz.prog.funcs.toList.drop 275).take 25).all fnB=true:=by kernel_rfl
theorem jxi:((Tryz.prog.funcs.toList.drop 300).take 25).all fnB=true:=by kernel_rfl
theorem jxj:((Tryz.prog.funcs.toList.drop 325).take 25).all fnB=true:=by kernel_rfl
theorem jxk:((Tryz.prog.funcs.toList.drop 350).take 25).all fnB=true:=by kernel_rfl
theorem jxl:((Tryz.prog.funcs.toList.drop 375).take 25).all fnB=true:=by kernel_rfl
theorem jxm:((Tryz.prog.funcs.toList.drop 400).take 25).all fnB=true:=by kernel_rfl
theorem jxn:((Tryz.prog.funcs.toList.drop 425).take 25).all fnB=true:=by kernel_rfl
theorem jxo:((Tryz.prog.funcs.toList.drop 450).take 25).all fnB=true:=by kernel_rfl
theorem jxp:((Tryz.prog.funcs.toList.drop 475).take 25).all fnB=true:=by kernel_rfl
theorem jzo:(Tryz.prog.funcs.toList.drop 500).all fnB=true:=by kernel_rfl
theorem jsO:Tryz.prog.funcs.toList.all fnB=true:=(kr jze (kr jzf (kr jzg (kr jzh (kr jzi (kr jzj (kr jzk (kr jzl (kr jzm (kr jzn (kr jxg (kr jxh (kr jxi (kr jxj (kr jxk (kr jxl (kr jxm (kr jxn (kr jxo (kr jxp jzo rfl) rfl) rfl) rfl) rfl) rfl) rfl) rfl) rfl) rfl) rfl) rfl) rfl) rfl) rfl) rfl) rfl) rfl) rfl) rfl)
theorem jqm{f:FuncId}{fn:Func}(h:Tryz.prog.funcs[f]? = some fn):fnB fn=true:=by
 have:=List.all_eq_true.mp jsO fn (Array.mem_toList_iff.mpr (Array.mem_of_getElem? h));exact this
theorem KJ:Sane K where
 ty:=jAP
 mixed:=by kernel_rfl
 names:=λf fn h=>by
  have:=jqm h;simp only[fnB,Bool.and_eq_true,Bool.not_eq_true']at this;exact this.1
 lex:=λf fn c h hb=>by
  have:=jqm h;simp only[fnB,Bool.and_eq_true,hb]at this;exact this.2
end Go.Proofs.YtkkcepmpbackoaaGreatDoor
