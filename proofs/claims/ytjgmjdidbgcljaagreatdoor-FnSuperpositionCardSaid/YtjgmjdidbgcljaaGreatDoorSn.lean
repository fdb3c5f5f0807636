/- Sn -/
import Derived.Test.YtjgmjdidbgcljaaGreatDoorKt
namespace Go.Proofs.YtjgmjdidbgcljaaGreatDoor
open Go Go.RowKit Go.Proofs.YtjgmjdidbgcljaaGreatDoor.Abs
set_option linter.unusedSimpArgs false
set_option linter.unusedVariables false
def JO(fn:Func):Bool:= !(fn.name == "runtime.NumGoroutine") && (match fn.body with|some c=>z8 c|none=>true)
theorem jC{l:List Func}{k m:Nat}(h1:((l.drop k).take 25).all JO=true)(h2:(l.drop m).all JO=true)(e:m=k+25):(l.drop k).all JO=true:=by
 rw[<-Q3 25 (l.drop k),List.all_append,h1,List.drop_drop,<-e,h2];rfl
theorem jf2:((Tryz.prog.funcs.toList.drop 0).take 25).all JO=true:=by kernel_rfl
theorem jf3:((Tryz.prog.funcs.toList.drop 25).take 25).all JO=true:=by kernel_rfl
theorem jf4:((Tryz.prog.funcs.toList.drop 50).take 25).all JO=true:=by kernel_rfl
theorem jf5:((Tryz.prog.funcs.toList.drop 75).take 25).all JO=true:=by kernel_rfl
theorem jf6:((Tryz.prog.funcs.toList.drop 100).take 25).all JO=true:=by kernel_rfl
theorem jf7:((Tryz.prog.funcs.toList.drop 125).take 25).all JO=true:=by kernel_rfl
theorem jf8:((Tryz.prog.funcs.toList.drop 150).take 25).all JO=true:=by kernel_rfl
theorem jf9:((Tryz.prog.funcs.toList.drop 175).take 25).all JO=true:=by kernel_rfl
theorem jga:((Tryz.prog.funcs.toList.drop 200).take 25).all JO=true:=by kernel_rfl
theorem jgb:((Tryz.prog.funcs.toList.drop 225).take 25).all JO=true:=by kernel_rfl
theorem je4:((Tryz.prog.funcs.toList.drop 250).take 25).all JO=true:=by kernel_rfl
theorem je5:((Tryz.prog.funcs.toList.drop 275).take 25).all JO=true:=by kernel_rfl
theorem je6:((Tryz.prog.funcs.toList.drop 300).take 25).all JO=true:=by kernel_rfl
theorem je7:((Tryz.prog.funcs.toList.drop 325).take 25).all JO=true:=by kernel_rfl
theorem je8:((Tryz.prog.funcs.toList.drop 350).take 25).all JO=true:=by kernel_rfl
theorem je9:((Tryz.prog.funcs.toList.drop 375).take 25).all JO=true:=by kernel_rfl
theorem jfa:((Tryz.prog.funcs.toList.drop 400).take 25).all JO=true:=by kernel_rfl
theorem jfb:((Tryz.prog.funcs.toList.drop 425).take 25).all JO=true:=by kernel_rfl
theorem jfc:((Tryz.prog.funcs.toList.drop 450).take 25).all JO=true:=by kernel_rfl
theorem jfd:((Tryz.prog.funcs.toList.drop 475).take 25).all JO=true:=by kernel_rfl
theorem jgc:(Tryz.prog.funcs.toList.drop 500).all JO=true:=by kernel_rfl
theorem jdk:Tryz.prog.funcs.toList.all JO=true:=(jC jf2 (jC jf3 (jC jf4 (jC jf5 (jC jf6 (jC jf7 (jC jf8 (jC jf9 (jC jga (jC jgb (jC je4 (jC je5 (jC je6 (jC je7 (jC je8 (jC je9 (jC jfa (jC jfb (jC jfc (jC jfd jgc rfl) rfl) rfl) rfl) rfl) rfl) rfl) rfl) rfl) rfl) rfl) rfl) rfl) rfl) rfl) rfl) rfl) rfl) rfl) rfl)
theorem jcv{f:FuncId}{fn:Func}(h:Tryz.prog.funcs[f]? = some fn):JO fn=true:=by
 have:=List.all_eq_true.mp jdk fn (Array.mem_toList_iff.mpr (Array.mem_of_getElem? h));exact this
theorem jfZ:Sane K where
 ty:=jgs
 mixed:=by kernel_rfl
 names:=λf fn h=>by
  have:=jcv h;simp only[JO,Yn,JK]at this;exact this.1
 lex:=λf fn c h hb=>by
  have:=jcv h;simp only[JO,Yn,hb]at this;exact this.2
end Go.Proofs.YtjgmjdidbgcljaaGreatDoor
