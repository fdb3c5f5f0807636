/- Sn -/
import Derived.Test.YthlhadhipnokfaaGreatDoorKt
namespace Go.Proofs.YthlhadhipnokfaaGreatDoor
open Go Go.RowKit Go.Proofs.YthlhadhipnokfaaGreatDoor.Abs
set_option linter.unusedSimpArgs false
set_option linter.unusedVariables false
def Jm(fn:Func):Bool:= !(fn.name == "runtime.NumGoroutine") && (match fn.body with|some c=>y7 c|none=>true)
theorem jx{l:List Func}{k m:Nat}(h1:((l.drop k).take 25).all Jm=true)(h2:(l.drop m).all Jm=true)(e:m=k+25):(l.drop k).all Jm=true:=by
 rw[<-jfK 25 (l.drop k),List.all_append,h1,List.drop_drop,<-e,h2];rfl
theorem jez:((Tryz.prog.funcs.toList.drop 0).take 25).all Jm=true:=by kernel_rfl
theorem jeA:((Tryz.prog.funcs.toList.drop 25).take 25).all Jm=true:=by kernel_rfl
theorem jeB:((Tryz.prog.funcs.toList.drop 50).take 25).all Jm=true:=by kernel_rfl
theorem jeC:((Tryz.prog.funcs.toList.drop 75).take 25).all Jm=true:=by kernel_rfl
theorem jeD:((Tryz.prog.funcs.toList.drop 100).take 25).all Jm=true:=by kernel_rfl
theorem jeE:((Tryz.prog.funcs.toList.drop 125).take 25).all Jm=true:=by kernel_rfl
theorem jeF:((Tryz.prog.funcs.toList.drop 150).take 25).all Jm=true:=by kernel_rfl
theorem jeG:((Tryz.prog.funcs.toList.drop 175).take 25).all Jm=true:=by kernel_rfl
theorem jeH:((Tryz.prog.funcs.toList.drop 200).take 25).all Jm=true:=by kernel_rfl
theorem jeI:((Tryz.prog.funcs.toList.drop 225).take 25).all Jm=true:=by kernel_rfl
theorem jdE:((Tryz.prog.funcs.toList.drop 250).take 25).all Jm=true:=by kernel_rfl
theorem jdF:((Tryz.prog.funcs.toList.drop 275).take 25).all Jm=true:=by kernel_rfl
theorem jdG:((Tryz.prog.funcs.toList.drop 300).take 25).all Jm=true:=by kernel_rfl
theorem jdH:((Tryz.prog.funcs.toList.drop 325).take 25).all Jm=true:=by kernel_rfl
theorem jdI:((Tryz.prog.funcs.toList.drop 350).take 25).all Jm=true:=by kernel_rfl
theorem jdJ:((Tryz.prog.funcs.toList.drop 375).take 25).all Jm=true:=by kernel_rfl
theorem jdK:((Tryz.prog.funcs.toList.drop 400).take 25).all Jm=true:=by kernel_rfl
theorem jdL:((Tryz.prog.funcs.toList.drop 425).take 25).all Jm=true:=by kernel_rfl
theorem jdM:((Tryz.prog.funcs.toList.drop 450).take 25).all Jm=true:=by kernel_rfl
theorem jdN:((Tryz.prog.funcs.toList.drop 475).take 25).all Jm=true:=by kernel_rfl
theorem jeJ:(Tryz.prog.funcs.toList.drop 500).all Jm=true:=by kernel_rfl
theorem jb7:Tryz.prog.funcs.toList.all Jm=true:=(jx jez (jx jeA (jx jeB (jx jeC (jx jeD (jx jeE (jx jeF (jx jeG (jx jeH (jx jeI (jx jdE (jx jdF (jx jdG (jx jdH (jx jdI (jx jdJ (jx jdK (jx jdL (jx jdM (jx jdN jeJ rfl) rfl) rfl) rfl) rfl) rfl) rfl) rfl) rfl) rfl) rfl) rfl) rfl) rfl) rfl) rfl) rfl) rfl) rfl) rfl)
theorem jbk{f:FuncId}{fn:Func}(h:Tryz.prog.funcs[f]? = some fn):Jm fn=true:=by
 have:=List.all_eq_true.mp jb7 fn (Array.mem_toList_iff.mpr (Array.mem_of_getElem? h));exact this
theorem jew:Sane K where
 ty:=je0
 mixed:=by kernel_rfl
 names:=λf fn h=>by
  have:=jbk h;simp only[Jm,jbX,jfl]at this;exact this.1
 lex:=λf fn c h hb=>by
  have:=jbk h;simp only[Jm,jbX,hb]at this;exact this.2
end Go.Proofs.YthlhadhipnokfaaGreatDoor
