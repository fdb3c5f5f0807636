/- Sn -/
import Derived.Test.YteoaojbmnibpcaaGreatDoorKt
namespace Go.Proofs.YteoaojbmnibpcaaGreatDoor
open Go Go.RowKit Go.Proofs.YteoaojbmnibpcaaGreatDoor.Abs
set_option linter.unusedSimpArgs false
set_option linter.unusedVariables false
def Qx(fn:Func):Bool:= !(fn.name == "runtime.NumGoroutine") && (match fn.body with|some c=>Jj c|none=>true)
theorem km{l:List Func}{k m:Nat}(h1:((l.drop k).take 25).all Qx=true)(h2:(l.drop m).all Qx=true)(e:m=k+25):(l.drop k).all Qx=true:=by
 rw[<-List.take_append_drop 25 (l.drop k),List.all_append,h1,List.drop_drop,<-e,h2];rfl
theorem juC:((Tryz.prog.funcs.toList.drop 0).take 25).all Qx=true:=by kernel_rfl
theorem juD:((Tryz.prog.funcs.toList.drop 25).take 25).all Qx=true:=by kernel_rfl
theorem juE:((Tryz.prog.funcs.toList.drop 50).take 25).all Qx=true:=by kernel_rfl
theorem juF:((Tryz.prog.funcs.toList.drop 75).take 25).all Qx=true:=by kernel_rfl
theorem juG:((Tryz.prog.funcs.toList.drop 100).take 25).all Qx=true:=by kernel_rfl
theorem juH:((Tryz.prog.funcs.toList.drop 125).take 25).all Qx=true:=by kernel_rfl
theorem juI:((Tryz.prog.funcs.toList.drop 150).take 25).all Qx=true:=by kernel_rfl
theorem juJ:((Tryz.prog.funcs.toList.drop 175).take 25).all Qx=true:=by kernel_rfl
theorem juK:((Tryz.prog.funcs.toList.drop 200).take 25).all Qx=true:=by kernel_rfl
theorem juL:((Tryz.prog.funcs.toList.drop 225).take 25).all Qx=true:=by kernel_rfl
theorem jsy:((Tryz.prog.funcs.toList.drop 250).take 25).all Qx=true:=by kernel_rfl
theorem jsz:((Tryz.prog.funcs.toList.drop 275).take 25).all Qx=true:=by kernel_rfl
theorem jsA:((Tryz.prog.funcs.toList.drop 300).take 25).all Qx=true:=by kernel_rfl
theorem jsB:((Tryz.prog.funcs.toList.drop 325).take 25).all Qx=true:=by kernel_rfl
theorem jsC:((Tryz.prog.funcs.toList.drop 350).take 25).all Qx=true:=by kernel_rfl
theorem jsD:((Tryz.prog.funcs.toList.drop 375).take 25).all Qx=true:=by kernel_rfl
theorem jsE:((Tryz.prog.funcs.toList.drop 400).take 25).all Qx=true:=by kernel_rfl
theorem jsF:((Tryz.prog.funcs.toList.drop 425).take 25).all Qx=true:=by kernel_rfl
theorem jsG:((Tryz.prog.funcs.toList.drop 450).take 25).all Qx=true:=by kernel_rfl
theorem jsH:((Tryz.prog.funcs.toList.drop 475).take 25).all Qx=true:=by kernel_rfl
theorem juM:(Tryz.prog.funcs.toList.drop 500).all Qx=true:=by kernel_rfl
theorem joy:Tryz.prog.funcs.toList.all Qx=true:=(km juC (km juD (km juE (km juF (km juG (km juH (km juI (km juJ (km juK (km juL (km jsy (km jsz (km jsA (km jsB (km jsC (km jsD (km jsE (km jsF (km jsG (km jsH juM rfl) rfl) rfl) rfl) rfl) rfl) rfl) rfl) rfl) rfl) rfl) rfl) rfl) rfl) rfl) rfl) rfl) rfl) rfl) rfl)
theorem jmK{f:FuncId}{fn:Func}(h:Tryz.prog.funcs[f]? = some fn):Qx fn=true:=by
 have:=List.all_eq_true.mp joy fn (Array.mem_toList_iff.mpr (Array.mem_of_getElem? h));exact this
theorem jhY:Sane K where
 ty:=jvO
 mixed:=by kernel_rfl
 names:=λf fn h=>by
  have:=jmK h;simp only[Qx,Bool.and_eq_true,Bool.not_eq_true']at this;exact this.1
 lex:=λf fn c h hb=>by
  have:=jmK h;simp only[Qx,Bool.and_eq_true,hb]at this;exact this.2
end Go.Proofs.YteoaojbmnibpcaaGreatDoor
