/- Sn -/
import Derived.Test.YtbgikpffkgjecaaGreatDoorKt
namespace Go.Proofs.YtbgikpffkgjecaaGreatDoor
open Go Go.RowKit Go.Proofs.YtbgikpffkgjecaaGreatDoor.Abs
set_option linter.unusedSimpArgs false
set_option linter.unusedVariables false
def fnB (fn:Func):Bool:= !(fn.name == "runtime.NumGoroutine") && (match fn.body with|some c=>jc6 c|none=>true)
theorem yh {l:List Func} {k m:Nat} (h1:((l.drop k).take 25).all fnB=true) (h2:(l.drop m).all fnB=true) (e:m=k+25):(l.drop k).all fnB=true:=by
 rw [<-jmf 25 (l.drop k),List.all_append,h1,jrM,<-e,h2];rfl
theorem jJX:((Tryz.prog.funcs.toList.drop 0).take 25).all fnB=true:=by kernel_rfl
theorem jJY:((Tryz.prog.funcs.toList.drop 25).take 25).all fnB=true:=by kernel_rfl
theorem jJZ:((Tryz.prog.funcs.toList.drop 50).take 25).all fnB=true:=by kernel_rfl
theorem jJ0:((Tryz.prog.funcs.toList.drop 75).take 25).all fnB=true:=by kernel_rfl
theorem jJ1:((Tryz.prog.funcs.toList.drop 100).take 25).all fnB=true:=by kernel_rfl
theorem jJ2:((Tryz.prog.funcs.toList.drop 125).take 25).all fnB=true:=by kernel_rfl
theorem jJ3:((Tryz.prog.funcs.toList.drop 150).take 25).all fnB=true:=by kernel_rfl
theorem jJ4:((Tryz.prog.funcs.toList.drop 175).take 25).all fnB=true:=by kernel_rfl
theorem jJ5:((Tryz.prog.funcs.toList.drop 200).take 25).all fnB=true:=by kernel_rfl
theorem jJ6:((Tryz.prog.funcs.toList.drop 225).take 25).all fnB=true:=by kernel_rfl
theorem jHB:((Tryz.prog.funcs.toList.drop 250).take 25).all fnB=true:=by kernel_rfl
theorem jHC:((Tryz.prog.funcs.toList.drop 275).take 25).all fnB=true:=by kernel_rfl
theorem jHD:((Tryz.prog.funcs.toList.drop 300).take 25).all fnB=true:=by kernel_rfl
theorem jHE:((Tryz.prog.funcs.toList.drop 325).take 25).all fnB=true:=by kernel_rfl
theorem jHF:((Tryz.prog.funcs.toList.drop 350).take 25).all fnB=true:=by kernel_rfl
theorem jHG:((Tryz.prog.funcs.toList.drop 375).take 25).all fnB=true:=by kernel_rfl
theorem jHH:((Tryz.prog.funcs.toList.drop 400).take 25).all fnB=true:=by kernel_rfl
theorem jHI:((Tryz.prog.funcs.toList.drop 425).take 25).all fnB=true:=by kernel_rfl
theorem jHJ:((Tryz.prog.funcs.toList.drop 450).take 25).all fnB=true:=by kernel_rfl
theorem jHK:((Tryz.prog.funcs.toList.drop 475).take 25).all fnB=true:=by kernel_rfl
theorem jJ7:(Tryz.prog.funcs.toList.drop 500).all fnB=true:=by kernel_rfl
theorem jB6:Tryz.prog.funcs.toList.all fnB=true:=(yh jJX (yh jJY (yh jJZ (yh jJ0 (yh jJ1 (yh jJ2 (yh jJ3 (yh jJ4 (yh jJ5 (yh jJ6 (yh jHB (yh jHC (yh jHD (yh jHE (yh jHF (yh jHG (yh jHH (yh jHI (yh jHJ (yh jHK jJ7 rfl) rfl) rfl) rfl) rfl) rfl) rfl) rfl) rfl) rfl) rfl) rfl) rfl) rfl) rfl) rfl) rfl) rfl) rfl) rfl)
theorem jyK {f:FuncId} {fn:Func} (h:Tryz.prog.funcs[f]? = some fn):fnB fn=true:=by
 have:=List.all_eq_true.mp jB6 fn (Array.mem_toList_iff.mpr (Array.mem_of_getElem? h));exact this
theorem jhU:Sane K where
 ty:=jMo
 mixed:=by kernel_rfl
 names:=λf fn h=>by
  have:=jyK h;simp only [fnB,jy,jan] at this;exact this.1
 lex:=λf fn c h hb=>by
  have:=jyK h;simp only [fnB,jy,hb] at this;exact this.2
end Go.Proofs.YtbgikpffkgjecaaGreatDoor
