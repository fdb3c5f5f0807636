/- Sn -/
import Derived.Test.YtdbgbieenhcldaaGreatDoorKt
namespace Go.Proofs.YtdbgbieenhcldaaGreatDoor
open Go Go.RowKit Go.Proofs.YtdbgbieenhcldaaGreatDoor.Abs
set_option linter.unusedSimpArgs false
set_option linter.unusedVariables false
def fnB (fn:Func):Bool:= !(fn.name == "runtime.NumGoroutine") && (match fn.body with|some c=>Y7 c|none=>true)
theorem kT {l:List Func} {k m:Nat} (h1:((l.drop k).take 25).all fnB=true) (h2:(l.drop m).all fnB=true) (e:m=k+25):(l.drop k).all fnB=true:=by
 rw [<-List.take_append_drop 25 (l.drop k),List.all_append,h1,List.drop_drop,<-e,h2];rfl
theorem jyW:((Tryz.prog.funcs.toList.drop 0).take 25).all fnB=true:=by kernel_rfl
theorem jyX:((Tryz.prog.funcs.toList.drop 25).take 25).all fnB=true:=by kernel_rfl
theorem jyY:((Tryz.prog.funcs.toList.drop 50).take 25).all fnB=true:=by kernel_rfl
theorem jyZ:((Tryz.prog.funcs.toList.drop 75).take 25).all fnB=true:=by kernel_rfl
theorem jy0:((Tryz.prog.funcs.toList.drop 100).take 25).all fnB=true:=by kernel_rfl
theorem jy1:((Tryz.prog.funcs.toList.drop 125).take 25).all fnB=true:=by kernel_rfl
theorem jy2:((Tryz.prog.funcs.toList.drop 150).take 25).all fnB=true:=by kernel_rfl
theorem jy3:((Tryz.prog.funcs.toList.drop 175).take 25).all fnB=true:=by kernel_rfl
theorem jy4:((Tryz.prog.funcs.toList.drop 200).take 25).all fnB=true:=by kernel_rfl
theorem jy5:((Tryz.prog.funcs.toList.drop 225).take 25).all fnB=true:=by kernel_rfl
theorem jw3:((Tryz.prog.funcs.toList.drop 250).take 25).all fnB=true:=by kernel_rfl
theorem jw4:((Tryz.prog.funcs.toList.drop 275).take 25).all fnB=true:=by kernel_rfl
theorem jw5:((Tryz.prog.funcs.toList.drop 300).take 25).all fnB=true:=by kernel_rfl
theorem jw6:((Tryz.prog.funcs.toList.drop 325).take 25).all fnB=true:=by kernel_rfl
theorem jw7:((Tryz.prog.funcs.toList.drop 350).take 25).all fnB=true:=by kernel_rfl
theorem jw8:((Tryz.prog.funcs.toList.drop 375).take 25).all fnB=true:=by kernel_rfl
theorem jw9:((Tryz.prog.funcs.toList.drop 400).take 25).all fnB=true:=by kernel_rfl
theorem jxa:((Tryz.prog.funcs.toList.drop 425).take 25).all fnB=true:=by kernel_rfl
theorem jxb:((Tryz.prog.funcs.toList.drop 450).take 25).all fnB=true:=by kernel_rfl
theorem jxc:((Tryz.prog.funcs.toList.drop 475).take 25).all fnB=true:=by kernel_rfl
theorem jy6:(Tryz.prog.funcs.toList.drop 500).all fnB=true:=by kernel_rfl
theorem jsj:Tryz.prog.funcs.toList.all fnB=true:=(kT jyW (kT jyX (kT jyY (kT jyZ (kT jy0 (kT jy1 (kT jy2 (kT jy3 (kT jy4 (kT jy5 (kT jw3 (kT jw4 (kT jw5 (kT jw6 (kT jw7 (kT jw8 (kT jw9 (kT jxa (kT jxb (kT jxc jy6 rfl) rfl) rfl) rfl) rfl) rfl) rfl) rfl) rfl) rfl) rfl) rfl) rfl) rfl) rfl) rfl) rfl) rfl) rfl) rfl)
theorem jpR {f:FuncId} {fn:Func} (h:Tryz.prog.funcs[f]? = some fn):fnB fn=true:=by
 have:=List.all_eq_true.mp jsj fn (Array.mem_toList_iff.mpr (Array.mem_of_getElem? h));exact this
theorem jgk:Sane K where
 ty:=jAJ
 mixed:=by kernel_rfl
 names:=λf fn h=>by
  have:=jpR h;simp only [fnB,Bool.and_eq_true,Bool.not_eq_true'] at this;exact this.1
 lex:=λf fn c h hb=>by
  have:=jpR h;simp only [fnB,Bool.and_eq_true,hb] at this;exact this.2
end Go.Proofs.YtdbgbieenhcldaaGreatDoor
