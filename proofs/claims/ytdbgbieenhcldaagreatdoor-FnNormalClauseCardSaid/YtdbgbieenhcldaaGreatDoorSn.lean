/- Sn -/
import Derived.Test.YtdbgbieenhcldaaGreatDoorKt
namespace Go.Proofs.YtdbgbieenhcldaaGreatDoor
open Go Go.RowKit Go.Proofs.YtdbgbieenhcldaaGreatDoor.Abs
set_option linter.unusedSimpArgs false
set_option linter.unusedVariables false
def QQ (fn:Func):Bool:= !(fn.name == "runtime.NumGoroutine") && (match fn.body with|some c=>Jq c|none=>true)
theorem ko {l:List Func} {k m:Nat} (h1:((l.drop k).take 25).all QQ=true) (h2:(l.drop m).all QQ=true) (e:m=k+25):(l.drop k).all QQ=true:=by
 rw [<-List.take_append_drop 25 (l.drop k),List.all_append,h1,List.drop_drop,<-e,h2];rfl
theorem jwU:((Tryz.prog.funcs.toList.drop 0).take 25).all QQ=true:=by kernel_rfl
theorem jwV:((Tryz.prog.funcs.toList.drop 25).take 25).all QQ=true:=by kernel_rfl
theorem jwW:((Tryz.prog.funcs.toList.drop 50).take 25).all QQ=true:=by kernel_rfl
theorem jwX:((Tryz.prog.funcs.toList.drop 75).take 25).all QQ=true:=by kernel_rfl
theorem jwY:((Tryz.prog.funcs.toList.drop 100).take 25).all QQ=true:=by kernel_rfl
theorem jwZ:((Tryz.prog.funcs.toList.drop 125).take 25).all QQ=true:=by kernel_rfl
theorem jw0:((Tryz.prog.funcs.toList.drop 150).take 25).all QQ=true:=by kernel_rfl
theorem jw1:((Tryz.prog.funcs.toList.drop 175).take 25).all QQ=true:=by kernel_rfl
theorem jw2:((Tryz.prog.funcs.toList.drop 200).take 25).all QQ=true:=by kernel_rfl
theorem jw3:((Tryz.prog.funcs.toList.drop 225).take 25).all QQ=true:=by kernel_rfl
theorem ju7:((Tryz.prog.funcs.toList.drop 250).take 25).all QQ=true:=by kernel_rfl
theorem ju8:((Tryz.prog.funcs.toList.drop 275).take 25).all QQ=true:=by kernel_rfl
theorem ju9:((Tryz.prog.funcs.toList.drop 300).take 25).all QQ=true:=by kernel_rfl
theorem jva:((Tryz.prog.funcs.toList.drop 325).take 25).all QQ=true:=by kernel_rfl
theorem jvb:((Tryz.prog.funcs.toList.drop 350).take 25).all QQ=true:=by kernel_rfl
theorem jvc:((Tryz.prog.funcs.toList.drop 375).take 25).all QQ=true:=by kernel_rfl
theorem jvd:((Tryz.prog.funcs.toList.drop 400).take 25).all QQ=true:=by kernel_rfl
theorem jve:((Tryz.prog.funcs.toList.drop 425).take 25).all QQ=true:=by kernel_rfl
theorem jvf:((Tryz.prog.funcs.toList.drop 450).take 25).all QQ=true:=by kernel_rfl
theorem jvg:((Tryz.prog.funcs.toList.drop 475).take 25).all QQ=true:=by kernel_rfl
theorem jw4:(Tryz.prog.funcs.toList.drop 500).all QQ=true:=by kernel_rfl
theorem jqW:Tryz.prog.funcs.toList.all QQ=true:=(ko jwU (ko jwV (ko jwW (ko jwX (ko jwY (ko jwZ (ko jw0 (ko jw1 (ko jw2 (ko jw3 (ko ju7 (ko ju8 (ko ju9 (ko jva (ko jvb (ko jvc (ko jvd (ko jve (ko jvf (ko jvg jw4 rfl) rfl) rfl) rfl) rfl) rfl) rfl) rfl) rfl) rfl) rfl) rfl) rfl) rfl) rfl) rfl) rfl) rfl) rfl) rfl)
theorem joG {f:FuncId} {fn:Func} (h:Tryz.prog.funcs[f]? = some fn):QQ fn=true:=by
 have:=List.all_eq_true.mp jqW fn (Array.mem_toList_iff.mpr (Array.mem_of_getElem? h));exact this
theorem je5:Sane K where
 ty:=jyo
 mixed:=by kernel_rfl
 names:=λf fn h=>by
  have:=joG h;simp only [QQ,Bool.and_eq_true,Bool.not_eq_true'] at this;exact this.1
 lex:=λf fn c h hb=>by
  have:=joG h;simp only [QQ,Bool.and_eq_true,hb] at this;exact this.2
end Go.Proofs.YtdbgbieenhcldaaGreatDoor
