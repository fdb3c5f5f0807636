/- Sn -/
import Derived.Test.YtcmflcpoohgmmaaGreatDoorKt
namespace Go.Proofs.YtcmflcpoohgmmaaGreatDoor
open Go Go.RowKit Go.Proofs.YtcmflcpoohgmmaaGreatDoor.Abs
set_option linter.unusedSimpArgs false
set_option linter.unusedVariables false
def QU(fn:Func):Bool:= !(fn.name == "runtime.NumGoroutine") && (match fn.body with|some c=>Ja c|none=>true)
theorem kg{l:List Func}{k m:Nat}(h1:((l.drop k).take 25).all QU=true)(h2:(l.drop m).all QU=true)(e:m=k+25):(l.drop k).all QU=true:=by
 rw[<-List.take_append_drop 25 (l.drop k),List.all_append,h1,List.drop_drop,<-e,h2];rfl
theorem jvr:((Tryz.prog.funcs.toList.drop 0).take 25).all QU=true:=by kernel_rfl
theorem jvs:((Tryz.prog.funcs.toList.drop 25).take 25).all QU=true:=by kernel_rfl
theorem jvt:((Tryz.prog.funcs.toList.drop 50).take 25).all QU=true:=by kernel_rfl
theorem jvu:((Tryz.prog.funcs.toList.drop 75).take 25).all QU=true:=by kernel_rfl
theorem jvv:((Tryz.prog.funcs.toList.drop 100).take 25).all QU=true:=by kernel_rfl
theorem jvw:((Tryz.prog.funcs.toList.drop 125).take 25).all QU=true:=by kernel_rfl
theorem jvx:((Tryz.prog.funcs.toList.drop 150).take 25).all QU=true:=by kernel_rfl
theorem jvy:((Tryz.prog.funcs.toList.drop 175).take 25).all QU=true:=by kernel_rfl
theorem jvz:((Tryz.prog.funcs.toList.drop 200).take 25).all QU=true:=by kernel_rfl
theorem jvA:((Tryz.prog.funcs.toList.drop 225).take 25).all QU=true:=by kernel_rfl
theorem jto:((Tryz.prog.funcs.toList.drop 250).take 25).all QU=true:=by kernel_rfl
theorem jtp:((Tryz.prog.funcs.toList.drop 275).take 25).all QU=true:=by kernel_rfl
theorem jtq:((Tryz.prog.funcs.toList.drop 300).take 25).all QU=true:=by kernel_rfl
theorem jtr:((Tryz.prog.funcs.toList.drop 325).take 25).all QU=true:=by kernel_rfl
theorem jts:((Tryz.prog.funcs.toList.drop 350).take 25).all QU=true:=by kernel_rfl
theorem jtt:((Tryz.prog.funcs.toList.drop 375).take 25).all QU=true:=by kernel_rfl
theorem jtu:((Tryz.prog.funcs.toList.drop 400).take 25).all QU=true:=by kernel_rfl
theorem jtv:((Tryz.prog.funcs.toList.drop 425).take 25).all QU=true:=by kernel_rfl
theorem jtw:((Tryz.prog.funcs.toList.drop 450).take 25).all QU=true:=by kernel_rfl
theorem jtx:((Tryz.prog.funcs.toList.drop 475).take 25).all QU=true:=by kernel_rfl
theorem jvB:(Tryz.prog.funcs.toList.drop 500).all QU=true:=by kernel_rfl
theorem jpt:Tryz.prog.funcs.toList.all QU=true:=(kg jvr (kg jvs (kg jvt (kg jvu (kg jvv (kg jvw (kg jvx (kg jvy (kg jvz (kg jvA (kg jto (kg jtp (kg jtq (kg jtr (kg jts (kg jtt (kg jtu (kg jtv (kg jtw (kg jtx jvB rfl) rfl) rfl) rfl) rfl) rfl) rfl) rfl) rfl) rfl) rfl) rfl) rfl) rfl) rfl) rfl) rfl) rfl) rfl) rfl)
theorem jnx{f:FuncId}{fn:Func}(h:Tryz.prog.funcs[f]? = some fn):QU fn=true:=by
 have:=List.all_eq_true.mp jpt fn (Array.mem_toList_iff.mpr (Array.mem_of_getElem? h));exact this
theorem jmO:Sane K where
 ty:=jwL
 mixed:=by kernel_rfl
 names:=λf fn h=>by
  have:=jnx h;simp only[QU,Bool.and_eq_true,Bool.not_eq_true']at this;exact this.1
 lex:=λf fn c h hb=>by
  have:=jnx h;simp only[QU,Bool.and_eq_true,hb]at this;exact this.2
end Go.Proofs.YtcmflcpoohgmmaaGreatDoor
