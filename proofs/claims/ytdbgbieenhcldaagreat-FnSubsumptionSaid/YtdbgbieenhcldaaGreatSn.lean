/- Sn -/
import Derived.Test.YtdbgbieenhcldaaGreatKt
namespace Go.Proofs.YtdbgbieenhcldaaGreat
open Go Go.RowKit Go.Proofs.YtdbgbieenhcldaaGreat.Abs
set_option linter.unusedSimpArgs false
set_option linter.unusedVariables false
def Qp (fn:Func):Bool:= !(fn.name == "runtime.NumGoroutine") && (match fn.body with|some c=>Jm c|none=>true)
theorem kj {l:List Func} {k m:Nat} (h1:((l.drop k).take 25).all Qp=true) (h2:(l.drop m).all Qp=true) (e:m=k+25):(l.drop k).all Qp=true:=by
 rw [<-List.take_append_drop 25 (l.drop k),List.all_append,h1,List.drop_drop,<-e,h2];rfl
theorem jvy:((Tryz.prog.funcs.toList.drop 0).take 25).all Qp=true:=by kernel_rfl
theorem jvz:((Tryz.prog.funcs.toList.drop 25).take 25).all Qp=true:=by kernel_rfl
theorem jvA:((Tryz.prog.funcs.toList.drop 50).take 25).all Qp=true:=by kernel_rfl
theorem jvB:((Tryz.prog.funcs.toList.drop 75).take 25).all Qp=true:=by kernel_rfl
theorem jvC:((Tryz.prog.funcs.toList.drop 100).take 25).all Qp=true:=by kernel_rfl
theorem jvD:((Tryz.prog.funcs.toList.drop 125).take 25).all Qp=true:=by kernel_rfl
theorem jvE:((Tryz.prog.funcs.toList.drop 150).take 25).all Qp=true:=by kernel_rfl
theorem jvF:((Tryz.prog.funcs.toList.drop 175).take 25).all Qp=true:=by kernel_rfl
theorem jvG:((Tryz.prog.funcs.toList.drop 200).take 25).all Qp=true:=by kernel_rfl
theorem jvH:((Tryz.prog.funcs.toList.drop 225).take 25).all Qp=true:=by kernel_rfl
theorem jtn:((Tryz.prog.funcs.toList.drop 250).take 25).all Qp=true:=by kernel_rfl
theorem jto:((Tryz.prog.funcs.toList.drop 275).take 25).all Qp=true:=by kernel_rfl
theorem jtp:((Tryz.prog.funcs.toList.drop 300).take 25).all Qp=true:=by kernel_rfl
theorem jtq:((Tryz.prog.funcs.toList.drop 325).take 25).all Qp=true:=by kernel_rfl
theorem jtr:((Tryz.prog.funcs.toList.drop 350).take 25).all Qp=true:=by kernel_rfl
theorem jts:((Tryz.prog.funcs.toList.drop 375).take 25).all Qp=true:=by kernel_rfl
theorem jtt:((Tryz.prog.funcs.toList.drop 400).take 25).all Qp=true:=by kernel_rfl
theorem jtu:((Tryz.prog.funcs.toList.drop 425).take 25).all Qp=true:=by kernel_rfl
theorem jtv:((Tryz.prog.funcs.toList.drop 450).take 25).all Qp=true:=by kernel_rfl
theorem jtw:((Tryz.prog.funcs.toList.drop 475).take 25).all Qp=true:=by kernel_rfl
theorem jvI:(Tryz.prog.funcs.toList.drop 500).all Qp=true:=by kernel_rfl
theorem jpi:Tryz.prog.funcs.toList.all Qp=true:=(kj jvy (kj jvz (kj jvA (kj jvB (kj jvC (kj jvD (kj jvE (kj jvF (kj jvG (kj jvH (kj jtn (kj jto (kj jtp (kj jtq (kj jtr (kj jts (kj jtt (kj jtu (kj jtv (kj jtw jvI rfl) rfl) rfl) rfl) rfl) rfl) rfl) rfl) rfl) rfl) rfl) rfl) rfl) rfl) rfl) rfl) rfl) rfl) rfl) rfl)
theorem jnt {f:FuncId} {fn:Func} (h:Tryz.prog.funcs[f]? = some fn):Qp fn=true:=by
 have:=List.all_eq_true.mp jpi fn (Array.mem_toList_iff.mpr (Array.mem_of_getElem? h));exact this
theorem jh2:Sane K where
 ty:=jwn
 mixed:=by kernel_rfl
 names:=λf fn h=>by
  have:=jnt h;simp only [Qp,Bool.and_eq_true,Bool.not_eq_true'] at this;exact this.1
 lex:=λf fn c h hb=>by
  have:=jnt h;simp only [Qp,Bool.and_eq_true,hb] at this;exact this.2
end Go.Proofs.YtdbgbieenhcldaaGreat
