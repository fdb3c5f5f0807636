/- Sn -/
import Derived.Test.YteoaojbmnibpcaaGreatDoorKt
namespace Go.Proofs.YteoaojbmnibpcaaGreatDoor
open Go Go.RowKit Go.Proofs.YteoaojbmnibpcaaGreatDoor.Abs
set_option linter.unusedSimpArgs false
set_option linter.unusedVariables false
def QT(fn:Func):Bool:= !(fn.name == "runtime.NumGoroutine") && (match fn.body with|some c=>Jp c|none=>true)
theorem km{l:List Func}{k m:Nat}(h1:((l.drop k).take 25).all QT=true)(h2:(l.drop m).all QT=true)(e:m=k+25):(l.drop k).all QT=true:=by
 rw[<-List.take_append_drop 25 (l.drop k),List.all_append,h1,List.drop_drop,<-e,h2];rfl
theorem jvL:((Tryz.prog.funcs.toList.drop 0).take 25).all QT=true:=by kernel_rfl
theorem jvM:((Tryz.prog.funcs.toList.drop 25).take 25).all QT=true:=by kernel_rfl
theorem jvN:((Tryz.prog.funcs.toList.drop 50).take 25).all QT=true:=by kernel_rfl
theorem jvO:((Tryz.prog.funcs.toList.drop 75).take 25).all QT=true:=by kernel_rfl
theorem jvP:((Tryz.prog.funcs.toList.drop 100).take 25).all QT=true:=by kernel_rfl
theorem jvQ:((Tryz.prog.funcs.toList.drop 125).take 25).all QT=true:=by kernel_rfl
theorem jvR:((Tryz.prog.funcs.toList.drop 150).take 25).all QT=true:=by kernel_rfl
theorem jvS:((Tryz.prog.funcs.toList.drop 175).take 25).all QT=true:=by kernel_rfl
theorem jvT:((Tryz.prog.funcs.toList.drop 200).take 25).all QT=true:=by kernel_rfl
theorem jvU:((Tryz.prog.funcs.toList.drop 225).take 25).all QT=true:=by kernel_rfl
theorem jtP:((Tryz.prog.funcs.toList.drop 250).take 25).all QT=true:=by kernel_rfl
theorem jtQ:((Tryz.prog.funcs.toList.drop 275).take 25).all QT=true:=by kernel_rfl
theorem jtR:((Tryz.prog.funcs.toList.drop 300).take 25).all QT=true:=by kernel_rfl
theorem jtS:((Tryz.prog.funcs.toList.drop 325).take 25).all QT=true:=by kernel_rfl
theorem jtT:((Tryz.prog.funcs.toList.drop 350).take 25).all QT=true:=by kernel_rfl
theorem jtU:((Tryz.prog.funcs.toList.drop 375).take 25).all QT=true:=by kernel_rfl
theorem jtV:((Tryz.prog.funcs.toList.drop 400).take 25).all QT=true:=by kernel_rfl
theorem jtW:((Tryz.prog.funcs.toList.drop 425).take 25).all QT=true:=by kernel_rfl
theorem jtX:((Tryz.prog.funcs.toList.drop 450).take 25).all QT=true:=by kernel_rfl
theorem jtY:((Tryz.prog.funcs.toList.drop 475).take 25).all QT=true:=by kernel_rfl
theorem jvV:(Tryz.prog.funcs.toList.drop 500).all QT=true:=by kernel_rfl
theorem jpT:Tryz.prog.funcs.toList.all QT=true:=(km jvL (km jvM (km jvN (km jvO (km jvP (km jvQ (km jvR (km jvS (km jvT (km jvU (km jtP (km jtQ (km jtR (km jtS (km jtT (km jtU (km jtV (km jtW (km jtX (km jtY jvV rfl) rfl) rfl) rfl) rfl) rfl) rfl) rfl) rfl) rfl) rfl) rfl) rfl) rfl) rfl) rfl) rfl) rfl) rfl) rfl)
theorem jnX{f:FuncId}{fn:Func}(h:Tryz.prog.funcs[f]? = some fn):QT fn=true:=by
 have:=List.all_eq_true.mp jpT fn (Array.mem_toList_iff.mpr (Array.mem_of_getElem? h));exact this
theorem QW:Sane K where
 ty:=jxe
 mixed:=by kernel_rfl
 names:=λf fn h=>by
  have:=jnX h;simp only[QT,Bool.and_eq_true,Bool.not_eq_true']at this;exact this.1
 lex:=λf fn c h hb=>by
  have:=jnX h;simp only[QT,Bool.and_eq_true,hb]at this;exact this.2
end Go.Proofs.YteoaojbmnibpcaaGreatDoor
