/- Sn -/
import Derived.Test.YtmmnimiohoammaaGreatDoorKt
namespace Go.Proofs.YtmmnimiohoammaaGreatDoor
open Go Go.RowKit Go.Proofs.YtmmnimiohoammaaGreatDoor.Abs
set_option linter.unusedSimpArgs false
set_option linter.unusedVariables false
def K1 (fn:Func):Bool:= !(fn.name == "runtime.NumGoroutine") && (match fn.body with|some c=>JH c|none=>true)
theorem jK {l:List Func} {k m:Nat} (h1:((l.drop k).take 25).all K1=true) (h2:(l.drop m).all K1=true) (e:m=k+25):(l.drop k).all K1=true:=by
 rw [<-List.take_append_drop 25 (l.drop k),List.all_append,h1,List.drop_drop,<-e,h2];rfl
theorem jnc:((Tryz.prog.funcs.toList.drop 0).take 25).all K1=true:=by kernel_rfl
theorem jnd:((Tryz.prog.funcs.toList.drop 25).take 25).all K1=true:=by kernel_rfl
theorem jne:((Tryz.prog.funcs.toList.drop 50).take 25).all K1=true:=by kernel_rfl
theorem jnf:((Tryz.prog.funcs.toList.drop 75).take 25).all K1=true:=by kernel_rfl
theorem jng:((Tryz.prog.funcs.toList.drop 100).take 25).all K1=true:=by kernel_rfl
theorem jnh:((Tryz.prog.funcs.toList.drop 125).take 25).all K1=true:=by kernel_rfl
theorem jni:((Tryz.prog.funcs.toList.drop 150).take 25).all K1=true:=by kernel_rfl
theorem jnj:((Tryz.prog.funcs.toList.drop 175).take 25).all K1=true:=by kernel_rfl
theorem jnk:((Tryz.prog.funcs.toList.drop 200).take 25).all K1=true:=by kernel_rfl
theorem jnl:((Tryz.prog.funcs.toList.drop 225).take 25).all K1=true:=by kernel_rfl
theorem jlQ:((Tryz.prog.funcs.toList.drop 250).take 25).all K1=true:=by kernel_rfl
theorem jlR:((Tryz.prog.funcs.toList.drop 275).take 25).all K1=true:=by kernel_rfl
theorem jlS:((Tryz.prog.funcs.toList.drop 300).take 25).all K1=true:=by kernel_rfl
theorem jlT:((Tryz.prog.funcs.toList.drop 325).take 25).all K1=true:=by kernel_rfl
theorem jlU:((Tryz.prog.funcs.toList.drop 350).take 25).all K1=true:=by kernel_rfl
theorem jlV:((Tryz.prog.funcs.toList.drop 375).take 25).all K1=true:=by kernel_rfl
theorem jlW:((Tryz.prog.funcs.toList.drop 400).take 25).all K1=true:=by kernel_rfl
theorem jlX:((Tryz.prog.funcs.toList.drop 425).take 25).all K1=true:=by kernel_rfl
theorem jlY:((Tryz.prog.funcs.toList.drop 450).take 25).all K1=true:=by kernel_rfl
theorem jlZ:((Tryz.prog.funcs.toList.drop 475).take 25).all K1=true:=by kernel_rfl
theorem jnm:(Tryz.prog.funcs.toList.drop 500).all K1=true:=by kernel_rfl
theorem jii:Tryz.prog.funcs.toList.all K1=true:=(jK jnc (jK jnd (jK jne (jK jnf (jK jng (jK jnh (jK jni (jK jnj (jK jnk (jK jnl (jK jlQ (jK jlR (jK jlS (jK jlT (jK jlU (jK jlV (jK jlW (jK jlX (jK jlY (jK jlZ jnm rfl) rfl) rfl) rfl) rfl) rfl) rfl) rfl) rfl) rfl) rfl) rfl) rfl) rfl) rfl) rfl) rfl) rfl) rfl) rfl)
theorem jgS {f:FuncId} {fn:Func} (h:Tryz.prog.funcs[f]? = some fn):K1 fn=true:=by
 have:=List.all_eq_true.mp jii fn (Array.mem_toList_iff.mpr (Array.mem_of_getElem? h));exact this
theorem jde:Sane K where
 ty:=jnT
 mixed:=by kernel_rfl
 names:=λf fn h=>by
  have:=jgS h;simp only [K1,Bool.and_eq_true,Bool.not_eq_true'] at this;exact this.1
 lex:=λf fn c h hb=>by
  have:=jgS h;simp only [K1,Bool.and_eq_true,hb] at this;exact this.2
end Go.Proofs.YtmmnimiohoammaaGreatDoor
