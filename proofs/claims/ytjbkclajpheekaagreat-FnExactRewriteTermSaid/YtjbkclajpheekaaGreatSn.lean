/- Sn -/
import Derived.Test.YtjbkclajpheekaaGreatKt
namespace Go.Proofs.YtjbkclajpheekaaGreat
open Go Go.RowKit Go.Proofs.YtjbkclajpheekaaGreat.Abs
set_option linter.unusedSimpArgs false
set_option linter.unusedVariables false
def QG (fn:Func):Bool:= !(fn.name == "runtime.NumGoroutine") && (match fn.body with|some c=>JS c|none=>true)
theorem ky {l:List Func} {k m:Nat} (h1:((l.drop k).take 25).all QG=true) (h2:(l.drop m).all QG=true) (e:m=k+25):(l.drop k).all QG=true:=by
 rw [<-jaR 25 (l.drop k),List.all_append,h1,jjO,<-e,h2];rfl
theorem jrK:((Tryz.prog.funcs.toList.drop 0).take 25).all QG=true:=by kernel_rfl
theorem jrL:((Tryz.prog.funcs.toList.drop 25).take 25).all QG=true:=by kernel_rfl
theorem jrM:((Tryz.prog.funcs.toList.drop 50).take 25).all QG=true:=by kernel_rfl
theorem jrN:((Tryz.prog.funcs.toList.drop 75).take 25).all QG=true:=by kernel_rfl
theorem jrO:((Tryz.prog.funcs.toList.drop 100).take 25).all QG=true:=by kernel_rfl
theorem jrP:((Tryz.prog.funcs.toList.drop 125).take 25).all QG=true:=by kernel_rfl
theorem jrQ:((Tryz.prog.funcs.toList.drop 150).take 25).all QG=true:=by kernel_rfl
theorem jrR:((Tryz.prog.funcs.toList.drop 175).take 25).all QG=true:=by kernel_rfl
theorem jrS:((Tryz.prog.funcs.toList.drop 200).take 25).all QG=true:=by kernel_rfl
theorem jrT:((Tryz.prog.funcs.toList.drop 225).take 25).all QG=true:=by kernel_rfl
theorem jqr:((Tryz.prog.funcs.toList.drop 250).take 25).all QG=true:=by kernel_rfl
theorem jqs:((Tryz.prog.funcs.toList.drop 275).take 25).all QG=true:=by kernel_rfl
theorem jqt:((Tryz.prog.funcs.toList.drop 300).take 25).all QG=true:=by kernel_rfl
theorem jqu:((Tryz.prog.funcs.toList.drop 325).take 25).all QG=true:=by kernel_rfl
theorem jqv:((Tryz.prog.funcs.toList.drop 350).take 25).all QG=true:=by kernel_rfl
theorem jqw:((Tryz.prog.funcs.toList.drop 375).take 25).all QG=true:=by kernel_rfl
theorem jqx:((Tryz.prog.funcs.toList.drop 400).take 25).all QG=true:=by kernel_rfl
theorem jqy:((Tryz.prog.funcs.toList.drop 425).take 25).all QG=true:=by kernel_rfl
theorem jqz:((Tryz.prog.funcs.toList.drop 450).take 25).all QG=true:=by kernel_rfl
theorem jqA:((Tryz.prog.funcs.toList.drop 475).take 25).all QG=true:=by kernel_rfl
theorem jrU:(Tryz.prog.funcs.toList.drop 500).all QG=true:=by kernel_rfl
theorem jnj:Tryz.prog.funcs.toList.all QG=true:=(ky jrK (ky jrL (ky jrM (ky jrN (ky jrO (ky jrP (ky jrQ (ky jrR (ky jrS (ky jrT (ky jqr (ky jqs (ky jqt (ky jqu (ky jqv (ky jqw (ky jqx (ky jqy (ky jqz (ky jqA jrU rfl) rfl) rfl) rfl) rfl) rfl) rfl) rfl) rfl) rfl) rfl) rfl) rfl) rfl) rfl) rfl) rfl) rfl) rfl) rfl)
theorem jlG {f:FuncId} {fn:Func} (h:Tryz.prog.funcs[f]? = some fn):QG fn=true:=by
 have:=List.all_eq_true.mp jnj fn (Array.mem_toList_iff.mpr (Array.mem_of_getElem? h));exact this
theorem jk6:Sane K where
 ty:=jss
 mixed:=by kernel_rfl
 names:=λf fn h=>by
  have:=jlG h;simp only [QG,js,KD] at this;exact this.1
 lex:=λf fn c h hb=>by
  have:=jlG h;simp only [QG,js,hb] at this;exact this.2
end Go.Proofs.YtjbkclajpheekaaGreat
