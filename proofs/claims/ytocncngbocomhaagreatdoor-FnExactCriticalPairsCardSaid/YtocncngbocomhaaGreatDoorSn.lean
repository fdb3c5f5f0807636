/- Sn -/
import Derived.Test.YtocncngbocomhaaGreatDoorKt
namespace Go.Proofs.YtocncngbocomhaaGreatDoor
open Go Go.RowKit Go.Proofs.YtocncngbocomhaaGreatDoor.Abs
set_option linter.unusedSimpArgs false
set_option linter.unusedVariables false
def KR(fn:Func):Bool:= !(fn.name == "runtime.NumGoroutine") && (match fn.body with|some c=>yJ c|none=>true)
theorem jM{l:List Func}{k m:Nat}(h1:((l.drop k).take 25).all KR=true)(h2:(l.drop m).all KR=true)(e:m=k+25):(l.drop k).all KR=true:=by
 rw[<-jbH 25 (l.drop k),List.all_append,h1,List.drop_drop,<-e,h2];rfl
theorem jhz:((Tryz.prog.funcs.toList.drop 0).take 25).all KR=true:=by kernel_rfl
theorem jhA:((Tryz.prog.funcs.toList.drop 25).take 25).all KR=true:=by kernel_rfl
theorem jhB:((Tryz.prog.funcs.toList.drop 50).take 25).all KR=true:=by kernel_rfl
theorem jhC:((Tryz.prog.funcs.toList.drop 75).take 25).all KR=true:=by kernel_rfl
theorem jhD:((Tryz.prog.funcs.toList.drop 100).take 25).all KR=true:=by kernel_rfl
theorem jhE:((Tryz.prog.funcs.toList.drop 125).take 25).all KR=true:=by kernel_rfl
theorem jhF:((Tryz.prog.funcs.toList.drop 150).take 25).all KR=true:=by kernel_rfl
theorem jhG:((Tryz.prog.funcs.toList.drop 175).take 25).all KR=true:=by kernel_rfl
theorem jhH:((Tryz.prog.funcs.toList.drop 200).take 25).all KR=true:=by kernel_rfl
theorem jhI:((Tryz.prog.funcs.toList.drop 225).take 25).all KR=true:=by kernel_rfl
theorem jgG:((Tryz.prog.funcs.toList.drop 250).take 25).all KR=true:=by kernel_rfl
theorem jgH:((Tryz.prog.funcs.toList.drop 275).take 25).all KR=true:=by kernel_rfl
theorem jgI:((Tryz.prog.funcs.toList.drop 300).take 25).all KR=true:=by kernel_rfl
theorem jgJ:((Tryz.prog.funcs.toList.drop 325).take 25).all KR=true:=by kernel_rfl
theorem jgK:((Tryz.prog.funcs.toList.drop 350).take 25).all KR=true:=by kernel_rfl
theorem jgL:((Tryz.prog.funcs.toList.drop 375).take 25).all KR=true:=by kernel_rfl
theorem jgM:((Tryz.prog.funcs.toList.drop 400).take 25).all KR=true:=by kernel_rfl
theorem jgN:((Tryz.prog.funcs.toList.drop 425).take 25).all KR=true:=by kernel_rfl
theorem jgO:((Tryz.prog.funcs.toList.drop 450).take 25).all KR=true:=by kernel_rfl
theorem jgP:((Tryz.prog.funcs.toList.drop 475).take 25).all KR=true:=by kernel_rfl
theorem jhJ:(Tryz.prog.funcs.toList.drop 500).all KR=true:=by kernel_rfl
theorem jeY:Tryz.prog.funcs.toList.all KR=true:=(jM jhz (jM jhA (jM jhB (jM jhC (jM jhD (jM jhE (jM jhF (jM jhG (jM jhH (jM jhI (jM jgG (jM jgH (jM jgI (jM jgJ (jM jgK (jM jgL (jM jgM (jM jgN (jM jgO (jM jgP jhJ rfl) rfl) rfl) rfl) rfl) rfl) rfl) rfl) rfl) rfl) rfl) rfl) rfl) rfl) rfl) rfl) rfl) rfl) rfl) rfl)
theorem jd9{f:FuncId}{fn:Func}(h:Tryz.prog.funcs[f]? = some fn):KR fn=true:=by
 have:=List.all_eq_true.mp jeY fn (Array.mem_toList_iff.mpr (Array.mem_of_getElem? h));exact this
theorem jhw:Sane K where
 ty:=jhZ
 mixed:=by kernel_rfl
 names:=λf fn h=>by
  have:=jd9 h;simp only[KR,QR,yR]at this;exact this.1
 lex:=λf fn c h hb=>by
  have:=jd9 h;simp only[KR,QR,hb]at this;exact this.2
end Go.Proofs.YtocncngbocomhaaGreatDoor
