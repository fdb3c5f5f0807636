/- THE PROGRAM, once and for all: types, names, orders. -/
import Derived.Test.YtnbjmmldjggkfaaGreatK
namespace Go.Proofs.YtnbjmmldjggkfaaGreat
open Go Go.RowKit Go.Proofs.YtnbjmmldjggkfaaGreat.Abs

def fnB (fn : Func) : Bool := !(fn.name == "runtime.NumGoroutine") && (match fn.body with | some c => lexC c | none => true)
theorem all_fnB : Tryz.prog.funcs.toList.all fnB = true := by kernel_rfl
theorem fnB_of {f : FuncId} {fn : Func} (h : Tryz.prog.funcs[f]? = some fn) : fnB fn = true := by
  have := List.all_eq_true.mp all_fnB fn (Array.mem_toList_iff.mpr (Array.mem_of_getElem? h))
  exact this
theorem K_sane : Sane K where
  ty := tyok
  mixed := by kernel_rfl
  names := fun f fn h => by
    have := fnB_of h
    simp only [fnB, Bool.and_eq_true, Bool.not_eq_true'] at this
    exact this.1
  lex := fun f fn c h hb => by
    have := fnB_of h
    simp only [fnB, Bool.and_eq_true, hb] at this
    exact this.2
end Go.Proofs.YtnbjmmldjggkfaaGreat
