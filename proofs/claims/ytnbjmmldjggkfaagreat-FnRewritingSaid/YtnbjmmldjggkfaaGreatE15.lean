import Derived.Test.YtnbjmmldjggkfaaGreatE14
namespace Go.Proofs.YtnbjmmldjggkfaaGreat.Abs
open Go Go.RowKit
noncomputable section
def assocN {α : Type} (d : α) (x : Nat) : List (Nat × α) → α
  | [] => d
  | (y, a) :: l => bif Nat.beq x y then a else assocN d x l
def assocP (p : List Nat) : List (List Nat × Nat) → Nat
  | [] => 0
  | (q, m) :: l => bif eqP p q then m else assocP p l
def kpOf (tab : List (Nat × List (List Nat × Nat))) (f : FuncId) (p : List Nat) : Nat := assocP p (assocN [] f tab)

theorem MM_call {C : Cfg} {f : FuncId} {fn : Func} {c : Code} {args : List A} (h1 : C.ext f = none) (h2 : C.pureF f = true) (h3 : C.P.funcs[f]? = some fn) (h4 : fn.body = some c) (h5 : Nat.ble args.length fn.ntmps = true) :
    MM C (.call f args) = evC C (MM C) f c [] (startP fn args) (endF C f fn) := by
  rw [MM_eq]; simp only [step, h1, h2, h3, h4, h5, brn, if_true]
theorem MM_callv {C : Cfg} {f : FuncId} {fn : Func} {c : Code} {args : List V} {objs : List Obj} (h1 : C.extv f = none) (h3 : C.P.funcs[f]? = some fn) (h4 : fn.body = some c) (h5 : Nat.ble args.length fn.ntmps = true) :
    MM C (.callv f args objs) = evC C (MM C) f c [] (startS fn args objs) (endF C f fn) := by
  rw [MM_eq]; simp only [step, h1, h3, h4, h5, brn, if_true]
theorem MM_extv {C : Cfg} {f : FuncId} {args : List V} {objs : List Obj} {x : ExtV} (h1 : C.extv f = some x) : MM C (.callv f args objs) = extRun C (MM C) x args objs := by
  rw [MM_eq]; simp only [step, h1]
theorem MM_head {C : Cfg} {f : FuncId} {fn : Func} {c : Code} {p : List Nat} {fr : List V} {objs : List Obj} {sh : Option (List Nat)} (h3 : C.P.funcs[f]? = some fn) (h4 : fn.body = some c) :
    MM C (.head f p fr objs sh) = evAt C (MM C) f c p [] (St.of fn.ntmps fr objs sh) (endF C f fn) := by
  rw [MM_eq]; simp only [step, h3, h4]
end
end Go.Proofs.YtnbjmmldjggkfaaGreat.Abs
