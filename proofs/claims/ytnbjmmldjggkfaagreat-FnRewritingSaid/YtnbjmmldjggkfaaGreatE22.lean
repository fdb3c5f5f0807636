/- SORTED BY A FUNCTION: the library's sort of a row of structs by a function that looks alone, as a call that is handed the row. -/
import Derived.Test.YtnbjmmldjggkfaaGreatE21
import Derived.Sort.AssemblyPlain
import Derived.Lib.BitFns
namespace Go.Proofs.YtnbjmmldjggkfaaGreat.Abs
open Go Go.RowKit Go.Sort
noncomputable section

/-- The comparisons that are asked for: all elements with all. -/
def sfAsk : List V → List Abs.Obj → Option (List (FuncId × List A))
  | [.row 0, .fn g caps], [.row _ xs] => (datL caps).map fun cs => xs.flatMap fun x => xs.map fun y => (g, [A.agg x, A.agg y] ++ cs)
  | _, _ => none
def outI : Out → Option Int
  | (.val (.int .i64 c), []) => some c
  | _ => none
def outsI : List Out → Option (List Int)
  | [] => some []
  | o :: os => (match outI o, outsI os with | some c, some l => some (c :: l) | _, _ => none)
/-- Less, by a comparison. -/
def ltO {α : Type} (cf : α → α → Int) (x y : α) : Bool := decide (cf x y < 0)
/-- The comparison of elements by their numbers. -/
def cmpT (N : Nat) (cs : List Int) (i j : _root_.Fin N) : Int := cs.getD (i.val * N + j.val) 0
open Classical in
def sfRow (k : Nat) (xs : List (List A)) (cs : List Int) : Option Out :=
  match xs with
  | [] => some (.top, [.sl k []])
  | x :: r => if SWO (ltO (cmpT (r.length + 1) cs)) ∧ r.length + 1 < 4611686018427387904 then
      some (.top, [.sl k ((pdq (ltO (cmpT (r.length + 1) cs)) (Array.ofFn (n := r.length + 1) id) 0 (r.length + 1) (Lib.bitLen (r.length + 1)) true true).toList.map fun i => (x :: r).getD i.val [])]) else none
def sfAns (k0 : Nat) : List V → List Abs.Obj → List Out → Option Out
  | [.row 0, .fn _ _], [.row k xs], outs => if Nat.beq k k0 then (outsI outs).bind fun cs => sfRow k xs cs else none
  | _, _, _ => none
/-- The sort of a row of structs of k cells by a function. -/
def sfE (k : Nat) : ExtV := ⟨sfAsk, sfAns k⟩
def sgSF (k : Nat) : SigA := ⟨0, [k], [.io 0], [], .tup []⟩

end
end Go.Proofs.YtnbjmmldjggkfaaGreat.Abs
