/- REPEATED NUMBERS: the library's repetition of a row of one number as a call that is handed that row. (Its soundness, 'SOk', is still to be proved.) -/
import Derived.Test.YtbikhinddomhpaaGreatE21
namespace Go.Proofs.YtbikhinddomhpaaGreat.Abs
open Go Go.RowKit Go.Sort
noncomputable section

def repX : List V → List Abs.Obj → Option Out
  | [.row 0, .d (.val (.int .i64 n))], [.row 1 [[.val (.int .i64 x)]]] => if 0 ≤ n ∧ n ≤ 12 then some (.top, [.sl 1 (List.replicate n.toNat [vi x])]) else none
  | _, _ => none
def sgRep : SigA := ⟨0, [1], [.cons], [0], .row 1⟩
end
end Go.Proofs.YtbikhinddomhpaaGreat.Abs
