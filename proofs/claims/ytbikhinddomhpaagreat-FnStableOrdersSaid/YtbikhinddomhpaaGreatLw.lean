/- THE LAWS' HELPERS: sizes, copies, comparisons. -/
import Derived.Test.YtbikhinddomhpaaGreatOr
import Derived.Test.YtbikhinddomhpaaGreatQa
import Derived.Test.YtbikhinddomhpaaGreatLg
namespace Go.Proofs.YtbikhinddomhpaaGreat
open Go Go.RowKit Go.Proofs.YtbikhinddomhpaaGreat.Abs

set_option linter.unusedSimpArgs false
set_option linter.unusedVariables false
set_option maxHeartbeats 1000000

def strsSz : List (List UInt8) → Nat
  | [] => 0
  | s :: l => s.length + strsSz l

/-- What an ordering holds. -/
def osz (o : Ord') : Nat := o.syms.length + strsSz o.syms + o.ws.length

/-! ### Copies -/
/-! ### Comparisons: what is equal is found equal -/
end Go.Proofs.YtbikhinddomhpaaGreat
