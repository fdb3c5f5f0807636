/- ORDERINGS: as data, and read. -/
import Derived.Test.YtbikhinddomhpaaGreatTr
namespace Go.Proofs.YtbikhinddomhpaaGreat
open Go Go.RowKit Go.ChangeShapes Go.Deep Go.Proofs.YtbikhinddomhpaaGreat.Abs

structure Ord' where
  syms : List (List UInt8)
  ws : List Int
  var : Int

abbrev ocells (o : Ord') : List A := [strs o.syms, ints o.ws, vi o.var]
abbrev od (o : Ord') : A := .agg [strs o.syms, ints o.ws, vi o.var]
def owf (o : Ord') : Prop := ((∀ s ∈ o.syms, s.length ≤ 9223372036854775807) ∧ o.syms.length ≤ 9223372036854775807) ∧ ((∀ x ∈ o.ws, I64 x) ∧ o.ws.length ≤ 9223372036854775807) ∧ I64 o.var

end Go.Proofs.YtbikhinddomhpaaGreat
