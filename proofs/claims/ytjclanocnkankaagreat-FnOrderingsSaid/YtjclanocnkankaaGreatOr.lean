/- ORDERINGS: as data, and read. -/
import Derived.Test.YtjclanocnkankaaGreatTr
namespace Go.Proofs.YtjclanocnkankaaGreat
open Go Go.RowKit Go.ChangeShapes Go.Deep Go.Proofs.YtjclanocnkankaaGreat.Abs

structure Ord' where
  syms : List (List UInt8)
  ws : List Int
  var : Int

abbrev ocells (o : Ord') : List A := [strs o.syms, ints o.ws, vi o.var]
abbrev od (o : Ord') : A := .agg [strs o.syms, ints o.ws, vi o.var]
def owf (o : Ord') : Prop := ((∀ s ∈ o.syms, s.length ≤ 9223372036854775807) ∧ o.syms.length ≤ 9223372036854775807) ∧ ((∀ x ∈ o.ws, I64 x) ∧ o.ws.length ≤ 9223372036854775807) ∧ I64 o.var

theorem rd_ord : Rdr Tryz.prog 25 ocells owf := fun _ _ _ _ _ _ fuel cs x h => by
  obtain ⟨a, b, d, h1, h2, h3, h4, h5⟩ := struct_of3 (k0 := 1) (k1 := 1) (k2 := 1) Tryz.underlying25 rfl rfl rfl (by kernel_rfl) (by kernel_rfl) (by kernel_rfl) (by kernel_rfl)
    (fun _ _ _ _ h => rd_strs _ _ _ _ _ _ _ _ _ h) (fun _ _ _ _ h => rd_ints _ _ _ _ _ _ _ _ _ h) (fun _ _ _ _ h => rd_int _ _ _ _ _ _ _ _ _ h) h
  exact ⟨⟨a, b, d⟩, ⟨h1, h2, h3⟩, h4, h5⟩
end Go.Proofs.YtjclanocnkankaaGreat
