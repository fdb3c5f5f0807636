/- WHAT THE EQUATIONS SAY, CALLS DO (a seat with no external calls). -/
import Derived.Test.YtjclanocnkankaaSn
namespace Go.Proofs.Ytjclanocnkankaa
open Go Go.RowKit Go.Proofs.Ytjclanocnkankaa.Abs

theorem K_extv {X : Ctx} (f : FuncId) (x : List V → List Abs.Obj → Option Out) (args : List V) (objs : List Abs.Obj) (sgs : Sig) (sg : SigA) (out : Out) (h1 : K.extv f = some x) (_ : K.sig f = some sgs) (_ : altOf objs.length sgs = some sg) (_ : x args objs = some out) : SOk X K.P f args objs sg out := by
  have h1 : assocN none f extTab = some x := h1
  unfold extTab at h1
  cases h1
theorem G_ok {X : Ctx} {f : FuncId} {args : List A} {out : Out} (hs : K.pureF f = true) (h : G f args = some out) : PureOk X Try.prog f args out :=
  MM_ok K_sane (fun f x args out h => by cases h) K_extv f args out hs h
end Go.Proofs.Ytjclanocnkankaa
