/- READERS OF ARGUMENTS; what the frames of the laws share. -/
import Derived.Test.YtgedhnhgkmhgcaaLb
import Derived.Test.YtgedhnhgkmhgcaaRows
import Derived.ProofKit
import Derived.SizedLaws
import Derived.Lib.RowBridge
namespace Go.Proofs.Ytgedhnhgkmhgcaa
open Go Go.ChangeShapes Go.WideShapes Go.ChangeAt Go.RowKit Go.Proofs.Ytgedhnhgkmhgcaa.Abs

theorem Try.ownK : ownKnob Try.prog.godebug = none := by kernel_rfl
theorem Try.laid : laidOutB Try.prog = true := by kernel_rfl

theorem rd_int : Rd Try.prog 3 (fun n : Int => [A.val (.int .i64 n)]) I64 := Rd.int Try.underlying3
theorem rd_ints : Rd Try.prog 30 (fun xs : List Int => [ints xs]) (fun xs => (∀ x ∈ xs, I64 x) ∧ xs.length ≤ 9223372036854775807) :=
  Rd.slice Try.underlying30 (by kernel_rfl) (by decide) (fun _ => rfl) rd_int
theorem rd_intss : Rd Try.prog 22 (fun xss : List (List Int) => [intss xss]) (fun xss => (∀ xs ∈ xss, (∀ x ∈ xs, I64 x) ∧ xs.length ≤ 9223372036854775807) ∧ xss.length ≤ 9223372036854775807) :=
  Rd.slice Try.underlying22 (by kernel_rfl) (by decide) (fun _ => rfl) rd_ints
end Go.Proofs.Ytgedhnhgkmhgcaa
