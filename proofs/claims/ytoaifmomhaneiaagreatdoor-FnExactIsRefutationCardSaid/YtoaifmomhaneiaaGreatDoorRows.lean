/-
  NARROWER THAN 'FOR EVERY INPUT', by the rows' own cells (each row's printed sentence says how): FnExactIsCorrectStep: loops, laid · FnExactIsValidProof: loops, laid · FnExactIsRefutation: loops, laid · FnExactFirstIncorrect: loops, laid · FnExactProofDepth: loops, laid · FnExactIsValidSearch: loops, laid · FnExactAncestors: loops, laid · FnExactSelectGiven: loops, laid · FnExactAxiomsUsed: loops, laid.
  DERIVED. THE GIVEN ROWS OF THIS SEAT. 9 by the template 'for every input the law returns true; each argument reads behind the call as it read before'; 0 by the template 'total and deterministic' (their statements: YtoaifmomhaneiaaGreatDoorTotals.lean).
  GIVEN WITH THE SEED: the statements are not yours to turn. If you find one false, say at which input.
  Laid BY PROGRAM, IN A SANDBOX (cutbox-rows.mjs): the forced cells as the released guide's own fill.sh prints them over the translation a0438b543dc288d2… (all of the seat's roots in one cut). By AI agents, Wed Nov 11 2026. No macro, syntax, notation, axiom, sorry.
-/
import Derived.Test.YtoaifmomhaneiaaGreatDoorChecked
import GoSem.Claim
import GoSem.ClaimJoined
import GoSem.ClaimMapViews
import Derived.JoinedTies
import Derived.KernelRfl
namespace Go.Proofs.YtoaifmomhaneiaaGreatDoor
/- THE CELL 'sum', in the pinned program and in every row, IS THE sha256 OF THE DUMP (.gsa) THAT YtoaifmomhaneiaaGreatDoorProg.lean LOADS. Nothing in Lean hashes anything: it is a label: what it is worth is what the hold of that sum in a sandbox is worth. -/
noncomputable def Tryz.pinned : Pinned := { name := "ytoaifmomhaneiaagreatdoor", sum := "a0438b543dc288d2cbd471f6c4a48c0abdef5f160f443053ed15a12b8f380f4d", checked := Tryz.checked }
namespace Rows
def none {H : Type} : Left H := { results := [], args := [] }

/- WHAT THE LISTED PACKAGE-LEVEL VARIABLES READ AS WHEN THE CALL BEGINS. Each datum BY PROGRAM (the guide's laid-datum.mjs) off the statement by which the dump's own 'gosem.cut.vars' lays the variable. In a bare row this is a premise. The card (YtoaifmomhaneiaaGreatDoorCards.lean) ties it to the program's text. -/
def laid_math_bits_deBruijn32tab {H : Type} : DataW H := .agg [.lit (.int .u8 0), .lit (.int .u8 1), .lit (.int .u8 28), .lit (.int .u8 2), .lit (.int .u8 29), .lit (.int .u8 14), .lit (.int .u8 24), .lit (.int .u8 3), .lit (.int .u8 30), .lit (.int .u8 22), .lit (.int .u8 20), .lit (.int .u8 15), .lit (.int .u8 25), .lit (.int .u8 17), .lit (.int .u8 4), .lit (.int .u8 8), .lit (.int .u8 31), .lit (.int .u8 27), .lit (.int .u8 13), .lit (.int .u8 23), .lit (.int .u8 21), .lit (.int .u8 19), .lit (.int .u8 16), .lit (.int .u8 7), .lit (.int .u8 26), .lit (.int .u8 12), .lit (.int .u8 18), .lit (.int .u8 6), .lit (.int .u8 11), .lit (.int .u8 5), .lit (.int .u8 10), .lit (.int .u8 9)]
def laid_math_bits_deBruijn64tab {H : Type} : DataW H := .agg [.lit (.int .u8 0), .lit (.int .u8 1), .lit (.int .u8 56), .lit (.int .u8 2), .lit (.int .u8 57), .lit (.int .u8 49), .lit (.int .u8 28), .lit (.int .u8 3), .lit (.int .u8 61), .lit (.int .u8 58), .lit (.int .u8 42), .lit (.int .u8 50), .lit (.int .u8 38), .lit (.int .u8 29), .lit (.int .u8 17), .lit (.int .u8 4), .lit (.int .u8 62), .lit (.int .u8 47), .lit (.int .u8 59), .lit (.int .u8 36), .lit (.int .u8 45), .lit (.int .u8 43), .lit (.int .u8 51), .lit (.int .u8 22), .lit (.int .u8 53), .lit (.int .u8 39), .lit (.int .u8 33), .lit (.int .u8 30), .lit (.int .u8 24), .lit (.int .u8 18), .lit (.int .u8 12), .lit (.int .u8 5), .lit (.int .u8 63), .lit (.int .u8 55), .lit (.int .u8 48), .lit (.int .u8 27), .lit (.int .u8 60), .lit (.int .u8 41), .lit (.int .u8 37), .lit (.int .u8 16), .lit (.int .u8 46), .lit (.int .u8 35), .lit (.int .u8 44), .lit (.int .u8 21), .lit (.int .u8 52), .lit (.int .u8 32), .lit (.int .u8 23), .lit (.int .u8 11), .lit (.int .u8 54), .lit (.int .u8 26), .lit (.int .u8 40), .lit (.int .u8 15), .lit (.int .u8 34), .lit (.int .u8 20), .lit (.int .u8 31), .lit (.int .u8 10), .lit (.int .u8 25), .lit (.int .u8 14), .lit (.int .u8 19), .lit (.int .u8 9), .lit (.int .u8 13), .lit (.int .u8 8), .lit (.int .u8 7), .lit (.int .u8 6)]
def laid_internal_strconv_uint64pow10 {H : Type} : DataW H := .agg [.lit (.int .u64 1), .lit (.int .u64 10), .lit (.int .u64 100), .lit (.int .u64 1000), .lit (.int .u64 10000), .lit (.int .u64 100000), .lit (.int .u64 1000000), .lit (.int .u64 10000000), .lit (.int .u64 100000000), .lit (.int .u64 1000000000), .lit (.int .u64 10000000000), .lit (.int .u64 100000000000), .lit (.int .u64 1000000000000), .lit (.int .u64 10000000000000), .lit (.int .u64 100000000000000), .lit (.int .u64 1000000000000000), .lit (.int .u64 10000000000000000), .lit (.int .u64 100000000000000000), .lit (.int .u64 1000000000000000000), .lit (.int .u64 10000000000000000000)]

/-- 'laws.FnExactIsCorrectStep': WHATEVER THE INPUT: true; the input reads as it did. -/
def fnExactIsCorrectStepSpec : ChangeSpec := { name := "fnExactIsCorrectStep", fn := fun _ => fun
  | [d1, d2] => { results := [.lit (.bool true)], args := [d1, d2] }
  | _ => none }
def fnExactIsCorrectStepRow : OpenClaim := { program := "ytoaifmomhaneiaagreatdoor", sum := "a0438b543dc288d2cbd471f6c4a48c0abdef5f160f443053ed15a12b8f380f4d", func := "loop.example/g00892/laws.FnExactIsCorrectStep", spec := "fnExactIsCorrectStep", unfollowed := true, recurses := true, named := ["internal/strconv.uint64pow10", "math/bits.deBruijn32tab", "math/bits.deBruijn64tab"], loops := true, apart := false, laid := [("math/bits.deBruijn32tab", laid_math_bits_deBruijn32tab), ("math/bits.deBruijn64tab", laid_math_bits_deBruijn64tab), ("internal/strconv.uint64pow10", laid_internal_strconv_uint64pow10)] }
def FnExactIsCorrectStepSaid : Prop := fnExactIsCorrectStepRow.holds Tryz.pinned (OpenSpec.ofChange fnExactIsCorrectStepSpec)

/-- ITS FALSE NEIGHBOUR: 'it returns false'. Refute it at one input. -/
def fnExactIsCorrectStepWrong : ChangeSpec := { name := "fnExactIsCorrectStep", fn := fun _ => fun
  | [d1, d2] => { results := [.lit (.bool false)], args := [d1, d2] }
  | _ => none }
def FnExactIsCorrectStepWrongFalsely : Prop := fnExactIsCorrectStepRow.holds Tryz.pinned (OpenSpec.ofChange fnExactIsCorrectStepWrong)

/-- 'laws.FnExactIsValidProof': WHATEVER THE INPUT: true; the input reads as it did. -/
def fnExactIsValidProofSpec : ChangeSpec := { name := "fnExactIsValidProof", fn := fun _ => fun
  | [d] => { results := [.lit (.bool true)], args := [d] }
  | _ => none }
def fnExactIsValidProofRow : OpenClaim := { program := "ytoaifmomhaneiaagreatdoor", sum := "a0438b543dc288d2cbd471f6c4a48c0abdef5f160f443053ed15a12b8f380f4d", func := "loop.example/g00892/laws.FnExactIsValidProof", spec := "fnExactIsValidProof", unfollowed := true, recurses := true, named := ["internal/strconv.uint64pow10", "math/bits.deBruijn32tab", "math/bits.deBruijn64tab"], loops := true, apart := false, laid := [("math/bits.deBruijn32tab", laid_math_bits_deBruijn32tab), ("math/bits.deBruijn64tab", laid_math_bits_deBruijn64tab), ("internal/strconv.uint64pow10", laid_internal_strconv_uint64pow10)] }
def FnExactIsValidProofSaid : Prop := fnExactIsValidProofRow.holds Tryz.pinned (OpenSpec.ofChange fnExactIsValidProofSpec)

/-- ITS FALSE NEIGHBOUR: 'it returns false'. Refute it at one input. -/
def fnExactIsValidProofWrong : ChangeSpec := { name := "fnExactIsValidProof", fn := fun _ => fun
  | [d] => { results := [.lit (.bool false)], args := [d] }
  | _ => none }
def FnExactIsValidProofWrongFalsely : Prop := fnExactIsValidProofRow.holds Tryz.pinned (OpenSpec.ofChange fnExactIsValidProofWrong)

/-- 'laws.FnExactIsRefutation': WHATEVER THE INPUT: true; the input reads as it did. -/
def fnExactIsRefutationSpec : ChangeSpec := { name := "fnExactIsRefutation", fn := fun _ => fun
  | [d] => { results := [.lit (.bool true)], args := [d] }
  | _ => none }
def fnExactIsRefutationRow : OpenClaim := { program := "ytoaifmomhaneiaagreatdoor", sum := "a0438b543dc288d2cbd471f6c4a48c0abdef5f160f443053ed15a12b8f380f4d", func := "loop.example/g00892/laws.FnExactIsRefutation", spec := "fnExactIsRefutation", unfollowed := true, recurses := true, named := ["internal/strconv.uint64pow10", "math/bits.deBruijn32tab", "math/bits.deBruijn64tab"], loops := true, apart := false, laid := [("math/bits.deBruijn32tab", laid_math_bits_deBruijn32tab), ("math/bits.deBruijn64tab", laid_math_bits_deBruijn64tab), ("internal/strconv.uint64pow10", laid_internal_strconv_uint64pow10)] }
def FnExactIsRefutationSaid : Prop := fnExactIsRefutationRow.holds Tryz.pinned (OpenSpec.ofChange fnExactIsRefutationSpec)

/-- ITS FALSE NEIGHBOUR: 'it returns false'. Refute it at one input. -/
def fnExactIsRefutationWrong : ChangeSpec := { name := "fnExactIsRefutation", fn := fun _ => fun
  | [d] => { results := [.lit (.bool false)], args := [d] }
  | _ => none }
def FnExactIsRefutationWrongFalsely : Prop := fnExactIsRefutationRow.holds Tryz.pinned (OpenSpec.ofChange fnExactIsRefutationWrong)

/-- 'laws.FnExactFirstIncorrect': WHATEVER THE INPUT: true; the input reads as it did. -/
def fnExactFirstIncorrectSpec : ChangeSpec := { name := "fnExactFirstIncorrect", fn := fun _ => fun
  | [d] => { results := [.lit (.bool true)], args := [d] }
  | _ => none }
def fnExactFirstIncorrectRow : OpenClaim := { program := "ytoaifmomhaneiaagreatdoor", sum := "a0438b543dc288d2cbd471f6c4a48c0abdef5f160f443053ed15a12b8f380f4d", func := "loop.example/g00892/laws.FnExactFirstIncorrect", spec := "fnExactFirstIncorrect", unfollowed := true, recurses := true, named := ["internal/strconv.uint64pow10", "math/bits.deBruijn32tab", "math/bits.deBruijn64tab"], loops := true, apart := false, laid := [("math/bits.deBruijn32tab", laid_math_bits_deBruijn32tab), ("math/bits.deBruijn64tab", laid_math_bits_deBruijn64tab), ("internal/strconv.uint64pow10", laid_internal_strconv_uint64pow10)] }
def FnExactFirstIncorrectSaid : Prop := fnExactFirstIncorrectRow.holds Tryz.pinned (OpenSpec.ofChange fnExactFirstIncorrectSpec)

/-- ITS FALSE NEIGHBOUR: 'it returns false'. Refute it at one input. -/
def fnExactFirstIncorrectWrong : ChangeSpec := { name := "fnExactFirstIncorrect", fn := fun _ => fun
  | [d] => { results := [.lit (.bool false)], args := [d] }
  | _ => none }
def FnExactFirstIncorrectWrongFalsely : Prop := fnExactFirstIncorrectRow.holds Tryz.pinned (OpenSpec.ofChange fnExactFirstIncorrectWrong)

/-- 'laws.FnExactProofDepth': WHATEVER THE INPUT: true; the input reads as it did. -/
def fnExactProofDepthSpec : ChangeSpec := { name := "fnExactProofDepth", fn := fun _ => fun
  | [d1, d2] => { results := [.lit (.bool true)], args := [d1, d2] }
  | _ => none }
def fnExactProofDepthRow : OpenClaim := { program := "ytoaifmomhaneiaagreatdoor", sum := "a0438b543dc288d2cbd471f6c4a48c0abdef5f160f443053ed15a12b8f380f4d", func := "loop.example/g00892/laws.FnExactProofDepth", spec := "fnExactProofDepth", unfollowed := true, recurses := true, named := ["internal/strconv.uint64pow10", "math/bits.deBruijn32tab", "math/bits.deBruijn64tab"], loops := true, apart := false, laid := [("math/bits.deBruijn32tab", laid_math_bits_deBruijn32tab), ("math/bits.deBruijn64tab", laid_math_bits_deBruijn64tab), ("internal/strconv.uint64pow10", laid_internal_strconv_uint64pow10)] }
def FnExactProofDepthSaid : Prop := fnExactProofDepthRow.holds Tryz.pinned (OpenSpec.ofChange fnExactProofDepthSpec)

/-- ITS FALSE NEIGHBOUR: 'it returns false'. Refute it at one input. -/
def fnExactProofDepthWrong : ChangeSpec := { name := "fnExactProofDepth", fn := fun _ => fun
  | [d1, d2] => { results := [.lit (.bool false)], args := [d1, d2] }
  | _ => none }
def FnExactProofDepthWrongFalsely : Prop := fnExactProofDepthRow.holds Tryz.pinned (OpenSpec.ofChange fnExactProofDepthWrong)

/-- 'laws.FnExactIsValidSearch': WHATEVER THE INPUT: true; the input reads as it did. -/
def fnExactIsValidSearchSpec : ChangeSpec := { name := "fnExactIsValidSearch", fn := fun _ => fun
  | [d] => { results := [.lit (.bool true)], args := [d] }
  | _ => none }
def fnExactIsValidSearchRow : OpenClaim := { program := "ytoaifmomhaneiaagreatdoor", sum := "a0438b543dc288d2cbd471f6c4a48c0abdef5f160f443053ed15a12b8f380f4d", func := "loop.example/g00892/laws.FnExactIsValidSearch", spec := "fnExactIsValidSearch", unfollowed := true, recurses := true, named := ["internal/strconv.uint64pow10", "math/bits.deBruijn32tab", "math/bits.deBruijn64tab"], loops := true, apart := false, laid := [("math/bits.deBruijn32tab", laid_math_bits_deBruijn32tab), ("math/bits.deBruijn64tab", laid_math_bits_deBruijn64tab), ("internal/strconv.uint64pow10", laid_internal_strconv_uint64pow10)] }
def FnExactIsValidSearchSaid : Prop := fnExactIsValidSearchRow.holds Tryz.pinned (OpenSpec.ofChange fnExactIsValidSearchSpec)

/-- ITS FALSE NEIGHBOUR: 'it returns false'. Refute it at one input. -/
def fnExactIsValidSearchWrong : ChangeSpec := { name := "fnExactIsValidSearch", fn := fun _ => fun
  | [d] => { results := [.lit (.bool false)], args := [d] }
  | _ => none }
def FnExactIsValidSearchWrongFalsely : Prop := fnExactIsValidSearchRow.holds Tryz.pinned (OpenSpec.ofChange fnExactIsValidSearchWrong)

/-- 'laws.FnExactAncestors': WHATEVER THE INPUT: true; the input reads as it did. -/
def fnExactAncestorsSpec : ChangeSpec := { name := "fnExactAncestors", fn := fun _ => fun
  | [d1, d2] => { results := [.lit (.bool true)], args := [d1, d2] }
  | _ => none }
def fnExactAncestorsRow : OpenClaim := { program := "ytoaifmomhaneiaagreatdoor", sum := "a0438b543dc288d2cbd471f6c4a48c0abdef5f160f443053ed15a12b8f380f4d", func := "loop.example/g00892/laws.FnExactAncestors", spec := "fnExactAncestors", unfollowed := true, recurses := true, named := ["internal/strconv.uint64pow10", "math/bits.deBruijn32tab", "math/bits.deBruijn64tab"], loops := true, apart := false, laid := [("math/bits.deBruijn32tab", laid_math_bits_deBruijn32tab), ("math/bits.deBruijn64tab", laid_math_bits_deBruijn64tab), ("internal/strconv.uint64pow10", laid_internal_strconv_uint64pow10)] }
def FnExactAncestorsSaid : Prop := fnExactAncestorsRow.holds Tryz.pinned (OpenSpec.ofChange fnExactAncestorsSpec)

/-- ITS FALSE NEIGHBOUR: 'it returns false'. Refute it at one input. -/
def fnExactAncestorsWrong : ChangeSpec := { name := "fnExactAncestors", fn := fun _ => fun
  | [d1, d2] => { results := [.lit (.bool false)], args := [d1, d2] }
  | _ => none }
def FnExactAncestorsWrongFalsely : Prop := fnExactAncestorsRow.holds Tryz.pinned (OpenSpec.ofChange fnExactAncestorsWrong)

/-- 'laws.FnExactSelectGiven': WHATEVER THE INPUT: true; the input reads as it did. -/
def fnExactSelectGivenSpec : ChangeSpec := { name := "fnExactSelectGiven", fn := fun _ => fun
  | [d] => { results := [.lit (.bool true)], args := [d] }
  | _ => none }
def fnExactSelectGivenRow : OpenClaim := { program := "ytoaifmomhaneiaagreatdoor", sum := "a0438b543dc288d2cbd471f6c4a48c0abdef5f160f443053ed15a12b8f380f4d", func := "loop.example/g00892/laws.FnExactSelectGiven", spec := "fnExactSelectGiven", unfollowed := true, recurses := true, named := ["internal/strconv.uint64pow10", "math/bits.deBruijn32tab", "math/bits.deBruijn64tab"], loops := true, apart := false, laid := [("math/bits.deBruijn32tab", laid_math_bits_deBruijn32tab), ("math/bits.deBruijn64tab", laid_math_bits_deBruijn64tab), ("internal/strconv.uint64pow10", laid_internal_strconv_uint64pow10)] }
def FnExactSelectGivenSaid : Prop := fnExactSelectGivenRow.holds Tryz.pinned (OpenSpec.ofChange fnExactSelectGivenSpec)

/-- ITS FALSE NEIGHBOUR: 'it returns false'. Refute it at one input. -/
def fnExactSelectGivenWrong : ChangeSpec := { name := "fnExactSelectGiven", fn := fun _ => fun
  | [d] => { results := [.lit (.bool false)], args := [d] }
  | _ => none }
def FnExactSelectGivenWrongFalsely : Prop := fnExactSelectGivenRow.holds Tryz.pinned (OpenSpec.ofChange fnExactSelectGivenWrong)

/-- 'laws.FnExactAxiomsUsed': WHATEVER THE INPUT: true; the input reads as it did. -/
def fnExactAxiomsUsedSpec : ChangeSpec := { name := "fnExactAxiomsUsed", fn := fun _ => fun
  | [d1, d2] => { results := [.lit (.bool true)], args := [d1, d2] }
  | _ => none }
def fnExactAxiomsUsedRow : OpenClaim := { program := "ytoaifmomhaneiaagreatdoor", sum := "a0438b543dc288d2cbd471f6c4a48c0abdef5f160f443053ed15a12b8f380f4d", func := "loop.example/g00892/laws.FnExactAxiomsUsed", spec := "fnExactAxiomsUsed", unfollowed := true, recurses := true, named := ["internal/strconv.uint64pow10", "math/bits.deBruijn32tab", "math/bits.deBruijn64tab"], loops := true, apart := false, laid := [("math/bits.deBruijn32tab", laid_math_bits_deBruijn32tab), ("math/bits.deBruijn64tab", laid_math_bits_deBruijn64tab), ("internal/strconv.uint64pow10", laid_internal_strconv_uint64pow10)] }
def FnExactAxiomsUsedSaid : Prop := fnExactAxiomsUsedRow.holds Tryz.pinned (OpenSpec.ofChange fnExactAxiomsUsedSpec)

/-- ITS FALSE NEIGHBOUR: 'it returns false'. Refute it at one input. -/
def fnExactAxiomsUsedWrong : ChangeSpec := { name := "fnExactAxiomsUsed", fn := fun _ => fun
  | [d1, d2] => { results := [.lit (.bool false)], args := [d1, d2] }
  | _ => none }
def FnExactAxiomsUsedWrongFalsely : Prop := fnExactAxiomsUsedRow.holds Tryz.pinned (OpenSpec.ofChange fnExactAxiomsUsedWrong)

/- THE SECOND FORM. 'bulk': how many values and letters a reading holds, each counted each time it is reached (what is shared counts as often as it is met; a slice's spare places count too). A statement '..UptoSaid' is the law's where the arguments, and the package variables that the reading takes, are together of bulk at most 1048576: NARROWER than '..Said'. Prove '..Said' where nothing that the law and all that it calls make is longer than what came in: it says more and counts as full. Else prove '..UptoSaid'. A law counts once. -/
mutual
def uptoBulk {H : Type} : DataW H → Nat
  | .lit (.string bytes) => bytes.length + 1
  | .lit _ => 1
  | .nil => 1
  | .ptr d => uptoBulk d + 1
  | .slice elems spare => uptoBulkAll elems + uptoBulkAll spare + 1
  | .agg parts => uptoBulkAll parts + 1
  | .iface _ d => uptoBulk d + 1
  | .map entries => uptoBulkEntries entries + 1
  | .held _ => 1
def uptoBulkAll {H : Type} : List (DataW H) → Nat
  | [] => 0
  | d :: r => uptoBulk d + uptoBulkAll r
def uptoBulkEntries {H : Type} : List (Lit × DataW H) → Nat
  | [] => 0
  | x :: r => uptoBulkEntry x + uptoBulkEntries r
def uptoBulkEntry {H : Type} : Lit × DataW H → Nat
  | (.string bytes, d) => bytes.length + uptoBulk d + 1
  | (_, d) => uptoBulk d + 1
 end
def uptoSmall : (H : Type) → List (DataW H) → Bool := fun _ ds => decide (uptoBulkAll ds ≤ 1048576)
def OpenSpec.upto (s : _root_.Go.ChangeSpec) : _root_.Go.OpenSpec := { _root_.Go.OpenSpec.ofChange s with cond := some uptoSmall }

/-- 'laws.FnExactIsCorrectStep', WHERE WHAT IT READS IS OF BULK AT MOST 1048576: true; the input reads as it did. -/
def fnExactIsCorrectStepUptoRow : OpenClaim := { program := "ytoaifmomhaneiaagreatdoor", sum := "a0438b543dc288d2cbd471f6c4a48c0abdef5f160f443053ed15a12b8f380f4d", func := "loop.example/g00892/laws.FnExactIsCorrectStep", spec := "fnExactIsCorrectStep", unfollowed := true, recurses := true, named := ["internal/strconv.uint64pow10", "math/bits.deBruijn32tab", "math/bits.deBruijn64tab"], loops := true, apart := false, laid := [("math/bits.deBruijn32tab", laid_math_bits_deBruijn32tab), ("math/bits.deBruijn64tab", laid_math_bits_deBruijn64tab), ("internal/strconv.uint64pow10", laid_internal_strconv_uint64pow10)], narrowed := true }
def FnExactIsCorrectStepUptoSaid : Prop := fnExactIsCorrectStepUptoRow.holds Tryz.pinned (OpenSpec.upto fnExactIsCorrectStepSpec)

/-- 'laws.FnExactIsValidProof', WHERE WHAT IT READS IS OF BULK AT MOST 1048576: true; the input reads as it did. -/
def fnExactIsValidProofUptoRow : OpenClaim := { program := "ytoaifmomhaneiaagreatdoor", sum := "a0438b543dc288d2cbd471f6c4a48c0abdef5f160f443053ed15a12b8f380f4d", func := "loop.example/g00892/laws.FnExactIsValidProof", spec := "fnExactIsValidProof", unfollowed := true, recurses := true, named := ["internal/strconv.uint64pow10", "math/bits.deBruijn32tab", "math/bits.deBruijn64tab"], loops := true, apart := false, laid := [("math/bits.deBruijn32tab", laid_math_bits_deBruijn32tab), ("math/bits.deBruijn64tab", laid_math_bits_deBruijn64tab), ("internal/strconv.uint64pow10", laid_internal_strconv_uint64pow10)], narrowed := true }
def FnExactIsValidProofUptoSaid : Prop := fnExactIsValidProofUptoRow.holds Tryz.pinned (OpenSpec.upto fnExactIsValidProofSpec)

/-- 'laws.FnExactIsRefutation', WHERE WHAT IT READS IS OF BULK AT MOST 1048576: true; the input reads as it did. -/
def fnExactIsRefutationUptoRow : OpenClaim := { program := "ytoaifmomhaneiaagreatdoor", sum := "a0438b543dc288d2cbd471f6c4a48c0abdef5f160f443053ed15a12b8f380f4d", func := "loop.example/g00892/laws.FnExactIsRefutation", spec := "fnExactIsRefutation", unfollowed := true, recurses := true, named := ["internal/strconv.uint64pow10", "math/bits.deBruijn32tab", "math/bits.deBruijn64tab"], loops := true, apart := false, laid := [("math/bits.deBruijn32tab", laid_math_bits_deBruijn32tab), ("math/bits.deBruijn64tab", laid_math_bits_deBruijn64tab), ("internal/strconv.uint64pow10", laid_internal_strconv_uint64pow10)], narrowed := true }
def FnExactIsRefutationUptoSaid : Prop := fnExactIsRefutationUptoRow.holds Tryz.pinned (OpenSpec.upto fnExactIsRefutationSpec)

/-- 'laws.FnExactFirstIncorrect', WHERE WHAT IT READS IS OF BULK AT MOST 1048576: true; the input reads as it did. -/
def fnExactFirstIncorrectUptoRow : OpenClaim := { program := "ytoaifmomhaneiaagreatdoor", sum := "a0438b543dc288d2cbd471f6c4a48c0abdef5f160f443053ed15a12b8f380f4d", func := "loop.example/g00892/laws.FnExactFirstIncorrect", spec := "fnExactFirstIncorrect", unfollowed := true, recurses := true, named := ["internal/strconv.uint64pow10", "math/bits.deBruijn32tab", "math/bits.deBruijn64tab"], loops := true, apart := false, laid := [("math/bits.deBruijn32tab", laid_math_bits_deBruijn32tab), ("math/bits.deBruijn64tab", laid_math_bits_deBruijn64tab), ("internal/strconv.uint64pow10", laid_internal_strconv_uint64pow10)], narrowed := true }
def FnExactFirstIncorrectUptoSaid : Prop := fnExactFirstIncorrectUptoRow.holds Tryz.pinned (OpenSpec.upto fnExactFirstIncorrectSpec)

/-- 'laws.FnExactProofDepth', WHERE WHAT IT READS IS OF BULK AT MOST 1048576: true; the input reads as it did. -/
def fnExactProofDepthUptoRow : OpenClaim := { program := "ytoaifmomhaneiaagreatdoor", sum := "a0438b543dc288d2cbd471f6c4a48c0abdef5f160f443053ed15a12b8f380f4d", func := "loop.example/g00892/laws.FnExactProofDepth", spec := "fnExactProofDepth", unfollowed := true, recurses := true, named := ["internal/strconv.uint64pow10", "math/bits.deBruijn32tab", "math/bits.deBruijn64tab"], loops := true, apart := false, laid := [("math/bits.deBruijn32tab", laid_math_bits_deBruijn32tab), ("math/bits.deBruijn64tab", laid_math_bits_deBruijn64tab), ("internal/strconv.uint64pow10", laid_internal_strconv_uint64pow10)], narrowed := true }
def FnExactProofDepthUptoSaid : Prop := fnExactProofDepthUptoRow.holds Tryz.pinned (OpenSpec.upto fnExactProofDepthSpec)

/-- 'laws.FnExactIsValidSearch', WHERE WHAT IT READS IS OF BULK AT MOST 1048576: true; the input reads as it did. -/
def fnExactIsValidSearchUptoRow : OpenClaim := { program := "ytoaifmomhaneiaagreatdoor", sum := "a0438b543dc288d2cbd471f6c4a48c0abdef5f160f443053ed15a12b8f380f4d", func := "loop.example/g00892/laws.FnExactIsValidSearch", spec := "fnExactIsValidSearch", unfollowed := true, recurses := true, named := ["internal/strconv.uint64pow10", "math/bits.deBruijn32tab", "math/bits.deBruijn64tab"], loops := true, apart := false, laid := [("math/bits.deBruijn32tab", laid_math_bits_deBruijn32tab), ("math/bits.deBruijn64tab", laid_math_bits_deBruijn64tab), ("internal/strconv.uint64pow10", laid_internal_strconv_uint64pow10)], narrowed := true }
def FnExactIsValidSearchUptoSaid : Prop := fnExactIsValidSearchUptoRow.holds Tryz.pinned (OpenSpec.upto fnExactIsValidSearchSpec)

/-- 'laws.FnExactAncestors', WHERE WHAT IT READS IS OF BULK AT MOST 1048576: true; the input reads as it did. -/
def fnExactAncestorsUptoRow : OpenClaim := { program := "ytoaifmomhaneiaagreatdoor", sum := "a0438b543dc288d2cbd471f6c4a48c0abdef5f160f443053ed15a12b8f380f4d", func := "loop.example/g00892/laws.FnExactAncestors", spec := "fnExactAncestors", unfollowed := true, recurses := true, named := ["internal/strconv.uint64pow10", "math/bits.deBruijn32tab", "math/bits.deBruijn64tab"], loops := true, apart := false, laid := [("math/bits.deBruijn32tab", laid_math_bits_deBruijn32tab), ("math/bits.deBruijn64tab", laid_math_bits_deBruijn64tab), ("internal/strconv.uint64pow10", laid_internal_strconv_uint64pow10)], narrowed := true }
def FnExactAncestorsUptoSaid : Prop := fnExactAncestorsUptoRow.holds Tryz.pinned (OpenSpec.upto fnExactAncestorsSpec)

/-- 'laws.FnExactSelectGiven', WHERE WHAT IT READS IS OF BULK AT MOST 1048576: true; the input reads as it did. -/
def fnExactSelectGivenUptoRow : OpenClaim := { program := "ytoaifmomhaneiaagreatdoor", sum := "a0438b543dc288d2cbd471f6c4a48c0abdef5f160f443053ed15a12b8f380f4d", func := "loop.example/g00892/laws.FnExactSelectGiven", spec := "fnExactSelectGiven", unfollowed := true, recurses := true, named := ["internal/strconv.uint64pow10", "math/bits.deBruijn32tab", "math/bits.deBruijn64tab"], loops := true, apart := false, laid := [("math/bits.deBruijn32tab", laid_math_bits_deBruijn32tab), ("math/bits.deBruijn64tab", laid_math_bits_deBruijn64tab), ("internal/strconv.uint64pow10", laid_internal_strconv_uint64pow10)], narrowed := true }
def FnExactSelectGivenUptoSaid : Prop := fnExactSelectGivenUptoRow.holds Tryz.pinned (OpenSpec.upto fnExactSelectGivenSpec)

/-- 'laws.FnExactAxiomsUsed', WHERE WHAT IT READS IS OF BULK AT MOST 1048576: true; the input reads as it did. -/
def fnExactAxiomsUsedUptoRow : OpenClaim := { program := "ytoaifmomhaneiaagreatdoor", sum := "a0438b543dc288d2cbd471f6c4a48c0abdef5f160f443053ed15a12b8f380f4d", func := "loop.example/g00892/laws.FnExactAxiomsUsed", spec := "fnExactAxiomsUsed", unfollowed := true, recurses := true, named := ["internal/strconv.uint64pow10", "math/bits.deBruijn32tab", "math/bits.deBruijn64tab"], loops := true, apart := false, laid := [("math/bits.deBruijn32tab", laid_math_bits_deBruijn32tab), ("math/bits.deBruijn64tab", laid_math_bits_deBruijn64tab), ("internal/strconv.uint64pow10", laid_internal_strconv_uint64pow10)], narrowed := true }
def FnExactAxiomsUsedUptoSaid : Prop := fnExactAxiomsUsedUptoRow.holds Tryz.pinned (OpenSpec.upto fnExactAxiomsUsedSpec)

end Rows
end Go.Proofs.YtoaifmomhaneiaaGreatDoor
