/- THE LIBRARY's SORT AT THIS PROGRAM; what the equations say, calls do. -/
import Derived.Test.YtencikloakamfaaSn
import Derived.Shelf.Sort.Plain
import Derived.Shelf.Slices.In.SortNone
namespace Go.Proofs
open Go.Shelf
def Try.lays190_ren : Go.Shelf.Ren := ⟨fun | 190 => 84 | 125 => 70 | 258 => 116 | 128 => 95 | 129 => 96 | 302 => 139 | 303 => 140 | 304 => 141 | 305 => 142 | 306 => 143 | 307 => 144 | 308 => 145 | 309 => 146 | 310 => 147 | 333 => 163 | 329 => 123 | 330 => 124 | 334 => 164 | 335 => 165 | 336 => 166 | 344 => 171 | n => n, fun | 31 => 78 | 9 => 9 | 3 => 3 | 46 => 72 | 0 => 0 | 51 => 92 | 53 => 94 | 4 => 4 | 183 => 85 | 182 => 84 | 131 => 89 | 5 => 5 | 218 => 108 | 222 => 112 | 228 => 136 | 229 => 60 | n => n, fun | n => n⟩
theorem Try.lays190 : Go.Proofs.Lays.n190 Try.prog Try.lays190_ren := {
  mixed := by kernel_rfl
  f125 := Try.func70.trans (congrArg some (by kernel_rfl))
  f128 := Try.func95.trans (congrArg some (by kernel_rfl))
  f129 := Try.func96.trans (congrArg some (by kernel_rfl))
  f190 := Try.func84.trans (congrArg some (by kernel_rfl))
  f258 := Try.func116.trans (congrArg some (by kernel_rfl))
  f302 := Try.func139.trans (congrArg some (by kernel_rfl))
  f303 := Try.func140.trans (congrArg some (by kernel_rfl))
  f304 := Try.func141.trans (congrArg some (by kernel_rfl))
  f305 := Try.func142.trans (congrArg some (by kernel_rfl))
  f306 := Try.func143.trans (congrArg some (by kernel_rfl))
  f307 := Try.func144.trans (congrArg some (by kernel_rfl))
  f308 := Try.func145.trans (congrArg some (by kernel_rfl))
  f309 := Try.func146.trans (congrArg some (by kernel_rfl))
  f310 := Try.func147.trans (congrArg some (by kernel_rfl))
  f329 := Try.func123.trans (congrArg some (by kernel_rfl))
  f330 := Try.func124.trans (congrArg some (by kernel_rfl))
  f333 := Try.func163.trans (congrArg some (by kernel_rfl))
  f334 := Try.func164.trans (congrArg some (by kernel_rfl))
  f335 := Try.func165.trans (congrArg some (by kernel_rfl))
  f336 := Try.func166.trans (congrArg some (by kernel_rfl))
  f344 := Try.func171.trans (congrArg some (by kernel_rfl))
  t0 := Try.underlying0
  a0 := Try.isAgg0
  z0 := Try.sizeOf0
  v0 := Try.zeroValue0
  t3 := Try.underlying3
  a3 := Try.isAgg3
  z3 := Try.sizeOf3
  v3 := Try.zeroValue3
  t4 := Try.underlying4
  a4 := Try.isAgg4
  z4 := Try.sizeOf4
  v4 := Try.zeroValue4
  t5 := Try.underlying5
  a5 := Try.isAgg5
  z5 := Try.sizeOf5
  v5 := Try.zeroValue5
  t9 := Try.underlying9
  a9 := Try.isAgg9
  z9 := Try.sizeOf9
  v9 := Try.zeroValue9
  t31 := Try.underlying78
  a31 := Try.isAgg78
  z31 := Try.sizeOf78
  v31 := Try.zeroValue78
  t46 := Try.underlying72
  a46 := Try.isAgg72
  z46 := Try.sizeOf72
  v46 := Try.zeroValue72
  t51 := Try.underlying92
  a51 := Try.isAgg92
  z51 := Try.sizeOf92
  v51 := Try.zeroValue92
  t53 := Try.underlying94
  a53 := Try.isAgg94
  z53 := Try.sizeOf94
  v53 := Try.zeroValue94
  t131 := Try.underlying89
  a131 := Try.isAgg89
  z131 := Try.sizeOf89
  v131 := Try.zeroValue89
  t182 := Try.underlying84
  a182 := Try.isAgg84
  z182 := Try.sizeOf84
  v182 := Try.zeroValue84
  t183 := Try.underlying85
  a183 := Try.isAgg85
  z183 := Try.sizeOf85
  v183 := Try.zeroValue85
  t218 := Try.underlying108
  a218 := Try.isAgg108
  z218 := Try.sizeOf108
  v218 := Try.zeroValue108
  t222 := Try.underlying112
  a222 := Try.isAgg112
  z222 := Try.sizeOf112
  v222 := Try.zeroValue112
  t228 := Try.underlying136
  a228 := Try.isAgg136
  z228 := Try.sizeOf136
  v228 := Try.zeroValue136
  t229 := Try.underlying60
  a229 := Try.isAgg60
  z229 := Try.sizeOf60
  v229 := Try.zeroValue60 }
end Go.Proofs
namespace Go.Proofs.Ytencikloakamfaa
open Go Go.RowKit Go.Sort Go.Proofs.Ytencikloakamfaa.Abs

theorem sort_num : Try.lays190_ren.f 190 = 84 := by kernel_rfl
theorem sort_calls (blk off cap : Nat) (ss : List (List UInt8)) (w : World) (hH : Holds encStr w blk off ss.toArray) (hblk : blk < w.heap.size) (hsz : ss.length < 4611686018427387904) :
    Calls Try.prog 84 #[.slice (some ⟨blk, off, none⟩) ss.length cap] w fun e w' => e = .returned (.tuple #[]) ∧ ∃ n os, w' = Sort.grow (putRow encStr (Sort.ahead w n) blk off (ss.mergeSort fun x y => decide (x ≤ y)).toArray) os := by
  have := Any.slices_Sort_string Try.lays190 blk off cap ss w hH hblk hsz
  rw [sort_num] at this
  exact this
theorem sort_calls0 (p : Option Addr) (cap : Nat) (w : World) : Calls Try.prog 84 #[.slice p 0 cap] w fun e w' => e = .returned (.tuple #[]) ∧ w' = w := by
  have := Any.slices_Sort_string_none Try.lays190 p cap w
  rw [sort_num] at this
  exact this
theorem sort_enters : Enters Try.prog 84 :=
  enters_mk Try.func84 (K_sane.names _ _ Try.func84) (codeOf_eq rfl)

theorem K_extv {X : Ctx} (f : FuncId) (x : List V → List Abs.Obj → Option Out) (args : List V) (objs : List Abs.Obj) (sgs : Sig) (sg : SigA) (out : Out) (h1 : K.extv f = some x) (h2 : K.sig f = some sgs) (h3 : altOf objs.length sgs = some sg) (h4 : x args objs = some out) : SOk X K.P f args objs sg out := by
  have hf : f = 84 ∧ x = sortX := by
    have h1 : assocN none f extTab = some x := h1
    unfold extTab at h1
    simp only [assocN] at h1
    cases hb : Nat.beq f 84 with
    | true => rw [hb] at h1; cases h1; exact ⟨Nat.eq_of_beq_eq_true hb, rfl⟩
    | false => rw [hb] at h1; cases h1
  obtain ⟨rfl, rfl⟩ := hf
  have hsg : sgs = [sgSort] := by
    have h2 : some [sgSort] = some sgs := h2
    exact (Option.some.inj h2).symm
  subst hsg
  have hsg : sg = sgSort := by
    simp only [altOf] at h3
    split at h3
    · exact (Option.some.inj h3).symm
    · cases h3
  subst hsg
  exact sort_SOk sort_enters sort_calls sort_calls0 h4

theorem G_ok {X : Ctx} {f : FuncId} {args : List A} {out : Out} (hs : K.pureF f = true) (h : G f args = some out) : PureOk X Try.prog f args out :=
  MM_ok K_sane (fun f x args out h => by cases h) K_extv f args out hs h
end Go.Proofs.Ytencikloakamfaa
