/- THE LIBRARY's SORT AT THIS PROGRAM; what the equations say, calls do. -/
import Derived.Test.YtheaeglaebimoaaSn
import Derived.Shelf.Sort.Plain
import Derived.Shelf.Slices.In.SortNone
namespace Go.Proofs
open Go.Shelf
def Try.lays190_ren : Go.Shelf.Ren := ⟨fun | 190 => 136 | 125 => 120 | 258 => 169 | 128 => 153 | 129 => 154 | 302 => 181 | 303 => 182 | 304 => 183 | 305 => 184 | 306 => 185 | 307 => 186 | 308 => 187 | 309 => 188 | 310 => 189 | 333 => 193 | 329 => 174 | 330 => 175 | 334 => 194 | 335 => 195 | 336 => 196 | 344 => 197 | n => n, fun | 31 => 32 | 9 => 9 | 3 => 3 | 46 => 96 | 0 => 0 | 51 => 122 | 53 => 124 | 4 => 4 | 183 => 116 | 182 => 115 | 131 => 40 | 5 => 5 | 218 => 133 | 222 => 137 | 228 => 150 | 229 => 87 | n => n, fun | n => n⟩
theorem Try.lays190 : Go.Proofs.Lays.n190 Try.prog Try.lays190_ren := {
  mixed := by kernel_rfl
  f125 := Try.func120.trans (congrArg some (by kernel_rfl))
  f128 := Try.func153.trans (congrArg some (by kernel_rfl))
  f129 := Try.func154.trans (congrArg some (by kernel_rfl))
  f190 := Try.func136.trans (congrArg some (by kernel_rfl))
  f258 := Try.func169.trans (congrArg some (by kernel_rfl))
  f302 := Try.func181.trans (congrArg some (by kernel_rfl))
  f303 := Try.func182.trans (congrArg some (by kernel_rfl))
  f304 := Try.func183.trans (congrArg some (by kernel_rfl))
  f305 := Try.func184.trans (congrArg some (by kernel_rfl))
  f306 := Try.func185.trans (congrArg some (by kernel_rfl))
  f307 := Try.func186.trans (congrArg some (by kernel_rfl))
  f308 := Try.func187.trans (congrArg some (by kernel_rfl))
  f309 := Try.func188.trans (congrArg some (by kernel_rfl))
  f310 := Try.func189.trans (congrArg some (by kernel_rfl))
  f329 := Try.func174.trans (congrArg some (by kernel_rfl))
  f330 := Try.func175.trans (congrArg some (by kernel_rfl))
  f333 := Try.func193.trans (congrArg some (by kernel_rfl))
  f334 := Try.func194.trans (congrArg some (by kernel_rfl))
  f335 := Try.func195.trans (congrArg some (by kernel_rfl))
  f336 := Try.func196.trans (congrArg some (by kernel_rfl))
  f344 := Try.func197.trans (congrArg some (by kernel_rfl))
  t0 := Try.underlying0
  a0 := Try.isAgg0
  z0 := Try.sizeOf0
  v0 := Try.zeroValue0
  t3 := Try.underlying3
  a3 := Try.isAgg3
  z3 := Try.sizeOf3
  v3 := Try.zeroValue3
  t4 := Try.underlying4
  a4 := Try.isAgg4
  z4 := Try.sizeOf4
  v4 := Try.zeroValue4
  t5 := Try.underlying5
  a5 := Try.isAgg5
  z5 := Try.sizeOf5
  v5 := Try.zeroValue5
  t9 := Try.underlying9
  a9 := Try.isAgg9
  z9 := Try.sizeOf9
  v9 := Try.zeroValue9
  t31 := Try.underlying32
  a31 := Try.isAgg32
  z31 := Try.sizeOf32
  v31 := Try.zeroValue32
  t46 := Try.underlying96
  a46 := Try.isAgg96
  z46 := Try.sizeOf96
  v46 := Try.zeroValue96
  t51 := Try.underlying122
  a51 := Try.isAgg122
  z51 := Try.sizeOf122
  v51 := Try.zeroValue122
  t53 := Try.underlying124
  a53 := Try.isAgg124
  z53 := Try.sizeOf124
  v53 := Try.zeroValue124
  t131 := Try.underlying40
  a131 := Try.isAgg40
  z131 := Try.sizeOf40
  v131 := Try.zeroValue40
  t182 := Try.underlying115
  a182 := Try.isAgg115
  z182 := Try.sizeOf115
  v182 := Try.zeroValue115
  t183 := Try.underlying116
  a183 := Try.isAgg116
  z183 := Try.sizeOf116
  v183 := Try.zeroValue116
  t218 := Try.underlying133
  a218 := Try.isAgg133
  z218 := Try.sizeOf133
  v218 := Try.zeroValue133
  t222 := Try.underlying137
  a222 := Try.isAgg137
  z222 := Try.sizeOf137
  v222 := Try.zeroValue137
  t228 := Try.underlying150
  a228 := Try.isAgg150
  z228 := Try.sizeOf150
  v228 := Try.zeroValue150
  t229 := Try.underlying87
  a229 := Try.isAgg87
  z229 := Try.sizeOf87
  v229 := Try.zeroValue87 }
end Go.Proofs
namespace Go.Proofs.Ytheaeglaebimoaa
open Go Go.RowKit Go.Sort Go.Proofs.Ytheaeglaebimoaa.Abs

theorem sort_num : Try.lays190_ren.f 190 = 136 := by kernel_rfl
theorem sort_calls (blk off cap : Nat) (ss : List (List UInt8)) (w : World) (hH : Holds encStr w blk off ss.toArray) (hblk : blk < w.heap.size) (hsz : ss.length < 4611686018427387904) :
    Calls Try.prog 136 #[.slice (some ⟨blk, off, none⟩) ss.length cap] w fun e w' => e = .returned (.tuple #[]) ∧ ∃ n os, w' = Sort.grow (putRow encStr (Sort.ahead w n) blk off (ss.mergeSort fun x y => decide (x ≤ y)).toArray) os := by
  have := Any.slices_Sort_string Try.lays190 blk off cap ss w hH hblk hsz
  rw [sort_num] at this
  exact this
theorem sort_calls0 (p : Option Addr) (cap : Nat) (w : World) : Calls Try.prog 136 #[.slice p 0 cap] w fun e w' => e = .returned (.tuple #[]) ∧ w' = w := by
  have := Any.slices_Sort_string_none Try.lays190 p cap w
  rw [sort_num] at this
  exact this
theorem sort_enters : Enters Try.prog 136 :=
  enters_mk Try.func136 (K_sane.names _ _ Try.func136) (codeOf_eq rfl)

theorem K_extv {X : Ctx} (f : FuncId) (x : List V → List Abs.Obj → Option Out) (args : List V) (objs : List Abs.Obj) (sgs : Sig) (sg : SigA) (out : Out) (h1 : K.extv f = some x) (h2 : K.sig f = some sgs) (h3 : altOf objs.length sgs = some sg) (h4 : x args objs = some out) : SOk X K.P f args objs sg out := by
  have hf : f = 136 ∧ x = sortX := by
    have h1 : assocN none f extTab = some x := h1
    unfold extTab at h1
    simp only [assocN] at h1
    cases hb : Nat.beq f 136 with
    | true => rw [hb] at h1; cases h1; exact ⟨Nat.eq_of_beq_eq_true hb, rfl⟩
    | false => rw [hb] at h1; cases h1
  obtain ⟨rfl, rfl⟩ := hf
  have hsg : sgs = [sgSort] := by
    have h2 : some [sgSort] = some sgs := h2
    exact (Option.some.inj h2).symm
  subst hsg
  have hsg : sg = sgSort := by
    simp only [altOf] at h3
    split at h3
    · exact (Option.some.inj h3).symm
    · cases h3
  subst hsg
  exact sort_SOk sort_enters sort_calls sort_calls0 h4

theorem G_ok {X : Ctx} {f : FuncId} {args : List A} {out : Out} (hs : K.sig f = none) (h : G f args = some out) : PureOk X Try.prog f args out :=
  MM_ok K_sane (fun f x args out h => by cases h) K_extv f args out hs h
end Go.Proofs.Ytheaeglaebimoaa
