/- THE LIBRARY's SORT AT THIS PROGRAM; what the equations say, calls do. -/
import Derived.Test.YtjclanocnkankaaGreatSn
import Derived.Shelf.Sort.Plain
import Derived.Shelf.Slices.In.SortNone
namespace Go.Proofs
open Go.Shelf
def Tryz.lays190_ren : Go.Shelf.Ren := ⟨fun | 190 => 183 | 125 => 202 | 258 => 201 | 128 => 218 | 129 => 219 | 302 => 209 | 303 => 210 | 304 => 211 | 305 => 212 | 306 => 213 | 307 => 214 | 308 => 215 | 309 => 216 | 310 => 217 | 333 => 223 | 329 => 224 | 330 => 225 | 334 => 226 | 335 => 227 | 336 => 228 | 344 => 229 | n => n, fun | 31 => 22 | 9 => 9 | 3 => 3 | 46 => 182 | 0 => 0 | 51 => 198 | 53 => 105 | 4 => 4 | 183 => 191 | 182 => 190 | 131 => 73 | 5 => 5 | 218 => 204 | 222 => 208 | 228 => 210 | 229 => 211 | n => n, fun | n => n⟩
theorem Tryz.lays190 : Go.Proofs.Lays.n190 Tryz.prog Tryz.lays190_ren := {
  mixed := by kernel_rfl
  f125 := Tryz.func202.trans (congrArg some (by kernel_rfl))
  f128 := Tryz.func218.trans (congrArg some (by kernel_rfl))
  f129 := Tryz.func219.trans (congrArg some (by kernel_rfl))
  f190 := Tryz.func183.trans (congrArg some (by kernel_rfl))
  f258 := Tryz.func201.trans (congrArg some (by kernel_rfl))
  f302 := Tryz.func209.trans (congrArg some (by kernel_rfl))
  f303 := Tryz.func210.trans (congrArg some (by kernel_rfl))
  f304 := Tryz.func211.trans (congrArg some (by kernel_rfl))
  f305 := Tryz.func212.trans (congrArg some (by kernel_rfl))
  f306 := Tryz.func213.trans (congrArg some (by kernel_rfl))
  f307 := Tryz.func214.trans (congrArg some (by kernel_rfl))
  f308 := Tryz.func215.trans (congrArg some (by kernel_rfl))
  f309 := Tryz.func216.trans (congrArg some (by kernel_rfl))
  f310 := Tryz.func217.trans (congrArg some (by kernel_rfl))
  f329 := Tryz.func224.trans (congrArg some (by kernel_rfl))
  f330 := Tryz.func225.trans (congrArg some (by kernel_rfl))
  f333 := Tryz.func223.trans (congrArg some (by kernel_rfl))
  f334 := Tryz.func226.trans (congrArg some (by kernel_rfl))
  f335 := Tryz.func227.trans (congrArg some (by kernel_rfl))
  f336 := Tryz.func228.trans (congrArg some (by kernel_rfl))
  f344 := Tryz.func229.trans (congrArg some (by kernel_rfl))
  t0 := Tryz.underlying0
  a0 := Tryz.isAgg0
  z0 := Tryz.sizeOf0
  v0 := Tryz.zeroValue0
  t3 := Tryz.underlying3
  a3 := Tryz.isAgg3
  z3 := Tryz.sizeOf3
  v3 := Tryz.zeroValue3
  t4 := Tryz.underlying4
  a4 := Tryz.isAgg4
  z4 := Tryz.sizeOf4
  v4 := Tryz.zeroValue4
  t5 := Tryz.underlying5
  a5 := Tryz.isAgg5
  z5 := Tryz.sizeOf5
  v5 := Tryz.zeroValue5
  t9 := Tryz.underlying9
  a9 := Tryz.isAgg9
  z9 := Tryz.sizeOf9
  v9 := Tryz.zeroValue9
  t31 := Tryz.underlying22
  a31 := Tryz.isAgg22
  z31 := Tryz.sizeOf22
  v31 := Tryz.zeroValue22
  t46 := Tryz.underlying182
  a46 := Tryz.isAgg182
  z46 := Tryz.sizeOf182
  v46 := Tryz.zeroValue182
  t51 := Tryz.underlying198
  a51 := Tryz.isAgg198
  z51 := Tryz.sizeOf198
  v51 := Tryz.zeroValue198
  t53 := Tryz.underlying105
  a53 := Tryz.isAgg105
  z53 := Tryz.sizeOf105
  v53 := Tryz.zeroValue105
  t131 := Tryz.underlying73
  a131 := Tryz.isAgg73
  z131 := Tryz.sizeOf73
  v131 := Tryz.zeroValue73
  t182 := Tryz.underlying190
  a182 := Tryz.isAgg190
  z182 := Tryz.sizeOf190
  v182 := Tryz.zeroValue190
  t183 := Tryz.underlying191
  a183 := Tryz.isAgg191
  z183 := Tryz.sizeOf191
  v183 := Tryz.zeroValue191
  t218 := Tryz.underlying204
  a218 := Tryz.isAgg204
  z218 := Tryz.sizeOf204
  v218 := Tryz.zeroValue204
  t222 := Tryz.underlying208
  a222 := Tryz.isAgg208
  z222 := Tryz.sizeOf208
  v222 := Tryz.zeroValue208
  t228 := Tryz.underlying210
  a228 := Tryz.isAgg210
  z228 := Tryz.sizeOf210
  v228 := Tryz.zeroValue210
  t229 := Tryz.underlying211
  a229 := Tryz.isAgg211
  z229 := Tryz.sizeOf211
  v229 := Tryz.zeroValue211 }
end Go.Proofs
namespace Go.Proofs.YtjclanocnkankaaGreat
open Go Go.RowKit Go.Sort Go.Proofs.YtjclanocnkankaaGreat.Abs

theorem sort_num : Tryz.lays190_ren.f 190 = 183 := by kernel_rfl
theorem sort_calls (blk off cap : Nat) (ss : List (List UInt8)) (w : World) (hH : Holds encStr w blk off ss.toArray) (hblk : blk < w.heap.size) (hsz : ss.length < 4611686018427387904) :
    Calls Tryz.prog 183 #[.slice (some ⟨blk, off, none⟩) ss.length cap] w fun e w' => e = .returned (.tuple #[]) ∧ ∃ n os, w' = Sort.grow (putRow encStr (Sort.ahead w n) blk off (ss.mergeSort fun x y => decide (x ≤ y)).toArray) os := by
  have := Any.slices_Sort_string Tryz.lays190 blk off cap ss w hH hblk hsz
  rw [sort_num] at this
  exact this
theorem sort_calls0 (p : Option Addr) (cap : Nat) (w : World) : Calls Tryz.prog 183 #[.slice p 0 cap] w fun e w' => e = .returned (.tuple #[]) ∧ w' = w := by
  have := Any.slices_Sort_string_none Tryz.lays190 p cap w
  rw [sort_num] at this
  exact this
theorem sort_enters : Enters Tryz.prog 183 :=
  enters_mk Tryz.func183 (K_sane.names _ _ Tryz.func183) (codeOf_eq rfl)

theorem K_extv {X : Ctx} (f : FuncId) (x : List V → List Abs.Obj → Option Out) (args : List V) (objs : List Abs.Obj) (sgs : Sig) (sg : SigA) (out : Out) (h1 : K.extv f = some x) (h2 : K.sig f = some sgs) (h3 : altOf objs.length sgs = some sg) (h4 : x args objs = some out) : SOk X K.P f args objs sg out := by
  have hf : f = 183 ∧ x = sortX := by
    have h1 : assocN none f extTab = some x := h1
    unfold extTab at h1
    simp only [assocN] at h1
    cases hb : Nat.beq f 183 with
    | true => rw [hb] at h1; cases h1; exact ⟨Nat.eq_of_beq_eq_true hb, rfl⟩
    | false => rw [hb] at h1; cases h1
  obtain ⟨rfl, rfl⟩ := hf
  have hsg : sgs = [sgSort] := by
    have h2 : some [sgSort] = some sgs := h2
    exact (Option.some.inj h2).symm
  subst hsg
  have hsg : sg = sgSort := by
    simp only [altOf] at h3
    split at h3
    · exact (Option.some.inj h3).symm
    · cases h3
  subst hsg
  exact sort_SOk sort_enters sort_calls sort_calls0 h4

theorem G_ok {X : Ctx} {f : FuncId} {args : List A} {out : Out} (hs : K.pureF f = true) (h : G f args = some out) : PureOk X Tryz.prog f args out :=
  MM_ok K_sane (fun f x args out h => by cases h) K_extv f args out hs h
end Go.Proofs.YtjclanocnkankaaGreat
