/- THE LIBRARY's SORT AT THIS PROGRAM; what the equations say, calls do. -/
import Derived.Test.YtencikloakamfaaGreatSn
import Derived.Shelf.Sort.Plain
import Derived.Shelf.Slices.In.SortNone
namespace Go.Proofs
open Go.Shelf
def Tryz.lays190_ren : Go.Shelf.Ren := ⟨fun | 190 => 171 | 125 => 184 | 258 => 183 | 128 => 195 | 129 => 196 | 302 => 186 | 303 => 187 | 304 => 188 | 305 => 189 | 306 => 190 | 307 => 191 | 308 => 192 | 309 => 193 | 310 => 194 | 333 => 199 | 329 => 200 | 330 => 201 | 334 => 202 | 335 => 203 | 336 => 204 | 344 => 205 | n => n, fun | 31 => 22 | 9 => 9 | 3 => 3 | 46 => 170 | 0 => 0 | 51 => 182 | 53 => 184 | 4 => 4 | 183 => 175 | 182 => 174 | 131 => 45 | 5 => 5 | 218 => 189 | 222 => 193 | 228 => 195 | 229 => 196 | n => n, fun | n => n⟩
theorem Tryz.lays190 : Go.Proofs.Lays.n190 Tryz.prog Tryz.lays190_ren := {
  mixed := by kernel_rfl
  f125 := Tryz.func184.trans (congrArg some (by kernel_rfl))
  f128 := Tryz.func195.trans (congrArg some (by kernel_rfl))
  f129 := Tryz.func196.trans (congrArg some (by kernel_rfl))
  f190 := Tryz.func171.trans (congrArg some (by kernel_rfl))
  f258 := Tryz.func183.trans (congrArg some (by kernel_rfl))
  f302 := Tryz.func186.trans (congrArg some (by kernel_rfl))
  f303 := Tryz.func187.trans (congrArg some (by kernel_rfl))
  f304 := Tryz.func188.trans (congrArg some (by kernel_rfl))
  f305 := Tryz.func189.trans (congrArg some (by kernel_rfl))
  f306 := Tryz.func190.trans (congrArg some (by kernel_rfl))
  f307 := Tryz.func191.trans (congrArg some (by kernel_rfl))
  f308 := Tryz.func192.trans (congrArg some (by kernel_rfl))
  f309 := Tryz.func193.trans (congrArg some (by kernel_rfl))
  f310 := Tryz.func194.trans (congrArg some (by kernel_rfl))
  f329 := Tryz.func200.trans (congrArg some (by kernel_rfl))
  f330 := Tryz.func201.trans (congrArg some (by kernel_rfl))
  f333 := Tryz.func199.trans (congrArg some (by kernel_rfl))
  f334 := Tryz.func202.trans (congrArg some (by kernel_rfl))
  f335 := Tryz.func203.trans (congrArg some (by kernel_rfl))
  f336 := Tryz.func204.trans (congrArg some (by kernel_rfl))
  f344 := Tryz.func205.trans (congrArg some (by kernel_rfl))
  t0 := Tryz.underlying0
  a0 := Tryz.isAgg0
  z0 := Tryz.sizeOf0
  v0 := Tryz.zeroValue0
  t3 := Tryz.underlying3
  a3 := Tryz.isAgg3
  z3 := Tryz.sizeOf3
  v3 := Tryz.zeroValue3
  t4 := Tryz.underlying4
  a4 := Tryz.isAgg4
  z4 := Tryz.sizeOf4
  v4 := Tryz.zeroValue4
  t5 := Tryz.underlying5
  a5 := Tryz.isAgg5
  z5 := Tryz.sizeOf5
  v5 := Tryz.zeroValue5
  t9 := Tryz.underlying9
  a9 := Tryz.isAgg9
  z9 := Tryz.sizeOf9
  v9 := Tryz.zeroValue9
  t31 := Tryz.underlying22
  a31 := Tryz.isAgg22
  z31 := Tryz.sizeOf22
  v31 := Tryz.zeroValue22
  t46 := Tryz.underlying170
  a46 := Tryz.isAgg170
  z46 := Tryz.sizeOf170
  v46 := Tryz.zeroValue170
  t51 := Tryz.underlying182
  a51 := Tryz.isAgg182
  z51 := Tryz.sizeOf182
  v51 := Tryz.zeroValue182
  t53 := Tryz.underlying184
  a53 := Tryz.isAgg184
  z53 := Tryz.sizeOf184
  v53 := Tryz.zeroValue184
  t131 := Tryz.underlying45
  a131 := Tryz.isAgg45
  z131 := Tryz.sizeOf45
  v131 := Tryz.zeroValue45
  t182 := Tryz.underlying174
  a182 := Tryz.isAgg174
  z182 := Tryz.sizeOf174
  v182 := Tryz.zeroValue174
  t183 := Tryz.underlying175
  a183 := Tryz.isAgg175
  z183 := Tryz.sizeOf175
  v183 := Tryz.zeroValue175
  t218 := Tryz.underlying189
  a218 := Tryz.isAgg189
  z218 := Tryz.sizeOf189
  v218 := Tryz.zeroValue189
  t222 := Tryz.underlying193
  a222 := Tryz.isAgg193
  z222 := Tryz.sizeOf193
  v222 := Tryz.zeroValue193
  t228 := Tryz.underlying195
  a228 := Tryz.isAgg195
  z228 := Tryz.sizeOf195
  v228 := Tryz.zeroValue195
  t229 := Tryz.underlying196
  a229 := Tryz.isAgg196
  z229 := Tryz.sizeOf196
  v229 := Tryz.zeroValue196 }
end Go.Proofs
namespace Go.Proofs.YtencikloakamfaaGreat
open Go Go.RowKit Go.Sort Go.Proofs.YtencikloakamfaaGreat.Abs

theorem sort_num : Tryz.lays190_ren.f 190 = 171 := by kernel_rfl
theorem sort_calls (blk off cap : Nat) (ss : List (List UInt8)) (w : World) (hH : Holds encStr w blk off ss.toArray) (hblk : blk < w.heap.size) (hsz : ss.length < 4611686018427387904) :
    Calls Tryz.prog 171 #[.slice (some ⟨blk, off, none⟩) ss.length cap] w fun e w' => e = .returned (.tuple #[]) ∧ ∃ n os, w' = Sort.grow (putRow encStr (Sort.ahead w n) blk off (ss.mergeSort fun x y => decide (x ≤ y)).toArray) os := by
  have := Any.slices_Sort_string Tryz.lays190 blk off cap ss w hH hblk hsz
  rw [sort_num] at this
  exact this
theorem sort_calls0 (p : Option Addr) (cap : Nat) (w : World) : Calls Tryz.prog 171 #[.slice p 0 cap] w fun e w' => e = .returned (.tuple #[]) ∧ w' = w := by
  have := Any.slices_Sort_string_none Tryz.lays190 p cap w
  rw [sort_num] at this
  exact this
theorem sort_enters : Enters Tryz.prog 171 :=
  enters_mk Tryz.func171 (K_sane.names _ _ Tryz.func171) (codeOf_eq rfl)

theorem K_extv {X : Ctx} (f : FuncId) (x : List V → List Abs.Obj → Option Out) (args : List V) (objs : List Abs.Obj) (sgs : Sig) (sg : SigA) (out : Out) (h1 : K.extv f = some x) (h2 : K.sig f = some sgs) (h3 : altOf objs.length sgs = some sg) (h4 : x args objs = some out) : SOk X K.P f args objs sg out := by
  have hf : f = 171 ∧ x = sortX := by
    have h1 : assocN none f extTab = some x := h1
    unfold extTab at h1
    simp only [assocN] at h1
    cases hb : Nat.beq f 171 with
    | true => rw [hb] at h1; cases h1; exact ⟨Nat.eq_of_beq_eq_true hb, rfl⟩
    | false => rw [hb] at h1; cases h1
  obtain ⟨rfl, rfl⟩ := hf
  have hsg : sgs = [sgSort] := by
    have h2 : some [sgSort] = some sgs := h2
    exact (Option.some.inj h2).symm
  subst hsg
  have hsg : sg = sgSort := by
    simp only [altOf] at h3
    split at h3
    · exact (Option.some.inj h3).symm
    · cases h3
  subst hsg
  exact sort_SOk sort_enters sort_calls sort_calls0 h4

theorem G_ok {X : Ctx} {f : FuncId} {args : List A} {out : Out} (hs : K.pureF f = true) (h : G f args = some out) : PureOk X Tryz.prog f args out :=
  MM_ok K_sane (fun f x args out h => by cases h) K_extv f args out hs h
end Go.Proofs.YtencikloakamfaaGreat
