/- ORIENTED EQUATIONS; the first rule that does not decrease. -/
import Derived.Test.YtbikhinddomhpaaGreatAt
namespace Go.Proofs.YtbikhinddomhpaaGreat
open Go Go.RowKit Go.Proofs.YtbikhinddomhpaaGreat.Abs

set_option linter.unusedSimpArgs false
set_option linter.unusedVariables false
set_option maxHeartbeats 1000000

/-- What OrientEquation answers. -/
noncomputable def orientR (o : Ord') (t : T) : A := if validO o && eqnO o t then .tup [if cmpKBO o (arg0 t) (arg1 t) = 3 then .agg [sv t.name, tms [arg1 t, arg0 t]] else tm t, vb (decide (cmpKBO o (arg0 t) (arg1 t) = 3) || decide (cmpKBO o (arg0 t) (arg1 t) = 2)), vb true] else .tup [.agg [sv [], .sl 2 []], vb false, vb false]

theorem arg_tsz {t u : T} (h : u ∈ t.args) (hs : tsz t ≤ 1048576) : tsz u ≤ 1048576 := by
  have := tsz_mem h
  rw [tsz_eq] at hs
  omega

/-! ### FirstNotDecreasing -/
/-- A rule decreases. -/
noncomputable def dec (o : Ord') (t : T) : Bool := kboN o (nodes (arg0 t) + nodes (arg1 t)) (arg0 t) (arg1 t)
noncomputable def fnd (o : Ord') : Nat → List T → Int
  | _, [] => -1
  | i, t :: ts => if dec o t then fnd o (i + 1) ts else (i : Nat)
noncomputable def fndR (o : Ord') (ts : List T) : A := if validO o && (decide (ts.length ≤ 8) && ts.all (eqnO o)) then .tup [vi (fnd o 0 ts), vb true] else .tup [vi 0, vb false]

theorem pLoadP_targs (t : T) : pLoadP (.elt (tcells t) 1) = some (tms t.args) := by rw [tcells_eq]; rfl

theorem spec_dec {o : Ord'} (hv : validO o = true) (ho : owf o) {t : T} (hw : twf t) (hs : tsz t ≤ 1048576) (hx : eqnO o t = true) : G 33 [od o, tm (arg0 t), tm (arg1 t)] = some (vb (dec o t), []) := by
  obtain ⟨_, hl, _, k0, k1, v0, v1⟩ := eqnO_spec hx
  obtain ⟨w1, w2, w3⟩ := (twf_eq t).1 hw
  have w3 := (twfL_iff _).1 w3
  obtain ⟨i0, i1, ma, mb⟩ := arg_facts hl
  exact l6KBO_eq hv ho.1.2 _ _ _ (Nat.le_refl _) (w3 _ ma) (w3 _ mb) (arg_tsz ma hs) (arg_tsz mb hs) v0 v1
theorem impl_dec {o : Ord'} (hv : validO o = true) (ho : owf o) {t : T} (hw : twf t) (hs : tsz t ≤ 1048576) (hx : eqnO o t = true) : G 53 [od o, tm (arg0 t), tm (arg1 t)] = some (vb (dec o t), []) := by
  obtain ⟨_, hl, _, k0, k1, v0, v1⟩ := eqnO_spec hx
  obtain ⟨w1, w2, w3⟩ := (twf_eq t).1 hw
  have w3 := (twfL_iff _).1 w3
  obtain ⟨i0, i1, ma, mb⟩ := arg_facts hl
  exact kbo_eq hv ho.1.2 _ _ _ (Nat.le_refl _) (w3 _ ma) (w3 _ mb) (arg_tsz ma hs) (arg_tsz mb hs) k0 k1 v0 v1

end Go.Proofs.YtbikhinddomhpaaGreat
