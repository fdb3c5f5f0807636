/- EQUATIONS: an atom with two sides, valid and covered. -/
import Derived.Test.YtbikhinddomhpaaGreatKb
namespace Go.Proofs.YtbikhinddomhpaaGreat
open Go Go.RowKit Go.Proofs.YtbikhinddomhpaaGreat.Abs

set_option linter.unusedSimpArgs false
set_option linter.unusedVariables false
set_option maxHeartbeats 1000000

def arg0 (t : T) : T := t.args.getD 0 (.mk [] [])
def arg1 (t : T) : T := t.args.getD 1 (.mk [] [])
/-- A valid equation. -/
def eqnT (t : T) : Bool := decide (t.args.length = 2) && (smallT t && (okT (arg0 t) && okT (arg1 t)))

theorem arg_facts {t : T} (hl : t.args.length = 2) : pIndexAddr 2 (tms t.args) (vi 0) = some (.elt (tcells (arg0 t)) 0) ∧ pIndexAddr 2 (tms t.args) (vi 1) = some (.elt (tcells (arg1 t)) 0) ∧ arg0 t ∈ t.args ∧ arg1 t ∈ t.args := by
  have e0 : arg0 t = t.args[0] := by unfold arg0; simp [List.getD_eq_getElem?_getD, hl]
  have e1 : arg1 t = t.args[1] := by unfold arg1; simp [List.getD_eq_getElem?_getD, hl]
  rw [e0, e1]
  exact ⟨pIndexAddr_map (i := 0) (by omega), pIndexAddr_map (i := 1) (by omega), List.getElem_mem _, List.getElem_mem _⟩

theorem l2Atom_eqn (t : T) (hw : twf t) (hs : tsz t ≤ 1048576) (he : t.name = [61]) : G 45 [tm t] = some (vb (eqnT t), []) := by
  obtain ⟨w1, w2, w3⟩ := (twf_eq t).1 hw
  have w3 := (twfL_iff _).1 w3
  have het : (t.name = [61]) = True := eq_true he
  unfold eqnT
  rw [g45]
  by_cases hl : t.args.length = 2
  rotate_left
  · have hl' : ¬ ((t.args.length : Nat) : Int) = 2 := by omega
    simp -implicitDefEqProofs only [evs, Nat.reduceAdd, reduceIte, het, hl', hl, Bool.false_and]
  have hl' : ((t.args.length : Nat) : Int) = 2 := by omega
  rw [decide_eq_true hl, Bool.true_and]
  obtain ⟨i0, i1, ma, mb⟩ := arg_facts hl
  have p1 := l2Fits_eq t hw hs
  have p2 := l2Nodes_eq _ (w3 _ ma)
  have p3 := l2Nodes_eq _ (w3 _ mb)
  cases h1 : smallT t <;> rw [h1] at p1
  · simp -implicitDefEqProofs only [evs, Nat.reduceAdd, reduceIte, het, hl', p1, Bool.false_and, Bool.and_false]
  · cases h2 : okT (arg0 t) <;> rw [h2] at p2
    · simp -implicitDefEqProofs only [evs, Nat.reduceAdd, reduceIte, het, hl', p1, i0, pLoadN_tcells, p2, Bool.false_and, Bool.and_false]
    · simp -implicitDefEqProofs only [evs, Nat.reduceAdd, reduceIte, het, hl', p1, i0, i1, pLoadN_tcells, p2, p3, Bool.true_and]

/-- A valid equation whose sides are covered. -/
def eqnO (o : Ord') (t : T) : Bool := decide (t.name = [61]) && (eqnT t && (covT o.syms (arg0 t) && covT o.syms (arg1 t)))

theorem eqnO_spec {o : Ord'} {t : T} (h : eqnO o t = true) : t.name = [61] ∧ t.args.length = 2 ∧ smallT t = true ∧ okT (arg0 t) = true ∧ okT (arg1 t) = true ∧ covT o.syms (arg0 t) = true ∧ covT o.syms (arg1 t) = true := by
  simp only [eqnO, eqnT, Bool.and_eq_true, decide_eq_true_eq] at h
  exact ⟨h.1, h.2.1.1, h.2.1.2.1, h.2.1.2.2.1, h.2.1.2.2.2, h.2.2.1, h.2.2.2⟩
theorem eqnT_spec {t : T} (h : eqnT t = true) : t.args.length = 2 ∧ okT (arg0 t) = true ∧ okT (arg1 t) = true := by
  simp only [eqnT, Bool.and_eq_true, decide_eq_true_eq] at h
  exact ⟨h.1, h.2.2.1, h.2.2.2⟩

/-! ### Copies -/
end Go.Proofs.YtbikhinddomhpaaGreat
