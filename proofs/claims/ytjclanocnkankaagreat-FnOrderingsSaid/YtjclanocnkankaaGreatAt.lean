/- EQUATIONS: an atom with two sides, valid and covered. -/
import Derived.Test.YtjclanocnkankaaGreatKb
namespace Go.Proofs.YtjclanocnkankaaGreat
open Go Go.RowKit Go.Proofs.YtjclanocnkankaaGreat.Abs

set_option linter.unusedSimpArgs false
set_option linter.unusedVariables false
set_option maxHeartbeats 1000000

def arg0 (t : T) : T := t.args.getD 0 (.mk [] [])
def arg1 (t : T) : T := t.args.getD 1 (.mk [] [])
/-- A valid equation. -/
def eqnT (t : T) : Bool := decide (t.args.length = 2) && (smallT t && (okT (arg0 t) && okT (arg1 t)))

theorem arg_facts {t : T} (hl : t.args.length = 2) : pIndexAddr 2 (tms t.args) (vi 0) = some (.elt (tcells (arg0 t)) 0) ∧ pIndexAddr 2 (tms t.args) (vi 1) = some (.elt (tcells (arg1 t)) 0) ∧ arg0 t ∈ t.args ∧ arg1 t ∈ t.args := by
  have e0 : arg0 t = t.args[0] := by unfold arg0; simp [List.getD_eq_getElem?_getD, hl]
  have e1 : arg1 t = t.args[1] := by unfold arg1; simp [List.getD_eq_getElem?_getD, hl]
  rw [e0, e1]
  exact ⟨pIndexAddr_map (i := 0) (by omega), pIndexAddr_map (i := 1) (by omega), List.getElem_mem _, List.getElem_mem _⟩

theorem l2Atom_eqn (t : T) (hw : twf t) (hs : tsz t ≤ 1048576) (he : t.name = [61]) : G 64 [tm t] = some (vb (eqnT t), []) := by
  obtain ⟨w1, w2, w3⟩ := (twf_eq t).1 hw
  have w3 := (twfL_iff _).1 w3
  have het : (t.name = [61]) = True := eq_true he
  unfold eqnT
  rw [g64]
  by_cases hl : t.args.length = 2
  rotate_left
  · have hl' : ¬ ((t.args.length : Nat) : Int) = 2 := by omega
    simp -implicitDefEqProofs only [evs, Nat.reduceAdd, reduceIte, het, hl', hl, Bool.false_and]
  have hl' : ((t.args.length : Nat) : Int) = 2 := by omega
  rw [decide_eq_true hl, Bool.true_and]
  obtain ⟨i0, i1, ma, mb⟩ := arg_facts hl
  have p1 := l2Fits_eq t hw hs
  have p2 := l2Nodes_eq _ (w3 _ ma)
  have p3 := l2Nodes_eq _ (w3 _ mb)
  cases h1 : smallT t <;> rw [h1] at p1
  · simp -implicitDefEqProofs only [evs, Nat.reduceAdd, reduceIte, het, hl', p1, Bool.false_and, Bool.and_false]
  · cases h2 : okT (arg0 t) <;> rw [h2] at p2
    · simp -implicitDefEqProofs only [evs, Nat.reduceAdd, reduceIte, het, hl', p1, i0, pLoadN_tcells, p2, Bool.false_and, Bool.and_false]
    · simp -implicitDefEqProofs only [evs, Nat.reduceAdd, reduceIte, het, hl', p1, i0, i1, pLoadN_tcells, p2, p3, Bool.true_and]

theorem isEquality_eq (t : T) : G 56 [tm t] = some (vb (decide (t.name = [61])), []) := by
  rw [g56]
  simp -implicitDefEqProofs only [evs, Nat.reduceAdd, reduceIte]

theorem isValidAtom_eqn (t : T) (hw : twf t) (hs : tsz t ≤ 1048576) (he : t.name = [61]) : G 68 [tm t] = some (vb (eqnT t), []) := by
  obtain ⟨w1, w2, w3⟩ := (twf_eq t).1 hw
  have w3 := (twfL_iff _).1 w3
  have q0 := isEquality_eq t
  rw [decide_eq_true he] at q0
  unfold eqnT
  rw [g68]
  by_cases hl : t.args.length = 2
  rotate_left
  · have hl' : ¬ ((t.args.length : Nat) : Int) = 2 := by omega
    simp -implicitDefEqProofs only [evs, Nat.reduceAdd, reduceIte, q0, hl', hl, Bool.false_and]
  have hl' : ((t.args.length : Nat) : Int) = 2 := by omega
  rw [decide_eq_true hl, Bool.true_and]
  obtain ⟨i0, i1, ma, mb⟩ := arg_facts hl
  have p1 := isSmall_eq t hw hs
  have p2 := hasNames_eq _ (w3 _ ma)
  have p3 := hasNames_eq _ (w3 _ mb)
  cases h1 : smallT t <;> rw [h1] at p1
  · simp -implicitDefEqProofs only [evs, Nat.reduceAdd, reduceIte, q0, hl', p1, Bool.false_and, Bool.and_false]
  · cases h2 : okT (arg0 t) <;> rw [h2] at p2
    · simp -implicitDefEqProofs only [evs, Nat.reduceAdd, reduceIte, q0, hl', p1, i0, pLoadN_tcells, p2, Bool.false_and, Bool.and_false]
    · simp -implicitDefEqProofs only [evs, Nat.reduceAdd, reduceIte, q0, hl', p1, i0, i1, pLoadN_tcells, p2, p3, Bool.true_and]

/-- A valid equation whose sides are covered. -/
def eqnO (o : Ord') (t : T) : Bool := decide (t.name = [61]) && (eqnT t && (covT o.syms (arg0 t) && covT o.syms (arg1 t)))

theorem eqnO_spec {o : Ord'} {t : T} (h : eqnO o t = true) : t.name = [61] ∧ t.args.length = 2 ∧ smallT t = true ∧ okT (arg0 t) = true ∧ okT (arg1 t) = true ∧ covT o.syms (arg0 t) = true ∧ covT o.syms (arg1 t) = true := by
  simp only [eqnO, eqnT, Bool.and_eq_true, decide_eq_true_eq] at h
  exact ⟨h.1, h.2.1.1, h.2.1.2.1, h.2.1.2.2.1, h.2.1.2.2.2, h.2.2.1, h.2.2.2⟩
theorem eqnT_spec {t : T} (h : eqnT t = true) : t.args.length = 2 ∧ okT (arg0 t) = true ∧ okT (arg1 t) = true := by
  simp only [eqnT, Bool.and_eq_true, decide_eq_true_eq] at h
  exact ⟨h.1, h.2.2.1, h.2.2.2⟩

theorem l6Equation_eq (o : Ord') (t : T) (ho : owf o) (hw : twf t) (hs : tsz t ≤ 1048576) : G 51 [od o, tm t] = some (vb (eqnO o t), []) := by
  obtain ⟨w1, w2, w3⟩ := (twf_eq t).1 hw
  have w3 := (twfL_iff _).1 w3
  rw [g51, eqnO]
  by_cases he : t.name = [61]
  rotate_left
  · simp -implicitDefEqProofs only [evs, Nat.reduceAdd, reduceIte, he, Bool.false_and]
  have het : (t.name = [61]) = True := eq_true he
  have e1 := l2Atom_eqn t hw hs he
  cases h1 : eqnT t <;> rw [h1] at e1
  · simp -implicitDefEqProofs only [evs, Nat.reduceAdd, reduceIte, het, e1, Bool.false_and, Bool.and_false]
  obtain ⟨i0, i1, ma, mb⟩ := arg_facts (eqnT_spec h1).1
  have p2 := l6Covers_eq o ho.1.2 _ (w3 _ ma)
  have p3 := l6Covers_eq o ho.1.2 _ (w3 _ mb)
  cases h2 : covT o.syms (arg0 t) <;> rw [h2] at p2
  · simp -implicitDefEqProofs only [evs, Nat.reduceAdd, reduceIte, het, e1, i0, pLoadN_tcells, p2, Bool.false_and, Bool.and_false]
  · simp -implicitDefEqProofs only [evs, Nat.reduceAdd, reduceIte, het, e1, i0, i1, pLoadN_tcells, p2, p3, Bool.true_and]

theorem coversAtom_eqn (o : Ord') (t : T) (ho : owf o) (hw : twf t) (hs : tsz t ≤ 1048576) (he : t.name = [61]) : G 58 [od o, tm t] = some (vb (eqnO o t), []) := by
  obtain ⟨w1, w2, w3⟩ := (twf_eq t).1 hw
  have w3 := (twfL_iff _).1 w3
  rw [g58, eqnO, decide_eq_true he, Bool.true_and]
  have q0 := isEquality_eq t
  rw [decide_eq_true he] at q0
  have e1 := isValidAtom_eqn t hw hs he
  cases h1 : eqnT t <;> rw [h1] at e1
  · simp -implicitDefEqProofs only [evs, Nat.reduceAdd, reduceIte, e1, Bool.false_and, Bool.and_false]
  obtain ⟨hl, k0, k1⟩ := eqnT_spec h1
  obtain ⟨i0, i1, ma, mb⟩ := arg_facts hl
  have p2 := covers_eq o ho.1.2 _ (w3 _ ma) k0
  have p3 := covers_eq o ho.1.2 _ (w3 _ mb) k1
  cases h2 : covT o.syms (arg0 t) <;> rw [h2] at p2
  · simp -implicitDefEqProofs only [evs, Nat.reduceAdd, reduceIte, q0, e1, i0, pLoadN_tcells, p2, Bool.false_and, Bool.and_false]
  · simp -implicitDefEqProofs only [evs, Nat.reduceAdd, reduceIte, q0, e1, i0, i1, pLoadN_tcells, p2, p3, Bool.true_and]

/-! ### Copies -/
theorem copyTerms_eq (ts : List T) (hl : ts.length ≤ 1048576) (ih : ∀ t ∈ ts, C59_0 (sv t.name) (tms t.args) = some (.top, [sv t.name, tms t.args])) : C110_0 (tms ts) = some (.top, [tms ts]) := by
  rw [c110_0]
  by_cases h0 : ts.length = 0
  · have : ts = [] := List.length_eq_zero_iff.1 h0
    subst this
    simp -implicitDefEqProofs only [evs, Nat.reduceAdd, reduceIte, Int.natCast_zero]
    rfl
  have hz : ¬ ((ts.length : Nat) : Int) = 0 := by omega
  have hm := pMake_len (b := 40) (n := ts.length) (by omega) hl
  have key := (upto (P := fun i => L110c0_0 (tms ts) (vi (ts.length : Nat)) (vi i) (part tcells [sv [], .sl 2 []] ts i) = some (.top, [tms ts])) (n := ts.length) ?_ ?_ 0 (Nat.zero_le _))
  · simp only [Int.natCast_zero, ← part_zero] at key
    simp -implicitDefEqProofs only [evs, Nat.reduceAdd, reduceIte, hz, hm, key]
  · rw [l110c0_0, part_end]
    simp -implicitDefEqProofs only [evs, Nat.reduceAdd, reduceIte]
  · intro i hi ih'
    have hlt : (i : Int) < ((ts.length : Nat) : Int) := by omega
    have h1 := part_length (f := tcells) (z := [sv [], .sl 2 []]) (Nat.le_of_lt hi)
    have h2 : pIx (part tcells [sv [], .sl 2 []] ts i).length (vi i) = some i := pIx_lt (by omega)
    have h4 := part_set (f := tcells) (z := [sv [], .sl 2 []]) hi
    rw [tcells_eq] at h4
    have h5 := add_one hi (Nat.le_trans hl (by decide))
    have e1 := ih ts[i] (List.getElem_mem _)
    rw [l110c0_0]
    simp -implicitDefEqProofs only [evs, Nat.reduceAdd, reduceIte, hlt, pIndexAddr_map hi, pLoadN_tcells, e1, List.getElem?_cons_zero, h2, part_get hi, cOver_2, h4, h5, ih']

theorem copyTerm_eq (t : T) : tsz t ≤ 1048576 → C59_0 (sv t.name) (tms t.args) = some (.top, [sv t.name, tms t.args]) := by
  refine T.ind (p := fun t => tsz t ≤ 1048576 → C59_0 (sv t.name) (tms t.args) = some (.top, [sv t.name, tms t.args])) ?_ t
  intro t ih h
  rw [tsz_eq] at h
  have e1 := copyTerms_eq t.args (by omega) fun u hu => ih u hu (by have := tsz_mem hu; omega)
  rw [c59_0]
  simp -implicitDefEqProofs only [evs, Nat.reduceAdd, reduceIte, e1]
end Go.Proofs.YtjclanocnkankaaGreat
