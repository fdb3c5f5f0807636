/- COMPARELPO: program and reference; the law. -/
import Derived.Test.YtheaeglaebimoaaLp
namespace Go.Proofs.Ytheaeglaebimoaa
open Go Go.RowKit Go.Proofs.Ytheaeglaebimoaa.Abs

set_option linter.unusedSimpArgs false
set_option linter.unusedVariables false
set_option maxHeartbeats 1000000

def codeI (e g l : Bool) : Int := if e then 1 else if g then 2 else if l then 3 else 0

theorem l6Code_eq (e g l : Bool) : G 57 [vb e, vb g, vb l] = some (vi (codeI e g l), []) := by
  rw [g57]
  cases e <;> cases g <;> cases l <;> simp -implicitDefEqProofs only [neg1_lt, brn_true, brn_false, brn_ite, Option.bind_some, Option.bind_none, pBool_vb, pPick_vb, pG_vb, pWant_vb, pG_undef, pWant_undef, pLenL_sl, rLen_eq, rLenN_eq, pLenS_sv, fin_pair, fin_vb, fin_vi, pUn_not, pBin_lss, pBin_leq, pBin_gtr, pBin_geq, pBin_eql, pBin_neq, pBinY_lss, pBinY_leq, pBinY_gtr, pBinY_geq, pBinY_eql, pBinY_neq, pBin_beql, pBin_bneq, pBin_add, pBin_sub, pBin_mul, pBin_seql, pBin_sneq, pBin_slss, pLoadP_0, pAdd_elt, pField_agg, pCells_agg, cGet_zero, cGet_one, cGet_two, cGet_three, okA_sl, okA_elt, okA_fn, okA_vi, okA_vb, okA_sv, pRows_sl, pTup_0, pTup_1, pTup_2, pMax_vi, pMin_vi, hD_eq, hR_0, hR_1, hR_2, List.all_cons, List.all_nil, List.length_cons, List.length_nil, List.length_map, Nat.zero_add, Bool.and_self, Bool.and_true, and_self, if_true, if_false, Bool.true_eq_false, Bool.false_eq_true, decide_true, decide_false, Bool.not_true, Bool.not_false, reduceIte, Bool.not_eq_true', decide_eq_true_eq, decide_eq_false_iff_not, Int.lt_irrefl, not_true_eq_false, not_false_eq_true, Nat.reduceAdd, ite_true, ite_false, codeI]

theorem ordered_eq {f g : FuncId} {caps caps' : List A} (hf : K.sig f = none) (hg : K.sig g = none) (e gr le : Bool) (h1 : G f caps = some (vb gr, [])) (h2 : G g caps' = some (vb le, [])) :
    G 60 [vb e, .fn f caps, .fn g caps'] = some (vi (codeI e gr le), []) := by
  rw [g60]
  cases e <;> cases gr <;> cases le <;> simp -implicitDefEqProofs only [neg1_lt, brn_true, brn_false, brn_ite, Option.bind_some, Option.bind_none, pBool_vb, pPick_vb, pG_vb, pWant_vb, pG_undef, pWant_undef, pLenL_sl, rLen_eq, rLenN_eq, pLenS_sv, fin_pair, fin_vb, fin_vi, pUn_not, pBin_lss, pBin_leq, pBin_gtr, pBin_geq, pBin_eql, pBin_neq, pBinY_lss, pBinY_leq, pBinY_gtr, pBinY_geq, pBinY_eql, pBinY_neq, pBin_beql, pBin_bneq, pBin_add, pBin_sub, pBin_mul, pBin_seql, pBin_sneq, pBin_slss, pLoadP_0, pAdd_elt, pField_agg, pCells_agg, cGet_zero, cGet_one, cGet_two, cGet_three, okA_sl, okA_elt, okA_fn, okA_vi, okA_vb, okA_sv, pRows_sl, pTup_0, pTup_1, pTup_2, pMax_vi, pMin_vi, hD_eq, hR_0, hR_1, hR_2, List.all_cons, List.all_nil, List.length_cons, List.length_nil, List.length_map, Nat.zero_add, Bool.and_self, Bool.and_true, and_self, if_true, if_false, Bool.true_eq_false, Bool.false_eq_true, decide_true, decide_false, Bool.not_true, Bool.not_false, reduceIte, Bool.not_eq_true', decide_eq_true_eq, decide_eq_false_iff_not, Int.lt_irrefl, not_true_eq_false, not_false_eq_true, Nat.reduceAdd, ite_true, ite_false, callc_fn hf, callc_fn hg, List.nil_append, h1, h2, codeI]

noncomputable def cmpLPO (o : Ord') (s t : T) : Int := codeI (dq s t) (lpoN o (nodes s + nodes t) s t) (lpoN o (nodes s + nodes t) t s)
noncomputable def compareLPO (o : Ord') (s t : T) : A := if validO o && (good o s && good o t) then .tup [vi (cmpLPO o s t), vb true] else .tup [vi 0, vb false]

theorem spec_compareLPO (o : Ord') (s t : T) (ho : owf o) (hw : twf s) (hs : tsz s ≤ 1048576) (hw' : twf t) (hs' : tsz t ≤ 1048576) : G 27 [od o, tm s, tm t] = some (compareLPO o s t, []) := by
  have e1 := l6Good_eq o ho
  have e2 := l6Term_eq o s ho.1.2 hw hs
  have e3 := l6Term_eq o t ho.1.2 hw' hs'
  have e4 := l2Same_eq s hw t hw'
  have e5 := l6LPO_eq o ho.1.2 (nodes s + nodes t) s t (Nat.le_refl _) hw hw'
  have e6 := l6LPO_eq o ho.1.2 (nodes s + nodes t) t s (by omega) hw' hw
  have e7 := l6Code_eq (dq s t) (lpoN o (nodes s + nodes t) s t) (lpoN o (nodes s + nodes t) t s)
  rw [g27, compareLPO]
  cases h : validO o <;> rw [h] at e1
  · simp -implicitDefEqProofs only [neg1_lt, brn_true, brn_false, brn_ite, Option.bind_some, Option.bind_none, pBool_vb, pPick_vb, pG_vb, pWant_vb, pG_undef, pWant_undef, pLenL_sl, rLen_eq, rLenN_eq, pLenS_sv, fin_pair, fin_vb, fin_vi, pUn_not, pBin_lss, pBin_leq, pBin_gtr, pBin_geq, pBin_eql, pBin_neq, pBinY_lss, pBinY_leq, pBinY_gtr, pBinY_geq, pBinY_eql, pBinY_neq, pBin_beql, pBin_bneq, pBin_add, pBin_sub, pBin_mul, pBin_seql, pBin_sneq, pBin_slss, pLoadP_0, pAdd_elt, pField_agg, pCells_agg, cGet_zero, cGet_one, cGet_two, cGet_three, okA_sl, okA_elt, okA_fn, okA_vi, okA_vb, okA_sv, pRows_sl, pTup_0, pTup_1, pTup_2, pMax_vi, pMin_vi, hD_eq, hR_0, hR_1, hR_2, List.all_cons, List.all_nil, List.length_cons, List.length_nil, List.length_map, Nat.zero_add, Bool.and_self, Bool.and_true, and_self, if_true, if_false, Bool.true_eq_false, Bool.false_eq_true, decide_true, decide_false, Bool.not_true, Bool.not_false, reduceIte, Bool.not_eq_true', decide_eq_true_eq, decide_eq_false_iff_not, Int.lt_irrefl, not_true_eq_false, not_false_eq_true, Nat.reduceAdd, ite_true, ite_false, e1, Bool.false_and]
  · cases h2 : good o s <;> rw [h2] at e2
    · simp -implicitDefEqProofs only [neg1_lt, brn_true, brn_false, brn_ite, Option.bind_some, Option.bind_none, pBool_vb, pPick_vb, pG_vb, pWant_vb, pG_undef, pWant_undef, pLenL_sl, rLen_eq, rLenN_eq, pLenS_sv, fin_pair, fin_vb, fin_vi, pUn_not, pBin_lss, pBin_leq, pBin_gtr, pBin_geq, pBin_eql, pBin_neq, pBinY_lss, pBinY_leq, pBinY_gtr, pBinY_geq, pBinY_eql, pBinY_neq, pBin_beql, pBin_bneq, pBin_add, pBin_sub, pBin_mul, pBin_seql, pBin_sneq, pBin_slss, pLoadP_0, pAdd_elt, pField_agg, pCells_agg, cGet_zero, cGet_one, cGet_two, cGet_three, okA_sl, okA_elt, okA_fn, okA_vi, okA_vb, okA_sv, pRows_sl, pTup_0, pTup_1, pTup_2, pMax_vi, pMin_vi, hD_eq, hR_0, hR_1, hR_2, List.all_cons, List.all_nil, List.length_cons, List.length_nil, List.length_map, Nat.zero_add, Bool.and_self, Bool.and_true, and_self, if_true, if_false, Bool.true_eq_false, Bool.false_eq_true, decide_true, decide_false, Bool.not_true, Bool.not_false, reduceIte, Bool.not_eq_true', decide_eq_true_eq, decide_eq_false_iff_not, Int.lt_irrefl, not_true_eq_false, not_false_eq_true, Nat.reduceAdd, ite_true, ite_false, e1, e2, Bool.and_false, Bool.false_and]
    · cases h3 : good o t <;> rw [h3] at e3
      · simp -implicitDefEqProofs only [neg1_lt, brn_true, brn_false, brn_ite, Option.bind_some, Option.bind_none, pBool_vb, pPick_vb, pG_vb, pWant_vb, pG_undef, pWant_undef, pLenL_sl, rLen_eq, rLenN_eq, pLenS_sv, fin_pair, fin_vb, fin_vi, pUn_not, pBin_lss, pBin_leq, pBin_gtr, pBin_geq, pBin_eql, pBin_neq, pBinY_lss, pBinY_leq, pBinY_gtr, pBinY_geq, pBinY_eql, pBinY_neq, pBin_beql, pBin_bneq, pBin_add, pBin_sub, pBin_mul, pBin_seql, pBin_sneq, pBin_slss, pLoadP_0, pAdd_elt, pField_agg, pCells_agg, cGet_zero, cGet_one, cGet_two, cGet_three, okA_sl, okA_elt, okA_fn, okA_vi, okA_vb, okA_sv, pRows_sl, pTup_0, pTup_1, pTup_2, pMax_vi, pMin_vi, hD_eq, hR_0, hR_1, hR_2, List.all_cons, List.all_nil, List.length_cons, List.length_nil, List.length_map, Nat.zero_add, Bool.and_self, Bool.and_true, and_self, if_true, if_false, Bool.true_eq_false, Bool.false_eq_true, decide_true, decide_false, Bool.not_true, Bool.not_false, reduceIte, Bool.not_eq_true', decide_eq_true_eq, decide_eq_false_iff_not, Int.lt_irrefl, not_true_eq_false, not_false_eq_true, Nat.reduceAdd, ite_true, ite_false, e1, e2, e3, Bool.and_false]
      · simp -implicitDefEqProofs only [neg1_lt, brn_true, brn_false, brn_ite, Option.bind_some, Option.bind_none, pBool_vb, pPick_vb, pG_vb, pWant_vb, pG_undef, pWant_undef, pLenL_sl, rLen_eq, rLenN_eq, pLenS_sv, fin_pair, fin_vb, fin_vi, pUn_not, pBin_lss, pBin_leq, pBin_gtr, pBin_geq, pBin_eql, pBin_neq, pBinY_lss, pBinY_leq, pBinY_gtr, pBinY_geq, pBinY_eql, pBinY_neq, pBin_beql, pBin_bneq, pBin_add, pBin_sub, pBin_mul, pBin_seql, pBin_sneq, pBin_slss, pLoadP_0, pAdd_elt, pField_agg, pCells_agg, cGet_zero, cGet_one, cGet_two, cGet_three, okA_sl, okA_elt, okA_fn, okA_vi, okA_vb, okA_sv, pRows_sl, pTup_0, pTup_1, pTup_2, pMax_vi, pMin_vi, hD_eq, hR_0, hR_1, hR_2, List.all_cons, List.all_nil, List.length_cons, List.length_nil, List.length_map, Nat.zero_add, Bool.and_self, Bool.and_true, and_self, if_true, if_false, Bool.true_eq_false, Bool.false_eq_true, decide_true, decide_false, Bool.not_true, Bool.not_false, reduceIte, Bool.not_eq_true', decide_eq_true_eq, decide_eq_false_iff_not, Int.lt_irrefl, not_true_eq_false, not_false_eq_true, Nat.reduceAdd, ite_true, ite_false, e1, e2, e3, e4, e5, e6, e7, cmpLPO]

theorem isCovered2 (o : Ord') (s t : T) (ho : owf o) (hw : twf s) (hs : tsz s ≤ 1048576) (hw' : twf t) (hs' : tsz t ≤ 1048576) : G 53 [od o, .sl 2 [[sv s.name, .sl 2 (s.args.map tcells)], [sv t.name, .sl 2 (t.args.map tcells)]]] = some (vb (validO o && (good o s && good o t)), []) := by
  have e1 := isCovered_eq o [s, t] ho (by simp) (by simp [hw, hs, hw', hs'])
  have e0 : (tms [s, t] : A) = .sl 2 [[sv s.name, .sl 2 (s.args.map tcells)], [sv t.name, .sl 2 (t.args.map tcells)]] := by show A.sl 2 [tcells s, tcells t] = _; rw [tcells_eq, tcells_eq]
  rw [e0] at e1
  simp only [List.all_cons, List.all_nil, Bool.and_true] at e1
  exact e1

theorem impl_compareLPO (o : Ord') (s t : T) (ho : owf o) (hw : twf s) (hs : tsz s ≤ 1048576) (hw' : twf t) (hs' : tsz t ≤ 1048576) : G 28 [od o, tm s, tm t] = some (compareLPO o s t, []) := by
  have e1 := isCovered2 o s t ho hw hs hw' hs'
  rw [g28, compareLPO]
  cases h : (validO o && (good o s && good o t)) <;> rw [h] at e1
  · simp -implicitDefEqProofs only [neg1_lt, brn_true, brn_false, brn_ite, Option.bind_some, Option.bind_none, pBool_vb, pPick_vb, pG_vb, pWant_vb, pG_undef, pWant_undef, pLenL_sl, rLen_eq, rLenN_eq, pLenS_sv, fin_pair, fin_vb, fin_vi, pUn_not, pBin_lss, pBin_leq, pBin_gtr, pBin_geq, pBin_eql, pBin_neq, pBinY_lss, pBinY_leq, pBinY_gtr, pBinY_geq, pBinY_eql, pBinY_neq, pBin_beql, pBin_bneq, pBin_add, pBin_sub, pBin_mul, pBin_seql, pBin_sneq, pBin_slss, pLoadP_0, pAdd_elt, pField_agg, pCells_agg, cGet_zero, cGet_one, cGet_two, cGet_three, okA_sl, okA_elt, okA_fn, okA_vi, okA_vb, okA_sv, pRows_sl, pTup_0, pTup_1, pTup_2, pMax_vi, pMin_vi, hD_eq, hR_0, hR_1, hR_2, List.all_cons, List.all_nil, List.length_cons, List.length_nil, List.length_map, Nat.zero_add, Bool.and_self, Bool.and_true, and_self, if_true, if_false, Bool.true_eq_false, Bool.false_eq_true, decide_true, decide_false, Bool.not_true, Bool.not_false, reduceIte, Bool.not_eq_true', decide_eq_true_eq, decide_eq_false_iff_not, Int.lt_irrefl, not_true_eq_false, not_false_eq_true, Nat.reduceAdd, ite_true, ite_false, e1]
  · simp only [Bool.and_eq_true] at h
    obtain ⟨_, h2, h3⟩ := h
    have g2 := good_spec h2
    have g3 := good_spec h3
    have e4 := equalTerms_eq s hw t hw'
    have e5 := lpo_eq o ho.1.2 (nodes s + nodes t) s t (Nat.le_refl _) hw hw' g2.1 g3.1 g2.2.1 g3.2.1
    have e6 := lpo_eq o ho.1.2 (nodes s + nodes t) t s (by omega) hw' hw g3.1 g2.1 g3.2.1 g2.2.1
    have c1 : G 62 [.elt (ocells o) 0, .elt [sv s.name, .sl 2 (s.args.map tcells)] 0, .elt [sv t.name, .sl 2 (t.args.map tcells)] 0] = some (vb (lpoN o (nodes s + nodes t) s t), []) := by
      rw [g62]
      simp -implicitDefEqProofs only [neg1_lt, brn_true, brn_false, brn_ite, Option.bind_some, Option.bind_none, pBool_vb, pPick_vb, pG_vb, pWant_vb, pG_undef, pWant_undef, pLenL_sl, rLen_eq, rLenN_eq, pLenS_sv, fin_pair, fin_vb, fin_vi, pUn_not, pBin_lss, pBin_leq, pBin_gtr, pBin_geq, pBin_eql, pBin_neq, pBinY_lss, pBinY_leq, pBinY_gtr, pBinY_geq, pBinY_eql, pBinY_neq, pBin_beql, pBin_bneq, pBin_add, pBin_sub, pBin_mul, pBin_seql, pBin_sneq, pBin_slss, pLoadP_0, pAdd_elt, pField_agg, pCells_agg, cGet_zero, cGet_one, cGet_two, cGet_three, okA_sl, okA_elt, okA_fn, okA_vi, okA_vb, okA_sv, pRows_sl, pTup_0, pTup_1, pTup_2, pMax_vi, pMin_vi, hD_eq, hR_0, hR_1, hR_2, List.all_cons, List.all_nil, List.length_cons, List.length_nil, List.length_map, Nat.zero_add, Bool.and_self, Bool.and_true, and_self, if_true, if_false, Bool.true_eq_false, Bool.false_eq_true, decide_true, decide_false, Bool.not_true, Bool.not_false, reduceIte, Bool.not_eq_true', decide_eq_true_eq, decide_eq_false_iff_not, Int.lt_irrefl, not_true_eq_false, not_false_eq_true, Nat.reduceAdd, ite_true, ite_false, pLoadN_2, pLoadN_3, e5]
    have c2 : G 64 [.elt (ocells o) 0, .elt [sv t.name, .sl 2 (t.args.map tcells)] 0, .elt [sv s.name, .sl 2 (s.args.map tcells)] 0] = some (vb (lpoN o (nodes s + nodes t) t s), []) := by
      rw [g64]
      simp -implicitDefEqProofs only [neg1_lt, brn_true, brn_false, brn_ite, Option.bind_some, Option.bind_none, pBool_vb, pPick_vb, pG_vb, pWant_vb, pG_undef, pWant_undef, pLenL_sl, rLen_eq, rLenN_eq, pLenS_sv, fin_pair, fin_vb, fin_vi, pUn_not, pBin_lss, pBin_leq, pBin_gtr, pBin_geq, pBin_eql, pBin_neq, pBinY_lss, pBinY_leq, pBinY_gtr, pBinY_geq, pBinY_eql, pBinY_neq, pBin_beql, pBin_bneq, pBin_add, pBin_sub, pBin_mul, pBin_seql, pBin_sneq, pBin_slss, pLoadP_0, pAdd_elt, pField_agg, pCells_agg, cGet_zero, cGet_one, cGet_two, cGet_three, okA_sl, okA_elt, okA_fn, okA_vi, okA_vb, okA_sv, pRows_sl, pTup_0, pTup_1, pTup_2, pMax_vi, pMin_vi, hD_eq, hR_0, hR_1, hR_2, List.all_cons, List.all_nil, List.length_cons, List.length_nil, List.length_map, Nat.zero_add, Bool.and_self, Bool.and_true, and_self, if_true, if_false, Bool.true_eq_false, Bool.false_eq_true, decide_true, decide_false, Bool.not_true, Bool.not_false, reduceIte, Bool.not_eq_true', decide_eq_true_eq, decide_eq_false_iff_not, Int.lt_irrefl, not_true_eq_false, not_false_eq_true, Nat.reduceAdd, ite_true, ite_false, pLoadN_2, pLoadN_3, e6]
    have e7 := ordered_eq (f := 62) (g := 64) rfl rfl (dq s t) _ _ c1 c2
    simp -implicitDefEqProofs only [neg1_lt, brn_true, brn_false, brn_ite, Option.bind_some, Option.bind_none, pBool_vb, pPick_vb, pG_vb, pWant_vb, pG_undef, pWant_undef, pLenL_sl, rLen_eq, rLenN_eq, pLenS_sv, fin_pair, fin_vb, fin_vi, pUn_not, pBin_lss, pBin_leq, pBin_gtr, pBin_geq, pBin_eql, pBin_neq, pBinY_lss, pBinY_leq, pBinY_gtr, pBinY_geq, pBinY_eql, pBinY_neq, pBin_beql, pBin_bneq, pBin_add, pBin_sub, pBin_mul, pBin_seql, pBin_sneq, pBin_slss, pLoadP_0, pAdd_elt, pField_agg, pCells_agg, cGet_zero, cGet_one, cGet_two, cGet_three, okA_sl, okA_elt, okA_fn, okA_vi, okA_vb, okA_sv, pRows_sl, pTup_0, pTup_1, pTup_2, pMax_vi, pMin_vi, hD_eq, hR_0, hR_1, hR_2, List.all_cons, List.all_nil, List.length_cons, List.length_nil, List.length_map, Nat.zero_add, Bool.and_self, Bool.and_true, and_self, if_true, if_false, Bool.true_eq_false, Bool.false_eq_true, decide_true, decide_false, Bool.not_true, Bool.not_false, reduceIte, Bool.not_eq_true', decide_eq_true_eq, decide_eq_false_iff_not, Int.lt_irrefl, not_true_eq_false, not_false_eq_true, Nat.reduceAdd, ite_true, ite_false, e1, e4, e7, cmpLPO]

theorem compareLPO_shape (o : Ord') (s t : T) : ∃ (x : Int) (b : Bool), compareLPO o s t = .tup [vi x, vb b] := by
  unfold compareLPO
  split
  · exact ⟨_, _, rfl⟩
  · exact ⟨_, _, rfl⟩

theorem left1_sz {left : Int} {n : Nat} (h0 : 0 ≤ left) (h1 : left ≤ 1048576) (h : ¬ left1 left (n : Int) < 0) : 0 ≤ left1 left (n : Int) ∧ left1 left (n : Int) ≤ 1048576 ∧ n ≤ 1048576 := by
  unfold left1 at h ⊢
  split at h
  · rename_i hc
    rw [if_pos hc]
    omega
  · exact absurd neg1_lt h

theorem law_compareLPO (o : Ord') (s t : T) (ho : owf o) (hw : twf s) (hw' : twf t) : G 5 [od o, tm s, tm t] = some (vb true, []) := by
  have e1 := sz_ord o ho 1048576 (by decide) (by decide)
  rw [g5]
  by_cases h1 : left1 1048576 ((osz o : Nat) : Int) < 0
  · simp -implicitDefEqProofs only [neg1_lt, brn_true, brn_false, brn_ite, Option.bind_some, Option.bind_none, pBool_vb, pPick_vb, pG_vb, pWant_vb, pG_undef, pWant_undef, pLenL_sl, rLen_eq, rLenN_eq, pLenS_sv, fin_pair, fin_vb, fin_vi, pUn_not, pBin_lss, pBin_leq, pBin_gtr, pBin_geq, pBin_eql, pBin_neq, pBinY_lss, pBinY_leq, pBinY_gtr, pBinY_geq, pBinY_eql, pBinY_neq, pBin_beql, pBin_bneq, pBin_add, pBin_sub, pBin_mul, pBin_seql, pBin_sneq, pBin_slss, pLoadP_0, pAdd_elt, pField_agg, pCells_agg, cGet_zero, cGet_one, cGet_two, cGet_three, okA_sl, okA_elt, okA_fn, okA_vi, okA_vb, okA_sv, pRows_sl, pTup_0, pTup_1, pTup_2, pMax_vi, pMin_vi, hD_eq, hR_0, hR_1, hR_2, List.all_cons, List.all_nil, List.length_cons, List.length_nil, List.length_map, Nat.zero_add, Bool.and_self, Bool.and_true, and_self, if_true, if_false, Bool.true_eq_false, Bool.false_eq_true, decide_true, decide_false, Bool.not_true, Bool.not_false, reduceIte, Bool.not_eq_true', decide_eq_true_eq, decide_eq_false_iff_not, Int.lt_irrefl, not_true_eq_false, not_false_eq_true, Nat.reduceAdd, ite_true, ite_false, e1, h1]
  · obtain ⟨b1, b2, b3⟩ := left1_sz (by decide) (by decide) h1
    generalize left1 1048576 ((osz o : Nat) : Int) = l1 at *
    have e2 := sz_term s hw l1 b1 b2
    by_cases h2 : left1 l1 ((tsz s : Nat) : Int) < 0
    · simp -implicitDefEqProofs only [neg1_lt, brn_true, brn_false, brn_ite, Option.bind_some, Option.bind_none, pBool_vb, pPick_vb, pG_vb, pWant_vb, pG_undef, pWant_undef, pLenL_sl, rLen_eq, rLenN_eq, pLenS_sv, fin_pair, fin_vb, fin_vi, pUn_not, pBin_lss, pBin_leq, pBin_gtr, pBin_geq, pBin_eql, pBin_neq, pBinY_lss, pBinY_leq, pBinY_gtr, pBinY_geq, pBinY_eql, pBinY_neq, pBin_beql, pBin_bneq, pBin_add, pBin_sub, pBin_mul, pBin_seql, pBin_sneq, pBin_slss, pLoadP_0, pAdd_elt, pField_agg, pCells_agg, cGet_zero, cGet_one, cGet_two, cGet_three, okA_sl, okA_elt, okA_fn, okA_vi, okA_vb, okA_sv, pRows_sl, pTup_0, pTup_1, pTup_2, pMax_vi, pMin_vi, hD_eq, hR_0, hR_1, hR_2, List.all_cons, List.all_nil, List.length_cons, List.length_nil, List.length_map, Nat.zero_add, Bool.and_self, Bool.and_true, and_self, if_true, if_false, Bool.true_eq_false, Bool.false_eq_true, decide_true, decide_false, Bool.not_true, Bool.not_false, reduceIte, Bool.not_eq_true', decide_eq_true_eq, decide_eq_false_iff_not, Int.lt_irrefl, not_true_eq_false, not_false_eq_true, Nat.reduceAdd, ite_true, ite_false, e1, h1, e2, h2]
    · obtain ⟨b4, b5, b6⟩ := left1_sz b1 b2 h2
      generalize left1 l1 ((tsz s : Nat) : Int) = l2 at *
      have e3 := sz_term t hw' l2 b4 b5
      by_cases h3 : left1 l2 ((tsz t : Nat) : Int) < 0
      · simp -implicitDefEqProofs only [neg1_lt, brn_true, brn_false, brn_ite, Option.bind_some, Option.bind_none, pBool_vb, pPick_vb, pG_vb, pWant_vb, pG_undef, pWant_undef, pLenL_sl, rLen_eq, rLenN_eq, pLenS_sv, fin_pair, fin_vb, fin_vi, pUn_not, pBin_lss, pBin_leq, pBin_gtr, pBin_geq, pBin_eql, pBin_neq, pBinY_lss, pBinY_leq, pBinY_gtr, pBinY_geq, pBinY_eql, pBinY_neq, pBin_beql, pBin_bneq, pBin_add, pBin_sub, pBin_mul, pBin_seql, pBin_sneq, pBin_slss, pLoadP_0, pAdd_elt, pField_agg, pCells_agg, cGet_zero, cGet_one, cGet_two, cGet_three, okA_sl, okA_elt, okA_fn, okA_vi, okA_vb, okA_sv, pRows_sl, pTup_0, pTup_1, pTup_2, pMax_vi, pMin_vi, hD_eq, hR_0, hR_1, hR_2, List.all_cons, List.all_nil, List.length_cons, List.length_nil, List.length_map, Nat.zero_add, Bool.and_self, Bool.and_true, and_self, if_true, if_false, Bool.true_eq_false, Bool.false_eq_true, decide_true, decide_false, Bool.not_true, Bool.not_false, reduceIte, Bool.not_eq_true', decide_eq_true_eq, decide_eq_false_iff_not, Int.lt_irrefl, not_true_eq_false, not_false_eq_true, Nat.reduceAdd, ite_true, ite_false, e1, h1, e2, h2, e3, h3]
      · obtain ⟨b7, b8, b9⟩ := left1_sz b4 b5 h3
        have a1 := to_ord o b3
        have a2 := to_term s b6
        have a2' := to_term t b9
        have a3 := spec_compareLPO o s t ho hw b6 hw' b9
        have a4 := impl_compareLPO o s t ho hw b6 hw' b9
        have a5 := eq_ord o ho
        have a6 := eq_term s hw
        have a6' := eq_term t hw'
        obtain ⟨x, b, hx⟩ := compareLPO_shape o s t
        rw [hx] at a3 a4
        simp -implicitDefEqProofs only [neg1_lt, brn_true, brn_false, brn_ite, Option.bind_some, Option.bind_none, pBool_vb, pPick_vb, pG_vb, pWant_vb, pG_undef, pWant_undef, pLenL_sl, rLen_eq, rLenN_eq, pLenS_sv, fin_pair, fin_vb, fin_vi, pUn_not, pBin_lss, pBin_leq, pBin_gtr, pBin_geq, pBin_eql, pBin_neq, pBinY_lss, pBinY_leq, pBinY_gtr, pBinY_geq, pBinY_eql, pBinY_neq, pBin_beql, pBin_bneq, pBin_add, pBin_sub, pBin_mul, pBin_seql, pBin_sneq, pBin_slss, pLoadP_0, pAdd_elt, pField_agg, pCells_agg, cGet_zero, cGet_one, cGet_two, cGet_three, okA_sl, okA_elt, okA_fn, okA_vi, okA_vb, okA_sv, pRows_sl, pTup_0, pTup_1, pTup_2, pMax_vi, pMin_vi, hD_eq, hR_0, hR_1, hR_2, List.all_cons, List.all_nil, List.length_cons, List.length_nil, List.length_map, Nat.zero_add, Bool.and_self, Bool.and_true, and_self, if_true, if_false, Bool.true_eq_false, Bool.false_eq_true, decide_true, decide_false, Bool.not_true, Bool.not_false, reduceIte, Bool.not_eq_true', decide_eq_true_eq, decide_eq_false_iff_not, Int.lt_irrefl, not_true_eq_false, not_false_eq_true, Nat.reduceAdd, ite_true, ite_false, e1, h1, e2, h2, e3, h3, a1, a2, a2', a3, a4, a5, a6, a6']
end Go.Proofs.Ytheaeglaebimoaa
