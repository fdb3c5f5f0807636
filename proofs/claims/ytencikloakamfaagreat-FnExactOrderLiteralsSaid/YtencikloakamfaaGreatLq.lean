/- COMPARELPO: program and reference; the law. -/
import Derived.Test.YtencikloakamfaaGreatLp
namespace Go.Proofs.YtencikloakamfaaGreat
open Go Go.RowKit Go.Proofs.YtencikloakamfaaGreat.Abs

set_option linter.unusedSimpArgs false
set_option linter.unusedVariables false
set_option maxHeartbeats 1000000

def codeI (e g l : Bool) : Int := if e then 1 else if g then 2 else if l then 3 else 0

theorem l6Code_eq (e g l : Bool) : G 105 [vb e, vb g, vb l] = some (vi (codeI e g l), []) := by
  rw [g105]
  cases e <;> cases g <;> cases l <;> simp -implicitDefEqProofs only [neg1_lt, brn_true, brn_false, brn_ite, Option.bind_some, Option.bind_none, pBool_vb, pPick_vb, pG_vb, pWant_vb, pG_undef, pWant_undef, pLenL_sl, rLen_eq, rLenN_eq, pLenS_sv, fin_pair, fin_vb, fin_vi, pUn_not, pBin_lss, pBin_leq, pBin_gtr, pBin_geq, pBin_eql, pBin_neq, pBinY_lss, pBinY_leq, pBinY_gtr, pBinY_geq, pBinY_eql, pBinY_neq, pBin_beql, pBin_bneq, pBin_add, pBin_sub, pBin_mul, pBin_seql, pBin_sneq, pBin_slss, pLoadP_0, pAdd_elt, pField_agg, pCells_agg, cGet_zero, cGet_one, cGet_two, cGet_three, okA_sl, okA_elt, okA_fn, okA_vi, okA_vb, okA_sv, pRows_sl, pTup_0, pTup_1, pTup_2, pMax_vi, pMin_vi, hD_eq, hR_0, hR_1, hR_2, List.all_cons, List.all_nil, List.length_cons, List.length_nil, List.length_map, Nat.zero_add, Bool.and_self, Bool.and_true, and_self, if_true, if_false, Bool.true_eq_false, Bool.false_eq_true, decide_true, decide_false, Bool.not_true, Bool.not_false, reduceIte, Bool.not_eq_true', decide_eq_true_eq, decide_eq_false_iff_not, Int.lt_irrefl, not_true_eq_false, not_false_eq_true, Nat.reduceAdd, ite_true, ite_false, codeI]

theorem ordered_eq {f g : FuncId} {caps caps' : List A} (hf : K.pureF f = true) (hg : K.pureF g = true) (e gr le : Bool) (h1 : G f caps = some (vb gr, [])) (h2 : G g caps' = some (vb le, [])) :
    G 98 [vb e, .fn f caps, .fn g caps'] = some (vi (codeI e gr le), []) := by
  rw [g98]
  cases e <;> cases gr <;> cases le <;> simp -implicitDefEqProofs only [neg1_lt, brn_true, brn_false, brn_ite, Option.bind_some, Option.bind_none, pBool_vb, pPick_vb, pG_vb, pWant_vb, pG_undef, pWant_undef, pLenL_sl, rLen_eq, rLenN_eq, pLenS_sv, fin_pair, fin_vb, fin_vi, pUn_not, pBin_lss, pBin_leq, pBin_gtr, pBin_geq, pBin_eql, pBin_neq, pBinY_lss, pBinY_leq, pBinY_gtr, pBinY_geq, pBinY_eql, pBinY_neq, pBin_beql, pBin_bneq, pBin_add, pBin_sub, pBin_mul, pBin_seql, pBin_sneq, pBin_slss, pLoadP_0, pAdd_elt, pField_agg, pCells_agg, cGet_zero, cGet_one, cGet_two, cGet_three, okA_sl, okA_elt, okA_fn, okA_vi, okA_vb, okA_sv, pRows_sl, pTup_0, pTup_1, pTup_2, pMax_vi, pMin_vi, hD_eq, hR_0, hR_1, hR_2, List.all_cons, List.all_nil, List.length_cons, List.length_nil, List.length_map, Nat.zero_add, Bool.and_self, Bool.and_true, and_self, if_true, if_false, Bool.true_eq_false, Bool.false_eq_true, decide_true, decide_false, Bool.not_true, Bool.not_false, reduceIte, Bool.not_eq_true', decide_eq_true_eq, decide_eq_false_iff_not, Int.lt_irrefl, not_true_eq_false, not_false_eq_true, Nat.reduceAdd, ite_true, ite_false, callc_fn hf, callc_fn hg, List.nil_append, h1, h2, codeI]

noncomputable def cmpLPO (o : Ord') (s t : T) : Int := codeI (dq s t) (lpoN o (nodes s + nodes t) s t) (lpoN o (nodes s + nodes t) t s)
noncomputable def compareLPO (o : Ord') (s t : T) : A := if validO o && (good o s && good o t) then .tup [vi (cmpLPO o s t), vb true] else .tup [vi 0, vb false]

theorem isCovered2 (o : Ord') (s t : T) (ho : owf o) (hw : twf s) (hs : tsz s ≤ 1048576) (hw' : twf t) (hs' : tsz t ≤ 1048576) : G 62 [od o, .sl 2 [[sv s.name, .sl 2 (s.args.map tcells)], [sv t.name, .sl 2 (t.args.map tcells)]]] = some (vb (validO o && (good o s && good o t)), []) := by
  have e1 := isCovered_eq o [s, t] ho (by simp) (by simp [hw, hs, hw', hs'])
  have e0 : (tms [s, t] : A) = .sl 2 [[sv s.name, .sl 2 (s.args.map tcells)], [sv t.name, .sl 2 (t.args.map tcells)]] := by show A.sl 2 [tcells s, tcells t] = _; rw [tcells_eq, tcells_eq]
  rw [e0] at e1
  simp only [List.all_cons, List.all_nil, Bool.and_true] at e1
  exact e1

theorem compareLPO_shape (o : Ord') (s t : T) : ∃ (x : Int) (b : Bool), compareLPO o s t = .tup [vi x, vb b] := by
  unfold compareLPO
  split
  · exact ⟨_, _, rfl⟩
  · exact ⟨_, _, rfl⟩

theorem left1_sz {left : Int} {n : Nat} (h0 : 0 ≤ left) (h1 : left ≤ 1048576) (h : ¬ left1 left (n : Int) < 0) : 0 ≤ left1 left (n : Int) ∧ left1 left (n : Int) ≤ 1048576 ∧ n ≤ 1048576 := by
  unfold left1 at h ⊢
  split at h
  · rename_i hc
    rw [if_pos hc]
    omega
  · exact absurd neg1_lt h

end Go.Proofs.YtencikloakamfaaGreat
