/- FirstNotDecreasing: the law. -/
import Derived.Test.YtheaeglaebimoaaGreatFd
namespace Go.Proofs.YtheaeglaebimoaaGreat
open Go Go.RowKit Go.Proofs.YtheaeglaebimoaaGreat.Abs

set_option linter.unusedSimpArgs false
set_option linter.unusedVariables false
set_option maxHeartbeats 1000000

theorem fndR_shape (o : Ord') (ts : List T) : ∃ (x : Int) (b : Bool), fndR o ts = .tup [vi x, vb b] := by
  unfold fndR
  split
  · exact ⟨_, _, rfl⟩
  · exact ⟨_, _, rfl⟩

theorem law_firstNotDecreasing (o : Ord') (ts : List T) (ho : owf o) (hw : (∀ t ∈ ts, twf t) ∧ ts.length ≤ 9223372036854775807) : G 3 [od o, tms ts] = some (vb true, []) := by
  have e1 := sz_ord o ho 1048576 (by decide) (by decide)
  rw [g3]
  by_cases h1 : left1 1048576 ((osz o : Nat) : Int) < 0
  · simp -implicitDefEqProofs only [neg1_lt, brn_true, brn_false, brn_ite, Option.bind_some, Option.bind_none, pBool_vb, pPick_vb, pG_vb, pWant_vb, pG_undef, pWant_undef, pLenL_sl, rLen_eq, rLenN_eq, pLenS_sv, fin_pair, fin_vb, fin_vi, pUn_not, pBin_lss, pBin_leq, pBin_gtr, pBin_geq, pBin_eql, pBin_neq, pBinY_lss, pBinY_leq, pBinY_gtr, pBinY_geq, pBinY_eql, pBinY_neq, pBin_beql, pBin_bneq, pBin_add, pBin_sub, pBin_mul, pBin_seql, pBin_sneq, pBin_slss, pLoadP_0, pAdd_elt, pField_agg, pCells_agg, cGet_zero, cGet_one, cGet_two, cGet_three, okA_sl, okA_elt, okA_fn, okA_vi, okA_vb, okA_sv, pRows_sl, pTup_0, pTup_1, pTup_2, pMax_vi, pMin_vi, hD_eq, hR_0, hR_1, hR_2, List.all_cons, List.all_nil, List.length_cons, List.length_nil, List.length_map, Nat.zero_add, Bool.and_self, Bool.and_true, and_self, if_true, if_false, Bool.true_eq_false, Bool.false_eq_true, decide_true, decide_false, Bool.not_true, Bool.not_false, reduceIte, Bool.not_eq_true', decide_eq_true_eq, decide_eq_false_iff_not, Int.lt_irrefl, not_true_eq_false, not_false_eq_true, Nat.reduceAdd, ite_true, ite_false, e1, h1]
  obtain ⟨b1, b2, b3⟩ := left1_sz (by decide) (by decide) h1
  generalize left1 1048576 ((osz o : Nat) : Int) = l1 at *
  have e2 := sz_terms ts hw.2 (fun t ht => sz_term t (hw.1 t ht)) l1 b1 b2
  by_cases h2 : left1 l1 ((ts.length + tszL ts : Nat) : Int) < 0
  · simp -implicitDefEqProofs only [neg1_lt, brn_true, brn_false, brn_ite, Option.bind_some, Option.bind_none, pBool_vb, pPick_vb, pG_vb, pWant_vb, pG_undef, pWant_undef, pLenL_sl, rLen_eq, rLenN_eq, pLenS_sv, fin_pair, fin_vb, fin_vi, pUn_not, pBin_lss, pBin_leq, pBin_gtr, pBin_geq, pBin_eql, pBin_neq, pBinY_lss, pBinY_leq, pBinY_gtr, pBinY_geq, pBinY_eql, pBinY_neq, pBin_beql, pBin_bneq, pBin_add, pBin_sub, pBin_mul, pBin_seql, pBin_sneq, pBin_slss, pLoadP_0, pAdd_elt, pField_agg, pCells_agg, cGet_zero, cGet_one, cGet_two, cGet_three, okA_sl, okA_elt, okA_fn, okA_vi, okA_vb, okA_sv, pRows_sl, pTup_0, pTup_1, pTup_2, pMax_vi, pMin_vi, hD_eq, hR_0, hR_1, hR_2, List.all_cons, List.all_nil, List.length_cons, List.length_nil, List.length_map, Nat.zero_add, Bool.and_self, Bool.and_true, and_self, if_true, if_false, Bool.true_eq_false, Bool.false_eq_true, decide_true, decide_false, Bool.not_true, Bool.not_false, reduceIte, Bool.not_eq_true', decide_eq_true_eq, decide_eq_false_iff_not, Int.lt_irrefl, not_true_eq_false, not_false_eq_true, Nat.reduceAdd, ite_true, ite_false, e1, h1, e2, h2]
  obtain ⟨b4, b5, b6⟩ := left1_sz b1 b2 h2
  generalize left1 l1 ((ts.length + tszL ts : Nat) : Int) = l2 at *
  have hs : ∀ t ∈ ts, tsz t ≤ 1048576 := fun t ht => by have := tsz_mem ht; omega
  have a1 := to_ord o b3
  have a2 := to_terms ts (by omega) fun t ht => to_term t (hs t ht)
  have a3 := spec_fnd o ts ho hw.2 hw.1 hs
  have a4 := impl_fnd o ts ho hw.2 hw.1 hs
  have a5 := eq_ord o ho
  have a6 := eq_terms ts hw.2 fun t ht => eq_term t (hw.1 t ht)
  obtain ⟨x, b, hx⟩ := fndR_shape o ts
  rw [hx] at a3 a4
  simp -implicitDefEqProofs only [neg1_lt, brn_true, brn_false, brn_ite, Option.bind_some, Option.bind_none, pBool_vb, pPick_vb, pG_vb, pWant_vb, pG_undef, pWant_undef, pLenL_sl, rLen_eq, rLenN_eq, pLenS_sv, fin_pair, fin_vb, fin_vi, pUn_not, pBin_lss, pBin_leq, pBin_gtr, pBin_geq, pBin_eql, pBin_neq, pBinY_lss, pBinY_leq, pBinY_gtr, pBinY_geq, pBinY_eql, pBinY_neq, pBin_beql, pBin_bneq, pBin_add, pBin_sub, pBin_mul, pBin_seql, pBin_sneq, pBin_slss, pLoadP_0, pAdd_elt, pField_agg, pCells_agg, cGet_zero, cGet_one, cGet_two, cGet_three, okA_sl, okA_elt, okA_fn, okA_vi, okA_vb, okA_sv, pRows_sl, pTup_0, pTup_1, pTup_2, pMax_vi, pMin_vi, hD_eq, hR_0, hR_1, hR_2, List.all_cons, List.all_nil, List.length_cons, List.length_nil, List.length_map, Nat.zero_add, Bool.and_self, Bool.and_true, and_self, if_true, if_false, Bool.true_eq_false, Bool.false_eq_true, decide_true, decide_false, Bool.not_true, Bool.not_false, reduceIte, Bool.not_eq_true', decide_eq_true_eq, decide_eq_false_iff_not, Int.lt_irrefl, not_true_eq_false, not_false_eq_true, Nat.reduceAdd, ite_true, ite_false, e1, h1, e2, h2, a1, a2, a3, a4, a5, a6]
end Go.Proofs.YtheaeglaebimoaaGreat
