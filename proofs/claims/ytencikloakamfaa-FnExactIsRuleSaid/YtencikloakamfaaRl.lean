/- RULES: the symbols of a term; both sides' standard ordering. -/
import Derived.Test.YtencikloakamfaaKb
import Derived.Test.YtencikloakamfaaQc
import Derived.Sort.Walk0
namespace Go.Proofs.Ytencikloakamfaa
open Go Go.RowKit Go.Proofs.Ytencikloakamfaa.Abs

set_option linter.unusedSimpArgs false
set_option linter.unusedVariables false
set_option maxHeartbeats 1000000

/-! ### Rising lists of names -/
/-- Strictly rising. -/
def Srt (l : List (List UInt8)) : Prop := l.Pairwise fun x y => x < y
theorem sLt_eq (x y : List UInt8) : sLt x y = decide (x < y) := Go.Proofs.bytesLess_eq x y
theorem lt_tri {x y : List UInt8} (h1 : ¬ x < y) (h2 : x ≠ y) : y < x := by
  have h3 : y ≤ x := List.not_lt.1 h1
  exact Std.lt_of_le_of_ne h3 (Ne.symm h2)
theorem srt_ext : ∀ (a b : List (List UInt8)), Srt a → Srt b → (∀ n, n ∈ a ↔ n ∈ b) → a = b
  | [], [], _, _, _ => rfl
  | [], y :: b, _, _, h => by have := (h y).2 (by simp); cases this
  | x :: a, [], _, _, h => by have := (h x).1 (by simp); cases this
  | x :: a, y :: b, ha, hb, h => by
    have ha' := List.pairwise_cons.1 ha
    have hb' := List.pairwise_cons.1 hb
    have hxy : x = y := by
      have h1 : x ∈ y :: b := (h x).1 (by simp)
      have h2 : y ∈ x :: a := (h y).2 (by simp)
      rcases List.mem_cons.1 h1 with h1 | h1
      · exact h1
      · rcases List.mem_cons.1 h2 with h2 | h2
        · exact h2.symm
        · exact absurd (List.lt_trans (ha'.1 y h2) (hb'.1 x h1)) (List.lt_irrefl x)
    subst hxy
    refine congrArg (x :: ·) (srt_ext a b ha'.2 hb'.2 fun n => ⟨fun hn => ?_, fun hn => ?_⟩)
    · rcases List.mem_cons.1 ((h n).1 (List.mem_cons_of_mem _ hn)) with e | e
      · subst e; exact absurd (ha'.1 _ hn) (List.lt_irrefl _)
      · exact e
    · rcases List.mem_cons.1 ((h n).2 (List.mem_cons_of_mem _ hn)) with e | e
      · subst e; exact absurd (hb'.1 _ hn) (List.lt_irrefl _)
      · exact e
theorem srt_sort {l : List (List UInt8)} (h : l.Nodup) : Srt (sortB l) := by
  have h1 : (sortB l).Pairwise fun x y => decide (x ≤ y) = true := List.pairwise_mergeSort (fun a b c h1 h2 => by simp only [decide_eq_true_eq] at *; exact List.le_trans h1 h2) (fun a b => by simp only [Bool.or_eq_true, decide_eq_true_eq]; exact List.le_total a b) l
  have h2 : (sortB l).Nodup := (List.mergeSort_perm l _).nodup_iff.2 h
  exact (h1.and h2).imp fun {x y} hxy => Std.lt_of_le_of_ne (by simpa using hxy.1) hxy.2
theorem srt_put {l : List (List UInt8)} {s : List UInt8} {i : Nat} (hl : Srt l) (h1 : ∀ x ∈ l.take i, x < s) (h2 : ∀ h : i < l.length, s < l[i]) : Srt (l.take i ++ [s] ++ l.drop i) := by
  have hl' : Srt (l.take i ++ l.drop i) := by rw [List.take_append_drop]; exact hl
  obtain ⟨p1, p2, p3⟩ := List.pairwise_append.1 hl'
  have h3 : ∀ y ∈ l.drop i, s < y := by
    intro y hy
    have hlt : i < l.length := by
      rcases Nat.lt_or_ge i l.length with h | h
      · exact h
      · rw [List.drop_of_length_le h] at hy; cases hy
    rw [List.drop_eq_getElem_cons hlt] at hy p2
    rcases List.mem_cons.1 hy with e | e
    · subst e; exact h2 hlt
    · exact List.lt_trans (h2 hlt) ((List.pairwise_cons.1 p2).1 y e)
  refine List.pairwise_append.2 ⟨List.pairwise_append.2 ⟨p1, by simp, fun a ha b hb => ?_⟩, p2, fun a ha b hb => ?_⟩
  · rw [List.mem_singleton.1 hb]; exact h1 a ha
  · rcases List.mem_append.1 ha with ha | ha
    · exact p3 a ha b hb
    · rw [List.mem_singleton.1 ha]; exact h3 b hb
theorem srt_nodup {l : List (List UInt8)} (h : Srt l) : l.Nodup := h.imp fun {x y} hxy e => by subst e; exact List.lt_irrefl _ hxy

/-! ### Symbols of a term -/
mutual
def symsT : T → List (List UInt8)
  | .mk n us => (if varN n then [] else [n]) ++ symsTL us
def symsTL : List T → List (List UInt8)
  | [] => []
  | t :: ts => symsT t ++ symsTL ts
end
theorem symsT_eq (t : T) : symsT t = (if varN t.name then [] else [t.name]) ++ symsTL t.args := by cases t; rfl

theorem l2Put_srt (l : List (List UInt8)) (s : List UInt8) (hl : l.length ≤ 2100000) : ∃ r, G 131 [strs l, sv s] = some (strs r, []) ∧ Coll l [s] 1 r ∧ (Srt l → Srt r) := by
  have key := upto (P := fun i => (Srt l → ∀ x ∈ l.take i, x < s) → ∃ r, L131_0 (strs l) (sv s) (vi i) = some (strs r, []) ∧ Coll l [s] 1 r ∧ (Srt l → Srt r)) (n := l.length) ?_ ?_ 0 (Nat.zero_le _)
  · simp only [Int.natCast_zero] at key
    rw [g131]
    exact key (by simp)
  · intro hless
    have hx : ¬ ((l.length : Nat) : Int) < ((l.length : Nat) : Int) := Int.lt_irrefl _
    have s1 : pSlice 1 (strs l) none (some (vi (l.length : Nat))) = some (strs l) := by rw [pSlice_take (by simp), List.take_of_length_le (by simp)]
    have s2 : pSlice 1 (strs l) (some (vi (l.length : Nat))) none = some (.sl 1 []) := by rw [pSlice_drop (by simp), List.drop_of_length_le (by simp)]
    have f1 : pFit l.length 16 = true := pFit_ok (by omega)
    have f2 : pFit (l.length + 1) 16 = true := pFit_ok (by omega)
    have happ : rApp (rApp (l.map cs) [[sv s]]) [] = (l ++ [s]).map cs := by simp [rApp]
    have hlen : (rApp (l.map cs) [[sv s]]).length = l.length + 1 := by simp [rApp]
    refine ⟨l ++ [s], ?_, ⟨by intro n; simp, by simp⟩, fun h => ?_⟩
    · rw [l131_0]
      simp -implicitDefEqProofs only [neg1_lt, brn_true, brn_false, brn_ite, Option.bind_some, Option.bind_none, pBool_vb, pPick_vb, pG_vb, pWant_vb, pG_undef, pWant_undef, pLenL_sl, rLen_eq, rLenN_eq, pLenS_sv, fin_pair, fin_vb, fin_vi, pUn_not, pBin_lss, pBin_leq, pBin_gtr, pBin_geq, pBin_eql, pBin_neq, pBinY_lss, pBinY_leq, pBinY_gtr, pBinY_geq, pBinY_eql, pBinY_neq, pBin_beql, pBin_bneq, pBin_add, pBin_sub, pBin_mul, pBin_seql, pBin_sneq, pBin_slss, pLoadP_0, pAdd_elt, pField_agg, pCells_agg, cGet_zero, cGet_one, cGet_two, cGet_three, okA_sl, okA_elt, okA_fn, okA_vi, okA_vb, okA_sv, pRows_sl, pTup_0, pTup_1, pTup_2, pMax_vi, pMin_vi, hD_eq, hR_0, hR_1, hR_2, List.all_cons, List.all_nil, List.length_cons, List.length_nil, List.length_map, Nat.zero_add, Bool.and_self, Bool.and_true, and_self, if_true, if_false, Bool.true_eq_false, Bool.false_eq_true, decide_true, decide_false, Bool.not_true, Bool.not_false, reduceIte, Bool.not_eq_true', decide_eq_true_eq, decide_eq_false_iff_not, Int.lt_irrefl, not_true_eq_false, not_false_eq_true, Nat.reduceAdd, ite_true, ite_false, hx, s1, s2, f1, f2, hlen, happ, Nat.add_zero]
    · have := srt_put (s := s) (i := l.length) h (hless h) (fun h => absurd h (Nat.lt_irrefl _))
      simpa using this
  · intro i hi ih hless
    have hlt : (i : Int) < ((l.length : Nat) : Int) := by omega
    have h5 := add_one hi (by omega)
    rw [l131_0]
    cases h1 : sLt l[i] s
    · by_cases h2 : l[i] = s
      · refine ⟨l, ?_, ⟨fun n => ⟨fun h => Or.inl h, fun h => by
          rcases h with h | h
          · exact h
          · simp at h; rw [h, ← h2]; exact List.getElem_mem _⟩, by omega⟩, id⟩
        rw [h2] at h1
        simp -implicitDefEqProofs only [neg1_lt, brn_true, brn_false, brn_ite, Option.bind_some, Option.bind_none, pBool_vb, pPick_vb, pG_vb, pWant_vb, pG_undef, pWant_undef, pLenL_sl, rLen_eq, rLenN_eq, pLenS_sv, fin_pair, fin_vb, fin_vi, pUn_not, pBin_lss, pBin_leq, pBin_gtr, pBin_geq, pBin_eql, pBin_neq, pBinY_lss, pBinY_leq, pBinY_gtr, pBinY_geq, pBinY_eql, pBinY_neq, pBin_beql, pBin_bneq, pBin_add, pBin_sub, pBin_mul, pBin_seql, pBin_sneq, pBin_slss, pLoadP_0, pAdd_elt, pField_agg, pCells_agg, cGet_zero, cGet_one, cGet_two, cGet_three, okA_sl, okA_elt, okA_fn, okA_vi, okA_vb, okA_sv, pRows_sl, pTup_0, pTup_1, pTup_2, pMax_vi, pMin_vi, hD_eq, hR_0, hR_1, hR_2, List.all_cons, List.all_nil, List.length_cons, List.length_nil, List.length_map, Nat.zero_add, Bool.and_self, Bool.and_true, and_self, if_true, if_false, Bool.true_eq_false, Bool.false_eq_true, decide_true, decide_false, Bool.not_true, Bool.not_false, reduceIte, Bool.not_eq_true', decide_eq_true_eq, decide_eq_false_iff_not, Int.lt_irrefl, not_true_eq_false, not_false_eq_true, Nat.reduceAdd, ite_true, ite_false, hlt, pIndexAddr_map hi, h2, h1]
      · have s1 : pSlice 1 (strs l) none (some (vi i)) = some (strs (l.take i)) := by rw [pSlice_take (by simp; omega), ← List.map_take]
        have s2 : pSlice 1 (strs l) (some (vi i)) none = some (strs (l.drop i)) := by rw [pSlice_drop (by simp; omega), ← List.map_drop]
        have ht : (l.take i).length = i := by rw [List.length_take]; omega
        have f1 : pFit i 16 = true := pFit_ok (by omega)
        have f2 : pFit (i + 1) 16 = true := pFit_ok (by omega)
        have f3 : pFit (i + 1 + (l.drop i).length) 16 = true := pFit_ok (by rw [List.length_drop]; omega)
        have happ : rApp (rApp ((l.take i).map cs) [[sv s]]) ((l.drop i).map cs) = (l.take i ++ [s] ++ l.drop i).map cs := by simp [rApp]
        have hlen : (rApp ((l.take i).map cs) [[sv s]]).length = i + 1 := by simp [rApp]; omega
        refine ⟨l.take i ++ [s] ++ l.drop i, ?_, ⟨fun n => ?_, by simp; omega⟩, fun h => ?_⟩
        · simp -implicitDefEqProofs only [neg1_lt, brn_true, brn_false, brn_ite, Option.bind_some, Option.bind_none, pBool_vb, pPick_vb, pG_vb, pWant_vb, pG_undef, pWant_undef, pLenL_sl, rLen_eq, rLenN_eq, pLenS_sv, fin_pair, fin_vb, fin_vi, pUn_not, pBin_lss, pBin_leq, pBin_gtr, pBin_geq, pBin_eql, pBin_neq, pBinY_lss, pBinY_leq, pBinY_gtr, pBinY_geq, pBinY_eql, pBinY_neq, pBin_beql, pBin_bneq, pBin_add, pBin_sub, pBin_mul, pBin_seql, pBin_sneq, pBin_slss, pLoadP_0, pAdd_elt, pField_agg, pCells_agg, cGet_zero, cGet_one, cGet_two, cGet_three, okA_sl, okA_elt, okA_fn, okA_vi, okA_vb, okA_sv, pRows_sl, pTup_0, pTup_1, pTup_2, pMax_vi, pMin_vi, hD_eq, hR_0, hR_1, hR_2, List.all_cons, List.all_nil, List.length_cons, List.length_nil, List.length_map, Nat.zero_add, Bool.and_self, Bool.and_true, and_self, if_true, if_false, Bool.true_eq_false, Bool.false_eq_true, decide_true, decide_false, Bool.not_true, Bool.not_false, reduceIte, Bool.not_eq_true', decide_eq_true_eq, decide_eq_false_iff_not, Int.lt_irrefl, not_true_eq_false, not_false_eq_true, Nat.reduceAdd, ite_true, ite_false, hlt, pIndexAddr_map hi, h1, h2, s1, s2, ht, f1, f2, f3, hlen, happ]
        · have hm : n ∈ l ↔ n ∈ l.take i ∨ n ∈ l.drop i := by rw [← List.mem_append, List.take_append_drop]
          simp only [List.mem_append, List.mem_singleton, hm]
          exact ⟨fun h => by rcases h with (h | h) | h <;> simp [h], fun h => by rcases h with (h | h) | h <;> simp [h]⟩
        · rw [sLt_eq, decide_eq_false_iff_not] at h1
          exact srt_put h (hless h) fun _ => lt_tri h1 h2
    · have hx : l[i] < s := by rw [sLt_eq, decide_eq_true_eq] at h1; exact h1
      obtain ⟨r, e, c⟩ := ih fun h x hm => by
        rw [List.take_succ_eq_append_getElem hi] at hm
        rcases List.mem_append.1 hm with hm | hm
        · exact hless h x hm
        · rw [List.mem_singleton.1 hm]; exact hx
      refine ⟨r, ?_, c⟩
      simp -implicitDefEqProofs only [neg1_lt, brn_true, brn_false, brn_ite, Option.bind_some, Option.bind_none, pBool_vb, pPick_vb, pG_vb, pWant_vb, pG_undef, pWant_undef, pLenL_sl, rLen_eq, rLenN_eq, pLenS_sv, fin_pair, fin_vb, fin_vi, pUn_not, pBin_lss, pBin_leq, pBin_gtr, pBin_geq, pBin_eql, pBin_neq, pBinY_lss, pBinY_leq, pBinY_gtr, pBinY_geq, pBinY_eql, pBinY_neq, pBin_beql, pBin_bneq, pBin_add, pBin_sub, pBin_mul, pBin_seql, pBin_sneq, pBin_slss, pLoadP_0, pAdd_elt, pField_agg, pCells_agg, cGet_zero, cGet_one, cGet_two, cGet_three, okA_sl, okA_elt, okA_fn, okA_vi, okA_vb, okA_sv, pRows_sl, pTup_0, pTup_1, pTup_2, pMax_vi, pMin_vi, hD_eq, hR_0, hR_1, hR_2, List.all_cons, List.all_nil, List.length_cons, List.length_nil, List.length_map, Nat.zero_add, Bool.and_self, Bool.and_true, and_self, if_true, if_false, Bool.true_eq_false, Bool.false_eq_true, decide_true, decide_false, Bool.not_true, Bool.not_false, reduceIte, Bool.not_eq_true', decide_eq_true_eq, decide_eq_false_iff_not, Int.lt_irrefl, not_true_eq_false, not_false_eq_true, Nat.reduceAdd, ite_true, ite_false, hlt, pIndexAddr_map hi, h1, h5, e]

theorem l12Names_eq : ∀ t : T, twf t → ∀ l : List (List UInt8), l.length + nodes t ≤ 2100000 → ∃ r, G 104 [strs l, tm t] = some (strs r, []) ∧ Coll l (symsT t) (nodes t) r ∧ (Srt l → Srt r) := by
  refine T.ind fun t ih hw l hb => ?_
  obtain ⟨w1, w2, w3⟩ := (twf_eq t).1 hw
  have w3 := (twfL_iff _).1 w3
  have e1 := l2Var_eq t.name w1
  rw [g104, symsT_eq]
  rw [nodes_eq] at hb ⊢
  have key := upto (P := fun i => ∀ l : List (List UInt8), l.length + nodesL (t.args.drop i) ≤ 2100000 → ∃ r, L104_0 (strs l) (vi i) (sv t.name) (tms t.args) = some (strs r, []) ∧ Coll l (symsTL (t.args.drop i)) (nodesL (t.args.drop i)) r ∧ (Srt l → Srt r)) (n := t.args.length) ?_ ?_ 0 (Nat.zero_le _)
  · simp only [Int.natCast_zero, List.drop_zero] at key
    cases hv : varN t.name <;> rw [hv] at e1
    · obtain ⟨r0, e0, ⟨b1, b2⟩, b3⟩ := l2Put_srt l t.name (by omega)
      obtain ⟨r, e, ⟨c1, c2⟩, c3⟩ := key r0 (by omega)
      refine ⟨r, ?_, ⟨fun n => ?_, by omega⟩, fun h => c3 (b3 h)⟩
      · simp -implicitDefEqProofs only [neg1_lt, brn_true, brn_false, brn_ite, Option.bind_some, Option.bind_none, pBool_vb, pPick_vb, pG_vb, pWant_vb, pG_undef, pWant_undef, pLenL_sl, rLen_eq, rLenN_eq, pLenS_sv, fin_pair, fin_vb, fin_vi, pUn_not, pBin_lss, pBin_leq, pBin_gtr, pBin_geq, pBin_eql, pBin_neq, pBinY_lss, pBinY_leq, pBinY_gtr, pBinY_geq, pBinY_eql, pBinY_neq, pBin_beql, pBin_bneq, pBin_add, pBin_sub, pBin_mul, pBin_seql, pBin_sneq, pBin_slss, pLoadP_0, pAdd_elt, pField_agg, pCells_agg, cGet_zero, cGet_one, cGet_two, cGet_three, okA_sl, okA_elt, okA_fn, okA_vi, okA_vb, okA_sv, pRows_sl, pTup_0, pTup_1, pTup_2, pMax_vi, pMin_vi, hD_eq, hR_0, hR_1, hR_2, List.all_cons, List.all_nil, List.length_cons, List.length_nil, List.length_map, Nat.zero_add, Bool.and_self, Bool.and_true, and_self, if_true, if_false, Bool.true_eq_false, Bool.false_eq_true, decide_true, decide_false, Bool.not_true, Bool.not_false, reduceIte, Bool.not_eq_true', decide_eq_true_eq, decide_eq_false_iff_not, Int.lt_irrefl, not_true_eq_false, not_false_eq_true, Nat.reduceAdd, ite_true, ite_false, e1, e0, e]
      · rw [c1, b1]
        simp only [Bool.false_eq_true, if_false, List.mem_append]
        exact or_assoc
    · obtain ⟨r, e, ⟨c1, c2⟩, c3⟩ := key l (by omega)
      refine ⟨r, ?_, ⟨by simpa using c1, by omega⟩, c3⟩
      simp -implicitDefEqProofs only [neg1_lt, brn_true, brn_false, brn_ite, Option.bind_some, Option.bind_none, pBool_vb, pPick_vb, pG_vb, pWant_vb, pG_undef, pWant_undef, pLenL_sl, rLen_eq, rLenN_eq, pLenS_sv, fin_pair, fin_vb, fin_vi, pUn_not, pBin_lss, pBin_leq, pBin_gtr, pBin_geq, pBin_eql, pBin_neq, pBinY_lss, pBinY_leq, pBinY_gtr, pBinY_geq, pBinY_eql, pBinY_neq, pBin_beql, pBin_bneq, pBin_add, pBin_sub, pBin_mul, pBin_seql, pBin_sneq, pBin_slss, pLoadP_0, pAdd_elt, pField_agg, pCells_agg, cGet_zero, cGet_one, cGet_two, cGet_three, okA_sl, okA_elt, okA_fn, okA_vi, okA_vb, okA_sv, pRows_sl, pTup_0, pTup_1, pTup_2, pMax_vi, pMin_vi, hD_eq, hR_0, hR_1, hR_2, List.all_cons, List.all_nil, List.length_cons, List.length_nil, List.length_map, Nat.zero_add, Bool.and_self, Bool.and_true, and_self, if_true, if_false, Bool.true_eq_false, Bool.false_eq_true, decide_true, decide_false, Bool.not_true, Bool.not_false, reduceIte, Bool.not_eq_true', decide_eq_true_eq, decide_eq_false_iff_not, Int.lt_irrefl, not_true_eq_false, not_false_eq_true, Nat.reduceAdd, ite_true, ite_false, e1, e]
  · intro l hb
    rw [l104_0, List.drop_length]
    refine ⟨l, ?_, ⟨by simp [symsTL], by omega⟩, id⟩
    simp -implicitDefEqProofs only [neg1_lt, brn_true, brn_false, brn_ite, Option.bind_some, Option.bind_none, pBool_vb, pPick_vb, pG_vb, pWant_vb, pG_undef, pWant_undef, pLenL_sl, rLen_eq, rLenN_eq, pLenS_sv, fin_pair, fin_vb, fin_vi, pUn_not, pBin_lss, pBin_leq, pBin_gtr, pBin_geq, pBin_eql, pBin_neq, pBinY_lss, pBinY_leq, pBinY_gtr, pBinY_geq, pBinY_eql, pBinY_neq, pBin_beql, pBin_bneq, pBin_add, pBin_sub, pBin_mul, pBin_seql, pBin_sneq, pBin_slss, pLoadP_0, pAdd_elt, pField_agg, pCells_agg, cGet_zero, cGet_one, cGet_two, cGet_three, okA_sl, okA_elt, okA_fn, okA_vi, okA_vb, okA_sv, pRows_sl, pTup_0, pTup_1, pTup_2, pMax_vi, pMin_vi, hD_eq, hR_0, hR_1, hR_2, List.all_cons, List.all_nil, List.length_cons, List.length_nil, List.length_map, Nat.zero_add, Bool.and_self, Bool.and_true, and_self, if_true, if_false, Bool.true_eq_false, Bool.false_eq_true, decide_true, decide_false, Bool.not_true, Bool.not_false, reduceIte, Bool.not_eq_true', decide_eq_true_eq, decide_eq_false_iff_not, Int.lt_irrefl, not_true_eq_false, not_false_eq_true, Nat.reduceAdd, ite_true, ite_false]
  · intro i hi ih' l hb
    have hlt : (i : Int) < ((t.args.length : Nat) : Int) := by omega
    have h5 := add_one hi w2
    rw [drop_cons hi] at hb ⊢
    simp only [nodesL, symsTL] at hb ⊢
    obtain ⟨r1, a1, ⟨c1, c2⟩, c3⟩ := ih t.args[i] (List.getElem_mem _) (w3 _ (List.getElem_mem _)) l (by omega)
    obtain ⟨r2, a2, ⟨d1, d2⟩, d3⟩ := ih' r1 (by omega)
    rw [l104_0]
    refine ⟨r2, ?_, ⟨fun n => ?_, by omega⟩, fun h => d3 (c3 h)⟩
    · simp -implicitDefEqProofs only [neg1_lt, brn_true, brn_false, brn_ite, Option.bind_some, Option.bind_none, pBool_vb, pPick_vb, pG_vb, pWant_vb, pG_undef, pWant_undef, pLenL_sl, rLen_eq, rLenN_eq, pLenS_sv, fin_pair, fin_vb, fin_vi, pUn_not, pBin_lss, pBin_leq, pBin_gtr, pBin_geq, pBin_eql, pBin_neq, pBinY_lss, pBinY_leq, pBinY_gtr, pBinY_geq, pBinY_eql, pBinY_neq, pBin_beql, pBin_bneq, pBin_add, pBin_sub, pBin_mul, pBin_seql, pBin_sneq, pBin_slss, pLoadP_0, pAdd_elt, pField_agg, pCells_agg, cGet_zero, cGet_one, cGet_two, cGet_three, okA_sl, okA_elt, okA_fn, okA_vi, okA_vb, okA_sv, pRows_sl, pTup_0, pTup_1, pTup_2, pMax_vi, pMin_vi, hD_eq, hR_0, hR_1, hR_2, List.all_cons, List.all_nil, List.length_cons, List.length_nil, List.length_map, Nat.zero_add, Bool.and_self, Bool.and_true, and_self, if_true, if_false, Bool.true_eq_false, Bool.false_eq_true, decide_true, decide_false, Bool.not_true, Bool.not_false, reduceIte, Bool.not_eq_true', decide_eq_true_eq, decide_eq_false_iff_not, Int.lt_irrefl, not_true_eq_false, not_false_eq_true, Nat.reduceAdd, ite_true, ite_false, hlt, pIndexAddr_map hi, pLoadN_tcells, a1, h5, a2]
    · rw [d1, c1, List.mem_append]
      exact or_assoc

theorem sym_of_var {n : List UInt8} (h : varN n = true) : symN n = false := by
  cases n with
  | nil => rfl
  | cons c r =>
    simp only [varN, Bool.and_eq_true, upc, inB, decide_eq_true_eq] at h
    have : lowc c = false := by unfold lowc inB; rw [Bool.and_eq_false_iff]; left; rw [decide_eq_false_iff_not]; omega
    simp [symN, this]
theorem sym_name {t : T} (h : okT t = true) : symN t.name = !varN t.name := by
  obtain ⟨c, r, _, hv, hs⟩ := okT_name h
  cases hx : varN t.name
  · rw [hv] at hx; rw [hs hx]; rfl
  · rw [sym_of_var hx]; rfl

/-- What collecting symbols comes to. -/
def CollN (l vs : List (List UInt8)) (k : Nat) (r : List (List UInt8)) : Prop := Coll l vs k r ∧ (l.Nodup → r.Nodup)

theorem symbolsOf_loop (ts : List T) (hl : ts.length ≤ 9223372036854775807) (ih : ∀ t ∈ ts, ∀ l : List (List UInt8), l.length + nodes t ≤ 2100000 → ∃ r, C83_0 (sv t.name) (tms t.args) (l.map cs) = some (.top, [strs r]) ∧ CollN l (symsT t) (nodes t) r) :
    ∀ i, i ≤ ts.length → ∀ l : List (List UInt8), l.length + nodesL (ts.drop i) ≤ 2100000 → ∃ r, L83c0_0 (tms ts) (vi (ts.length : Nat)) (vi i) (l.map cs) = some (.top, [strs r]) ∧ CollN l (symsTL (ts.drop i)) (nodesL (ts.drop i)) r := by
  refine upto ?_ ?_
  · intro l hb
    rw [l83c0_0, List.drop_length]
    refine ⟨l, ?_, ⟨by simp [symsTL], by omega⟩, id⟩
    simp -implicitDefEqProofs only [neg1_lt, brn_true, brn_false, brn_ite, Option.bind_some, Option.bind_none, pBool_vb, pPick_vb, pG_vb, pWant_vb, pG_undef, pWant_undef, pLenL_sl, rLen_eq, rLenN_eq, pLenS_sv, fin_pair, fin_vb, fin_vi, pUn_not, pBin_lss, pBin_leq, pBin_gtr, pBin_geq, pBin_eql, pBin_neq, pBinY_lss, pBinY_leq, pBinY_gtr, pBinY_geq, pBinY_eql, pBinY_neq, pBin_beql, pBin_bneq, pBin_add, pBin_sub, pBin_mul, pBin_seql, pBin_sneq, pBin_slss, pLoadP_0, pAdd_elt, pField_agg, pCells_agg, cGet_zero, cGet_one, cGet_two, cGet_three, okA_sl, okA_elt, okA_fn, okA_vi, okA_vb, okA_sv, pRows_sl, pTup_0, pTup_1, pTup_2, pMax_vi, pMin_vi, hD_eq, hR_0, hR_1, hR_2, List.all_cons, List.all_nil, List.length_cons, List.length_nil, List.length_map, Nat.zero_add, Bool.and_self, Bool.and_true, and_self, if_true, if_false, Bool.true_eq_false, Bool.false_eq_true, decide_true, decide_false, Bool.not_true, Bool.not_false, reduceIte, Bool.not_eq_true', decide_eq_true_eq, decide_eq_false_iff_not, Int.lt_irrefl, not_true_eq_false, not_false_eq_true, Nat.reduceAdd, ite_true, ite_false]
  · intro i hi ih' l hb
    have hlt : (i : Int) < ((ts.length : Nat) : Int) := by omega
    have h5 := add_one hi hl
    rw [drop_cons hi] at hb ⊢
    simp only [nodesL, symsTL] at hb ⊢
    obtain ⟨r1, e1, ⟨c1, c2⟩, c3⟩ := ih ts[i] (List.getElem_mem _) l (by omega)
    obtain ⟨r2, e2, ⟨d1, d2⟩, d3⟩ := ih' r1 (by omega)
    rw [l83c0_0]
    refine ⟨r2, ?_, ⟨fun n => ?_, by omega⟩, fun h => d3 (c3 h)⟩
    · simp -implicitDefEqProofs only [neg1_lt, brn_true, brn_false, brn_ite, Option.bind_some, Option.bind_none, pBool_vb, pPick_vb, pG_vb, pWant_vb, pG_undef, pWant_undef, pLenL_sl, rLen_eq, rLenN_eq, pLenS_sv, fin_pair, fin_vb, fin_vi, pUn_not, pBin_lss, pBin_leq, pBin_gtr, pBin_geq, pBin_eql, pBin_neq, pBinY_lss, pBinY_leq, pBinY_gtr, pBinY_geq, pBinY_eql, pBinY_neq, pBin_beql, pBin_bneq, pBin_add, pBin_sub, pBin_mul, pBin_seql, pBin_sneq, pBin_slss, pLoadP_0, pAdd_elt, pField_agg, pCells_agg, cGet_zero, cGet_one, cGet_two, cGet_three, okA_sl, okA_elt, okA_fn, okA_vi, okA_vb, okA_sv, pRows_sl, pTup_0, pTup_1, pTup_2, pMax_vi, pMin_vi, hD_eq, hR_0, hR_1, hR_2, List.all_cons, List.all_nil, List.length_cons, List.length_nil, List.length_map, Nat.zero_add, Bool.and_self, Bool.and_true, and_self, if_true, if_false, Bool.true_eq_false, Bool.false_eq_true, decide_true, decide_false, Bool.not_true, Bool.not_false, reduceIte, Bool.not_eq_true', decide_eq_true_eq, decide_eq_false_iff_not, Int.lt_irrefl, not_true_eq_false, not_false_eq_true, Nat.reduceAdd, ite_true, ite_false, hlt, pIndexAddr_map hi, pLoadN_tcells, e1, h5, e2]
    · rw [d1, c1, List.mem_append]
      exact or_assoc

theorem symbolsOf_start (ts : List T) (hl : ts.length ≤ 9223372036854775807) (ih : ∀ t ∈ ts, ∀ l : List (List UInt8), l.length + nodes t ≤ 2100000 → ∃ r, C83_0 (sv t.name) (tms t.args) (l.map cs) = some (.top, [strs r]) ∧ CollN l (symsT t) (nodes t) r) (l : List (List UInt8)) (hb : l.length + nodesL ts ≤ 2100000) :
    ∃ r, L83c0_1 (tms ts) (vi (ts.length : Nat)) (vi 0) (l.map cs) = some (.top, [strs r]) ∧ CollN l (symsTL ts) (nodesL ts) r := by
  have loop := symbolsOf_loop ts hl ih
  rw [l83c0_1]
  by_cases h0 : ts.length = 0
  · have ha : ts = [] := List.length_eq_zero_iff.1 h0
    rw [ha]
    refine ⟨l, ?_, ⟨by simp [symsTL], by simp [nodesL]⟩, id⟩
    simp -implicitDefEqProofs only [neg1_lt, brn_true, brn_false, brn_ite, Option.bind_some, Option.bind_none, pBool_vb, pPick_vb, pG_vb, pWant_vb, pG_undef, pWant_undef, pLenL_sl, rLen_eq, rLenN_eq, pLenS_sv, fin_pair, fin_vb, fin_vi, pUn_not, pBin_lss, pBin_leq, pBin_gtr, pBin_geq, pBin_eql, pBin_neq, pBinY_lss, pBinY_leq, pBinY_gtr, pBinY_geq, pBinY_eql, pBinY_neq, pBin_beql, pBin_bneq, pBin_add, pBin_sub, pBin_mul, pBin_seql, pBin_sneq, pBin_slss, pLoadP_0, pAdd_elt, pField_agg, pCells_agg, cGet_zero, cGet_one, cGet_two, cGet_three, okA_sl, okA_elt, okA_fn, okA_vi, okA_vb, okA_sv, pRows_sl, pTup_0, pTup_1, pTup_2, pMax_vi, pMin_vi, hD_eq, hR_0, hR_1, hR_2, List.all_cons, List.all_nil, List.length_cons, List.length_nil, List.length_map, Nat.zero_add, Bool.and_self, Bool.and_true, and_self, if_true, if_false, Bool.true_eq_false, Bool.false_eq_true, decide_true, decide_false, Bool.not_true, Bool.not_false, reduceIte, Bool.not_eq_true', decide_eq_true_eq, decide_eq_false_iff_not, Int.lt_irrefl, not_true_eq_false, not_false_eq_true, Nat.reduceAdd, ite_true, ite_false]
    rfl
  · have hi : 0 < ts.length := by omega
    have hlt : (0 : Int) < ((ts.length : Nat) : Int) := by omega
    have hix : pIndexAddr 2 (tms ts) (vi 0) = some (.elt (tcells ts[0]) 0) := pIndexAddr_map (i := 0) hi
    have h5 : pBin .add false (vi 0) (vi 1) = some (vi ((1 : Nat) : Int)) := by rw [pBin_add, ck_le (by decide) (by decide)]; rfl
    have hd : ts = ts[0] :: ts.drop 1 := by have := drop_cons hi; simpa using this
    have hns : nodesL ts = nodes ts[0] + nodesL (ts.drop 1) := by conv => lhs; rw [hd, nodesL]
    have hvs : symsTL ts = symsT ts[0] ++ symsTL (ts.drop 1) := by conv => lhs; rw [hd, symsTL]
    obtain ⟨r1, e1, ⟨c1, c2⟩, c3⟩ := ih ts[0] (List.getElem_mem _) l (by omega)
    obtain ⟨r2, e2, ⟨d1, d2⟩, d3⟩ := loop 1 (by omega) r1 (by omega)
    refine ⟨r2, ?_, ⟨fun n => ?_, by omega⟩, fun h => d3 (c3 h)⟩
    · simp -implicitDefEqProofs only [neg1_lt, brn_true, brn_false, brn_ite, Option.bind_some, Option.bind_none, pBool_vb, pPick_vb, pG_vb, pWant_vb, pG_undef, pWant_undef, pLenL_sl, rLen_eq, rLenN_eq, pLenS_sv, fin_pair, fin_vb, fin_vi, pUn_not, pBin_lss, pBin_leq, pBin_gtr, pBin_geq, pBin_eql, pBin_neq, pBinY_lss, pBinY_leq, pBinY_gtr, pBinY_geq, pBinY_eql, pBinY_neq, pBin_beql, pBin_bneq, pBin_add, pBin_sub, pBin_mul, pBin_seql, pBin_sneq, pBin_slss, pLoadP_0, pAdd_elt, pField_agg, pCells_agg, cGet_zero, cGet_one, cGet_two, cGet_three, okA_sl, okA_elt, okA_fn, okA_vi, okA_vb, okA_sv, pRows_sl, pTup_0, pTup_1, pTup_2, pMax_vi, pMin_vi, hD_eq, hR_0, hR_1, hR_2, List.all_cons, List.all_nil, List.length_cons, List.length_nil, List.length_map, Nat.zero_add, Bool.and_self, Bool.and_true, and_self, if_true, if_false, Bool.true_eq_false, Bool.false_eq_true, decide_true, decide_false, Bool.not_true, Bool.not_false, reduceIte, Bool.not_eq_true', decide_eq_true_eq, decide_eq_false_iff_not, Int.lt_irrefl, not_true_eq_false, not_false_eq_true, Nat.reduceAdd, ite_true, ite_false, hlt, hix, pLoadN_tcells, e1, h5, e2]
    · rw [d1, c1, hvs, List.mem_append]
      exact or_assoc

theorem symbolsOf_eq : ∀ t : T, twf t → okT t = true → ∀ l : List (List UInt8), l.length + nodes t ≤ 2100000 → ∃ r, C83_0 (sv t.name) (tms t.args) (l.map cs) = some (.top, [strs r]) ∧ CollN l (symsT t) (nodes t) r := by
  refine T.ind fun t ih hw hk l hb => ?_
  obtain ⟨w1, w2, w3⟩ := (twf_eq t).1 hw
  have w3 := (twfL_iff _).1 w3
  have hks := okT_args hk
  have e1 := isSymbol_eq t.name w1
  have e2 := contains_strs l t.name (by omega)
  rw [sym_name hk] at e1
  rw [c83_0, symsT_eq]
  have ih' : ∀ u ∈ t.args, ∀ l : List (List UInt8), l.length + nodes u ≤ 2100000 → ∃ r, C83_0 (sv u.name) (tms u.args) (l.map cs) = some (.top, [strs r]) ∧ CollN l (symsT u) (nodes u) r := fun u hu => ih u hu (w3 u hu) (hks u hu)
  rw [nodes_eq] at hb ⊢
  cases hv : varN t.name <;> rw [hv] at e1
  · cases hc : l.contains t.name <;> rw [hc] at e2
    · have hn : ¬ t.name ∈ l := by simpa using hc
      obtain ⟨r, e, ⟨c1, c2⟩, c3⟩ := symbolsOf_loop t.args w2 ih' 0 (Nat.zero_le _) (l ++ [t.name]) (by simp; omega)
      simp only [Int.natCast_zero, List.drop_zero, List.length_append, List.length_singleton] at e c1 c2
      have happ : rApp (l.map cs) [[sv t.name]] = (l ++ [t.name]).map cs := by simp [rApp]
      have f1 : pFit (l.length + 1) 16 = true := pFit_ok (by omega)
      refine ⟨r, ?_, ⟨fun n => ?_, by omega⟩, fun h => c3 ?_⟩
      · simp -implicitDefEqProofs only [neg1_lt, brn_true, brn_false, brn_ite, Option.bind_some, Option.bind_none, pBool_vb, pPick_vb, pG_vb, pWant_vb, pG_undef, pWant_undef, pLenL_sl, rLen_eq, rLenN_eq, pLenS_sv, fin_pair, fin_vb, fin_vi, pUn_not, pBin_lss, pBin_leq, pBin_gtr, pBin_geq, pBin_eql, pBin_neq, pBinY_lss, pBinY_leq, pBinY_gtr, pBinY_geq, pBinY_eql, pBinY_neq, pBin_beql, pBin_bneq, pBin_add, pBin_sub, pBin_mul, pBin_seql, pBin_sneq, pBin_slss, pLoadP_0, pAdd_elt, pField_agg, pCells_agg, cGet_zero, cGet_one, cGet_two, cGet_three, okA_sl, okA_elt, okA_fn, okA_vi, okA_vb, okA_sv, pRows_sl, pTup_0, pTup_1, pTup_2, pMax_vi, pMin_vi, hD_eq, hR_0, hR_1, hR_2, List.all_cons, List.all_nil, List.length_cons, List.length_nil, List.length_map, Nat.zero_add, Bool.and_self, Bool.and_true, and_self, if_true, if_false, Bool.true_eq_false, Bool.false_eq_true, decide_true, decide_false, Bool.not_true, Bool.not_false, reduceIte, Bool.not_eq_true', decide_eq_true_eq, decide_eq_false_iff_not, Int.lt_irrefl, not_true_eq_false, not_false_eq_true, Nat.reduceAdd, ite_true, ite_false, e1, e2, f1, happ, e]
      · rw [c1]
        simp only [Bool.false_eq_true, if_false, List.mem_append]
        exact or_assoc
      · exact List.nodup_append.2 ⟨h, by simp, fun a ha b hb e => by rw [List.mem_singleton.1 hb] at e; rw [e] at ha; exact hn ha⟩
    · have hn : t.name ∈ l := by simpa using hc
      obtain ⟨r, e, ⟨c1, c2⟩, c3⟩ := symbolsOf_start t.args w2 ih' l (by omega)
      refine ⟨r, ?_, ⟨fun n => ?_, by omega⟩, c3⟩
      · simp -implicitDefEqProofs only [neg1_lt, brn_true, brn_false, brn_ite, Option.bind_some, Option.bind_none, pBool_vb, pPick_vb, pG_vb, pWant_vb, pG_undef, pWant_undef, pLenL_sl, rLen_eq, rLenN_eq, pLenS_sv, fin_pair, fin_vb, fin_vi, pUn_not, pBin_lss, pBin_leq, pBin_gtr, pBin_geq, pBin_eql, pBin_neq, pBinY_lss, pBinY_leq, pBinY_gtr, pBinY_geq, pBinY_eql, pBinY_neq, pBin_beql, pBin_bneq, pBin_add, pBin_sub, pBin_mul, pBin_seql, pBin_sneq, pBin_slss, pLoadP_0, pAdd_elt, pField_agg, pCells_agg, cGet_zero, cGet_one, cGet_two, cGet_three, okA_sl, okA_elt, okA_fn, okA_vi, okA_vb, okA_sv, pRows_sl, pTup_0, pTup_1, pTup_2, pMax_vi, pMin_vi, hD_eq, hR_0, hR_1, hR_2, List.all_cons, List.all_nil, List.length_cons, List.length_nil, List.length_map, Nat.zero_add, Bool.and_self, Bool.and_true, and_self, if_true, if_false, Bool.true_eq_false, Bool.false_eq_true, decide_true, decide_false, Bool.not_true, Bool.not_false, reduceIte, Bool.not_eq_true', decide_eq_true_eq, decide_eq_false_iff_not, Int.lt_irrefl, not_true_eq_false, not_false_eq_true, Nat.reduceAdd, ite_true, ite_false, e1, e2, e]
      · rw [c1]
        simp only [Bool.false_eq_true, if_false, List.mem_append, List.mem_singleton]
        exact ⟨fun h => by rcases h with h | h <;> simp [h], fun h => by
          rcases h with h | h | h
          · exact Or.inl h
          · exact Or.inl (h ▸ hn)
          · exact Or.inr h⟩
  · obtain ⟨r, e, ⟨c1, c2⟩, c3⟩ := symbolsOf_start t.args w2 ih' l (by omega)
    refine ⟨r, ?_, ⟨by simpa using c1, by omega⟩, c3⟩
    simp -implicitDefEqProofs only [neg1_lt, brn_true, brn_false, brn_ite, Option.bind_some, Option.bind_none, pBool_vb, pPick_vb, pG_vb, pWant_vb, pG_undef, pWant_undef, pLenL_sl, rLen_eq, rLenN_eq, pLenS_sv, fin_pair, fin_vb, fin_vi, pUn_not, pBin_lss, pBin_leq, pBin_gtr, pBin_geq, pBin_eql, pBin_neq, pBinY_lss, pBinY_leq, pBinY_gtr, pBinY_geq, pBinY_eql, pBinY_neq, pBin_beql, pBin_bneq, pBin_add, pBin_sub, pBin_mul, pBin_seql, pBin_sneq, pBin_slss, pLoadP_0, pAdd_elt, pField_agg, pCells_agg, cGet_zero, cGet_one, cGet_two, cGet_three, okA_sl, okA_elt, okA_fn, okA_vi, okA_vb, okA_sv, pRows_sl, pTup_0, pTup_1, pTup_2, pMax_vi, pMin_vi, hD_eq, hR_0, hR_1, hR_2, List.all_cons, List.all_nil, List.length_cons, List.length_nil, List.length_map, Nat.zero_add, Bool.and_self, Bool.and_true, and_self, if_true, if_false, Bool.true_eq_false, Bool.false_eq_true, decide_true, decide_false, Bool.not_true, Bool.not_false, reduceIte, Bool.not_eq_true', decide_eq_true_eq, decide_eq_false_iff_not, Int.lt_irrefl, not_true_eq_false, not_false_eq_true, Nat.reduceAdd, ite_true, ite_false, e1, e]
end Go.Proofs.Ytencikloakamfaa
