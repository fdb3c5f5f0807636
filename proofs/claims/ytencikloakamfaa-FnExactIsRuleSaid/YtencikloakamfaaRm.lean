/- RULES: the standard ordering; IsRule. -/
import Derived.Test.YtencikloakamfaaRl
namespace Go.Proofs.Ytencikloakamfaa
open Go Go.RowKit Go.Proofs.Ytencikloakamfaa.Abs

set_option linter.unusedSimpArgs false
set_option linter.unusedVariables false
set_option maxHeartbeats 1000000

theorem pFit_ok8 {n : Nat} (h : n ≤ 4000000) : pFit n 8 = true := by
  unfold pFit
  simp
  omega

theorem rep_mul (n : Nat) (h : n ≤ 12) : ((pConv .u64 (rLen [[vi 1]])).bind fun t2 => (pConv .u64 (vi n)).bind fun t3 => (G 117 [t2, t3]).bind (fin false)) = some (.tup [.val (.int .u64 0), .val (.int .u64 n)]) := by
  have c : (pConv .u64 (rLen [[vi 1]])) = some (.val (.int .u64 1)) := by kernel_rfl
  have d : pConv .u64 (vi n) = some (.val (.int .u64 n)) := by
    rcases n with _|_|_|_|_|_|_|_|_|_|_|_|_|n
    rotate_right
    · omega
    all_goals kernel_rfl
  rw [c, d]
  simp only [Option.bind_some]
  rw [g117, g149]
  clear c d
  rcases n with _|_|_|_|_|_|_|_|_|_|_|_|_|n
  rotate_right
  · omega
  all_goals (show _ = _; kernel_rfl)

theorem drop_rep {α : Type} {a b : α} {i j k : Nat} (h : i ≤ k) : (List.replicate i a ++ List.replicate j b).drop k = List.replicate (j - (k - i)) b := by
  rw [List.drop_append, List.drop_replicate, List.drop_replicate, List.length_replicate, show i - k = 0 by omega]
  rfl

theorem rep_loop {n : Nat} (hn : n ≤ 12) (r1 : List (List A)) : ∀ (f j : Nat), n - j ≤ f → 1 ≤ j → j ≤ n →
    L85c0_0 (vi (j : Nat)) (List.replicate j [vi 1] ++ List.replicate (n - j) [vi 0]) r1 = some (.top, [.sl 1 (List.replicate n [vi 1])]) := by
  intro f
  induction f with
  | zero =>
    intro j h1 h2 h3
    have : j = n := by omega
    subst this
    rw [l85c0_0]
    simp -implicitDefEqProofs only [neg1_lt, brn_true, brn_false, brn_ite, Option.bind_some, Option.bind_none, pBool_vb, pPick_vb, pG_vb, pWant_vb, pG_undef, pWant_undef, pLenL_sl, rLen_eq, rLenN_eq, pLenS_sv, fin_pair, fin_vb, fin_vi, pUn_not, pBin_lss, pBin_leq, pBin_gtr, pBin_geq, pBin_eql, pBin_neq, pBinY_lss, pBinY_leq, pBinY_gtr, pBinY_geq, pBinY_eql, pBinY_neq, pBin_beql, pBin_bneq, pBin_add, pBin_sub, pBin_mul, pBin_seql, pBin_sneq, pBin_slss, pLoadP_0, pAdd_elt, pField_agg, pCells_agg, cGet_zero, cGet_one, cGet_two, cGet_three, okA_sl, okA_elt, okA_fn, okA_vi, okA_vb, okA_sv, pRows_sl, pTup_0, pTup_1, pTup_2, pMax_vi, pMin_vi, hD_eq, hR_0, hR_1, hR_2, List.all_cons, List.all_nil, List.length_cons, List.length_nil, List.length_map, Nat.zero_add, Bool.and_self, Bool.and_true, and_self, if_true, if_false, Bool.true_eq_false, Bool.false_eq_true, decide_true, decide_false, Bool.not_true, Bool.not_false, reduceIte, Bool.not_eq_true', decide_eq_true_eq, decide_eq_false_iff_not, Int.lt_irrefl, not_true_eq_false, not_false_eq_true, Nat.reduceAdd, ite_true, ite_false, List.length_append, List.length_replicate, Nat.sub_self, List.replicate_zero, List.append_nil]
  | succ f ih =>
    intro j h1 h2 h3
    by_cases hj : j = n
    · subst hj
      rw [l85c0_0]
      simp -implicitDefEqProofs only [neg1_lt, brn_true, brn_false, brn_ite, Option.bind_some, Option.bind_none, pBool_vb, pPick_vb, pG_vb, pWant_vb, pG_undef, pWant_undef, pLenL_sl, rLen_eq, rLenN_eq, pLenS_sv, fin_pair, fin_vb, fin_vi, pUn_not, pBin_lss, pBin_leq, pBin_gtr, pBin_geq, pBin_eql, pBin_neq, pBinY_lss, pBinY_leq, pBinY_gtr, pBinY_geq, pBinY_eql, pBinY_neq, pBin_beql, pBin_bneq, pBin_add, pBin_sub, pBin_mul, pBin_seql, pBin_sneq, pBin_slss, pLoadP_0, pAdd_elt, pField_agg, pCells_agg, cGet_zero, cGet_one, cGet_two, cGet_three, okA_sl, okA_elt, okA_fn, okA_vi, okA_vb, okA_sv, pRows_sl, pTup_0, pTup_1, pTup_2, pMax_vi, pMin_vi, hD_eq, hR_0, hR_1, hR_2, List.all_cons, List.all_nil, List.length_cons, List.length_nil, List.length_map, Nat.zero_add, Bool.and_self, Bool.and_true, and_self, if_true, if_false, Bool.true_eq_false, Bool.false_eq_true, decide_true, decide_false, Bool.not_true, Bool.not_false, reduceIte, Bool.not_eq_true', decide_eq_true_eq, decide_eq_false_iff_not, Int.lt_irrefl, not_true_eq_false, not_false_eq_true, Nat.reduceAdd, ite_true, ite_false, List.length_append, List.length_replicate, Nat.sub_self, List.replicate_zero, List.append_nil]
    · rw [l85c0_0]
      have hl : (List.replicate j [vi 1] ++ List.replicate (n - j) [vi 0]).length = n := by simp; omega
      have e1 : decide ((j : Int) < (n : Int)) = true := by simp; omega
      have hm : j + min j (n - j) ≤ n := by omega
      have e2 : pBin .add false (vi j) (vi (min j (n - j) : Nat)) = some (vi (j + min j (n - j) : Nat)) := by
        rw [pBin_add, ck_le (by omega) (by omega)]; rfl
      have ew : (((List.replicate j [vi 1] ++ List.replicate (n - j) [vi 0]).drop 0).take j) = List.replicate j [vi 1] := by
        rw [List.drop_zero, List.take_append_of_le_length (by simp), List.take_of_length_le (by simp)]
      have eo : rOver (List.replicate j [vi 1] ++ List.replicate (n - j) [vi 0]) (0 + j) ((List.replicate j [vi 1]).take (n - j)) = List.replicate (j + min j (n - j)) [vi 1] ++ List.replicate (n - (j + min j (n - j))) [vi 0] := by
        rw [rOver_eq, Nat.zero_add, List.take_append_of_le_length (by simp), List.take_of_length_le (by simp), List.take_replicate, List.length_replicate, drop_rep]
        · rw [List.replicate_append_replicate, Nat.min_comm (n - j) j]
          congr 2
          omega
        · omega
      have key := ih (j + min j (n - j)) (by omega) (by omega) hm
      simp only [rLen_eq, rCnt_eq, rRem_eq, hl, pBin_lss, Option.bind_some, pBool_vb, e1, brn_true, Nat.sub_zero, pB_none_le (Nat.le_refl n), pB_le h3, rWin_eq, nSub_eq, ew, rMin_eq, rTake_eq, List.length_replicate, e2, eo, key]

theorem rep_eq {n : Nat} (h : n ≤ 12) : C85_0 (vi (n : Nat)) [[vi 1]] = some (.top, [.sl 1 (List.replicate n [vi 1])]) := by
  rw [c85_0]
  have e0 : decide ((n : Int) < 0) = false := by simp
  have em := rep_mul n h
  have eg : decide ((0 : Int) < 0) = false := by simp
  have ec : pConv .i64 (A.val (.int .u64 n)) = some (vi n) := ck_le (by omega) (by omega)
  have ek : pBin .gtr false (A.val (.int .u64 n)) (A.val (.int .u64 9223372036854775807)) = some (vb false) := by
    show some (vb (decide ((9223372036854775807 : Int) < n))) = _
    rw [decide_eq_false (by omega)]
  have ek0 : pBin .gtr false (A.val (.int .u64 0)) (A.val (.int .u64 0)) = some (vb false) := rfl
  have emk : pMake 8 (vi n) (vi n) = some n := by
    show (if FitM 8 (n : Int) (n : Int) then some (n : Int).toNat else none) = _
    rw [if_pos ⟨by omega, by omega, by omega, by omega⟩]; rfl
  have hm : ∀ (k : A → A → Option Out), ((pConv .u64 (rLen [[vi 1]])).bind fun t2 => (pConv .u64 (vi n)).bind fun t3 => ((G 117 [t2, t3]).bind (fin false)).bind fun t4 => (pTup t4 0).bind fun t5 => (pTup t4 1).bind fun t6 => k t5 t6) =
      k (.val (.int .u64 0)) (.val (.int .u64 n)) := by
    intro k
    have : ((pConv .u64 (rLen [[vi 1]])).bind fun t2 => (pConv .u64 (vi n)).bind fun t3 => ((G 117 [t2, t3]).bind (fin false)).bind fun t4 => (pTup t4 0).bind fun t5 => (pTup t4 1).bind fun t6 => k t5 t6) =
        (((pConv .u64 (rLen [[vi 1]])).bind fun t2 => (pConv .u64 (vi n)).bind fun t3 => (G 117 [t2, t3]).bind (fin false)).bind fun t4 => (pTup t4 0).bind fun t5 => (pTup t4 1).bind fun t6 => k t5 t6) := by
      simp only [Option.bind_assoc]
    rw [this, em]; rfl
  rw [pBin_lss, e0]
  simp only [Option.bind_some, pBool_vb, brn_false]
  rw [hm]
  simp only [ek0, ek, Option.bind_some, pG_vb, if_true, pPick_vb, Bool.false_eq_true, if_false, pBool_vb, brn_false, ec, emk, rRep, rCnt_eq, List.length_replicate]
  rcases n with _ | n
  · have e1 : rMin [[vi 1]] 0 = vi ((0 : Nat) : Int) := rfl
    have e2 : rOver (List.replicate 0 [vi 0]) 0 (rTake [[vi 1]] 0) = [] := rfl
    rw [e1, e2, l85c0_0]
    rfl
  · have key := rep_loop (n := n + 1) h [[vi 1]] (n + 1) 1 (by omega) (by omega) (by omega)
    have e1 : rMin [[vi 1]] (n + 1) = vi ((1 : Nat) : Int) := by
      rw [rMin_eq]
      have : min [[vi 1]].length (n + 1) = 1 := by simp
      rw [this]
    have e2 : rOver (List.replicate (n + 1) [vi 0]) 0 (rTake [[vi 1]] (n + 1)) = List.replicate 1 [vi 1] ++ List.replicate (n + 1 - 1) [vi 0] := by
      rw [rOver_eq, rTake_eq]
      simp [List.replicate_succ]
    rw [e1, e2]
    exact key

theorem symsTL_mem {ts : List T} {n : List UInt8} : n ∈ symsTL ts ↔ ∃ t ∈ ts, n ∈ symsT t := by
  induction ts with
  | nil => simp [symsTL]
  | cons t ts ih => simp [symsTL, ih]
theorem symsT_sym : ∀ t : T, okT t = true → ∀ n ∈ symsT t, symN n = true := by
  refine T.ind fun t ih hk n hn => ?_
  rw [symsT_eq, List.mem_append] at hn
  rcases hn with hn | hn
  · cases hv : varN t.name <;> rw [hv] at hn
    · simp at hn
      rw [hn, sym_name hk, hv]; rfl
    · simp at hn
  · obtain ⟨u, hu, hm⟩ := symsTL_mem.1 hn
    exact ih u hu (okT_args hk u hu) n hm
theorem cov_syms (l : List (List UInt8)) : ∀ t : T, (∀ n ∈ symsT t, n ∈ l) → covT l t = true := by
  refine T.ind fun t ih h => ?_
  rw [symsT_eq] at h
  rw [covT_eq, covTL_all, Bool.and_eq_true]
  refine ⟨?_, List.all_eq_true.2 fun u hu => ih u hu fun n hn => h n (List.mem_append_right _ (symsTL_mem.2 ⟨u, hu, hn⟩))⟩
  cases hv : varN t.name
  · rw [hv] at h
    rw [Bool.false_or]
    exact List.contains_iff_mem.2 (h t.name (by simp))
  · rfl

/-- The standard ordering over these symbols. -/
def stdO (r : List (List UInt8)) : Ord' := ⟨r, List.replicate r.length 1, 1⟩

theorem valid_std {r : List (List UInt8)} (h1 : 1 ≤ r.length) (h2 : r.length ≤ 12) (hs : ∀ n ∈ r, symN n = true) (hn : r.Nodup) : validO (stdO r) = true := by
  have hb : inB 1 12 (r.length : Nat) = true := by unfold inB; rw [Bool.and_eq_true, decide_eq_true_eq, decide_eq_true_eq]; omega
  unfold validO stdO
  simp only [hb, List.length_replicate, decide_true, Bool.true_and, Bool.and_eq_true]
  refine ⟨by decide, List.all_eq_true.2 fun i hi => ?_⟩
  have hi : i < r.length := List.mem_range.1 hi
  have g1 : r.getD i [] = r[i] := by simp [List.getD_eq_getElem?_getD, hi]
  have g2 : (List.replicate r.length (1 : Int)).getD i 0 = 1 := by simp [List.getD_eq_getElem?_getD, hi]
  unfold chkO
  simp only [g1, g2, hs _ (List.getElem_mem _), Bool.true_and, Bool.and_eq_true]
  refine ⟨?_, by decide⟩
  rw [Bool.not_eq_true', ← Bool.not_eq_true, List.contains_iff_mem]
  intro hm
  obtain ⟨j, hj, e⟩ := List.mem_take_iff_getElem.1 hm
  have := (List.nodup_iff_pairwise_ne.1 hn)
  have := List.pairwise_iff_getElem.1 this j i (by omega) hi (by omega)
  exact this e

theorem symN_len {n : List UInt8} (h : symN n = true) : n.length ≤ 6 := by
  cases n with
  | nil => simp
  | cons c r =>
    simp only [symN, Bool.and_eq_true, decide_eq_true_eq] at h
    simp only [List.length_cons]
    omega

theorem compareKBO_any (o : Ord') (s t : T) (hw : twf s) (hw' : twf t) (x y : Bool) (e5 : G 120 [od o, tm s, tm t] = some (vb x, [])) (e6 : G 120 [od o, tm t, tm s] = some (vb y, [])) : G 86 [od o, tm s, tm t] = some (vi (codeI (dq s t) x y), []) := by
  have e4 := equalTerms_eq s hw t hw'
  have c1 : G 119 [.elt (ocells o) 0, .elt [sv s.name, .sl 2 (s.args.map tcells)] 0, .elt [sv t.name, .sl 2 (t.args.map tcells)] 0] = some (vb x, []) := by
    rw [g119]
    simp -implicitDefEqProofs only [neg1_lt, brn_true, brn_false, brn_ite, Option.bind_some, Option.bind_none, pBool_vb, pPick_vb, pG_vb, pWant_vb, pG_undef, pWant_undef, pLenL_sl, rLen_eq, rLenN_eq, pLenS_sv, fin_pair, fin_vb, fin_vi, pUn_not, pBin_lss, pBin_leq, pBin_gtr, pBin_geq, pBin_eql, pBin_neq, pBinY_lss, pBinY_leq, pBinY_gtr, pBinY_geq, pBinY_eql, pBinY_neq, pBin_beql, pBin_bneq, pBin_add, pBin_sub, pBin_mul, pBin_seql, pBin_sneq, pBin_slss, pLoadP_0, pAdd_elt, pField_agg, pCells_agg, cGet_zero, cGet_one, cGet_two, cGet_three, okA_sl, okA_elt, okA_fn, okA_vi, okA_vb, okA_sv, pRows_sl, pTup_0, pTup_1, pTup_2, pMax_vi, pMin_vi, hD_eq, hR_0, hR_1, hR_2, List.all_cons, List.all_nil, List.length_cons, List.length_nil, List.length_map, Nat.zero_add, Bool.and_self, Bool.and_true, and_self, if_true, if_false, Bool.true_eq_false, Bool.false_eq_true, decide_true, decide_false, Bool.not_true, Bool.not_false, reduceIte, Bool.not_eq_true', decide_eq_true_eq, decide_eq_false_iff_not, Int.lt_irrefl, not_true_eq_false, not_false_eq_true, Nat.reduceAdd, ite_true, ite_false, pLoadN_2, pLoadN_3, e5]
  have c2 : G 121 [.elt (ocells o) 0, .elt [sv t.name, .sl 2 (t.args.map tcells)] 0, .elt [sv s.name, .sl 2 (s.args.map tcells)] 0] = some (vb y, []) := by
    rw [g121]
    simp -implicitDefEqProofs only [neg1_lt, brn_true, brn_false, brn_ite, Option.bind_some, Option.bind_none, pBool_vb, pPick_vb, pG_vb, pWant_vb, pG_undef, pWant_undef, pLenL_sl, rLen_eq, rLenN_eq, pLenS_sv, fin_pair, fin_vb, fin_vi, pUn_not, pBin_lss, pBin_leq, pBin_gtr, pBin_geq, pBin_eql, pBin_neq, pBinY_lss, pBinY_leq, pBinY_gtr, pBinY_geq, pBinY_eql, pBinY_neq, pBin_beql, pBin_bneq, pBin_add, pBin_sub, pBin_mul, pBin_seql, pBin_sneq, pBin_slss, pLoadP_0, pAdd_elt, pField_agg, pCells_agg, cGet_zero, cGet_one, cGet_two, cGet_three, okA_sl, okA_elt, okA_fn, okA_vi, okA_vb, okA_sv, pRows_sl, pTup_0, pTup_1, pTup_2, pMax_vi, pMin_vi, hD_eq, hR_0, hR_1, hR_2, List.all_cons, List.all_nil, List.length_cons, List.length_nil, List.length_map, Nat.zero_add, Bool.and_self, Bool.and_true, and_self, if_true, if_false, Bool.true_eq_false, Bool.false_eq_true, decide_true, decide_false, Bool.not_true, Bool.not_false, reduceIte, Bool.not_eq_true', decide_eq_true_eq, decide_eq_false_iff_not, Int.lt_irrefl, not_true_eq_false, not_false_eq_true, Nat.reduceAdd, ite_true, ite_false, pLoadN_2, pLoadN_3, e6]
  have e7 := ordered_eq (f := 119) (g := 121) rfl rfl (dq s t) _ _ c1 c2
  rw [g86]
  simp -implicitDefEqProofs only [neg1_lt, brn_true, brn_false, brn_ite, Option.bind_some, Option.bind_none, pBool_vb, pPick_vb, pG_vb, pWant_vb, pG_undef, pWant_undef, pLenL_sl, rLen_eq, rLenN_eq, pLenS_sv, fin_pair, fin_vb, fin_vi, pUn_not, pBin_lss, pBin_leq, pBin_gtr, pBin_geq, pBin_eql, pBin_neq, pBinY_lss, pBinY_leq, pBinY_gtr, pBinY_geq, pBinY_eql, pBinY_neq, pBin_beql, pBin_bneq, pBin_add, pBin_sub, pBin_mul, pBin_seql, pBin_sneq, pBin_slss, pLoadP_0, pAdd_elt, pField_agg, pCells_agg, cGet_zero, cGet_one, cGet_two, cGet_three, okA_sl, okA_elt, okA_fn, okA_vi, okA_vb, okA_sv, pRows_sl, pTup_0, pTup_1, pTup_2, pMax_vi, pMin_vi, hD_eq, hR_0, hR_1, hR_2, List.all_cons, List.all_nil, List.length_cons, List.length_nil, List.length_map, Nat.zero_add, Bool.and_self, Bool.and_true, and_self, if_true, if_false, Bool.true_eq_false, Bool.false_eq_true, decide_true, decide_false, Bool.not_true, Bool.not_false, reduceIte, Bool.not_eq_true', decide_eq_true_eq, decide_eq_false_iff_not, Int.lt_irrefl, not_true_eq_false, not_false_eq_true, Nat.reduceAdd, ite_true, ite_false, e4, e7]

theorem var_args {t : T} (hk : okT t = true) (hv : varN t.name = true) : t.args = [] := by
  rw [okT_eq, hv, if_pos rfl] at hk
  exact List.isEmpty_iff.1 hk

theorem kbo_vars (o : Ord') (s t : T) (hw : twf s) (hw' : twf t) (hk : okT s = true) (hk' : okT t = true) (hv : varN s.name = true) (hv' : varN t.name = true) (hne : ¬ s.name = t.name) : G 120 [od o, tm s, tm t] = some (vb false, []) := by
  have as_ := var_args hk hv
  have at_ := var_args hk' hv'
  have ns : nodes s ≤ 1048577 := by rw [nodes_eq, as_]; simp [nodesL]
  have nt : nodes t ≤ 1048577 := by rw [nodes_eq, at_]; simp [nodesL]
  obtain ⟨r, er, c1, c2⟩ := variables_eq t hw' hk' nt
  have hvt : varsT t = [t.name] := by rw [varsT_eq, if_pos hv']
  have hpos : 0 < r.length := by
    rcases Nat.eq_zero_or_pos r.length with h | h
    · have hr : r = [] := List.length_eq_zero_iff.1 h
      have := (c1 t.name).2 (by rw [hvt]; simp)
      rw [hr] at this; cases this
    · exact h
  have h0 : r[0] = t.name := by
    have := (c1 r[0]).1 (List.getElem_mem _)
    rw [hvt] at this
    simpa using this
  have hlt : (0 : Int) < ((r.length : Nat) : Int) := by omega
  have hix : pIndexAddr 1 (strs r) (vi 0) = some (.elt (cs t.name) 0) := by have := pIndexAddr_map (k := 1) (f := cs) (i := 0) hpos; rw [h0] at this; exact this
  have a1 := countName_eq t.name s hw ns
  have a2 := countName_eq t.name t hw' nt
  have k1 : cnt t.name s = 0 := by rw [cnt_eq, as_, if_neg hne]; simp [cntL]
  have k2 : cnt t.name t = 1 := by rw [cnt_eq, at_]; simp [cntL]
  rw [k1] at a1
  rw [k2] at a2
  have h' : ((0 : Nat) : Int) < ((1 : Nat) : Int) := by omega
  rw [g120]
  simp -implicitDefEqProofs only [neg1_lt, brn_true, brn_false, brn_ite, Option.bind_some, Option.bind_none, pBool_vb, pPick_vb, pG_vb, pWant_vb, pG_undef, pWant_undef, pLenL_sl, rLen_eq, rLenN_eq, pLenS_sv, fin_pair, fin_vb, fin_vi, pUn_not, pBin_lss, pBin_leq, pBin_gtr, pBin_geq, pBin_eql, pBin_neq, pBinY_lss, pBinY_leq, pBinY_gtr, pBinY_geq, pBinY_eql, pBinY_neq, pBin_beql, pBin_bneq, pBin_add, pBin_sub, pBin_mul, pBin_seql, pBin_sneq, pBin_slss, pLoadP_0, pAdd_elt, pField_agg, pCells_agg, cGet_zero, cGet_one, cGet_two, cGet_three, okA_sl, okA_elt, okA_fn, okA_vi, okA_vb, okA_sv, pRows_sl, pTup_0, pTup_1, pTup_2, pMax_vi, pMin_vi, hD_eq, hR_0, hR_1, hR_2, List.all_cons, List.all_nil, List.length_cons, List.length_nil, List.length_map, Nat.zero_add, Bool.and_self, Bool.and_true, and_self, if_true, if_false, Bool.true_eq_false, Bool.false_eq_true, decide_true, decide_false, Bool.not_true, Bool.not_false, reduceIte, Bool.not_eq_true', decide_eq_true_eq, decide_eq_false_iff_not, Int.lt_irrefl, not_true_eq_false, not_false_eq_true, Nat.reduceAdd, ite_true, ite_false, er]
  rw [l120_0]
  simp -implicitDefEqProofs only [neg1_lt, brn_true, brn_false, brn_ite, Option.bind_some, Option.bind_none, pBool_vb, pPick_vb, pG_vb, pWant_vb, pG_undef, pWant_undef, pLenL_sl, rLen_eq, rLenN_eq, pLenS_sv, fin_pair, fin_vb, fin_vi, pUn_not, pBin_lss, pBin_leq, pBin_gtr, pBin_geq, pBin_eql, pBin_neq, pBinY_lss, pBinY_leq, pBinY_gtr, pBinY_geq, pBinY_eql, pBinY_neq, pBin_beql, pBin_bneq, pBin_add, pBin_sub, pBin_mul, pBin_seql, pBin_sneq, pBin_slss, pLoadP_0, pAdd_elt, pField_agg, pCells_agg, cGet_zero, cGet_one, cGet_two, cGet_three, okA_sl, okA_elt, okA_fn, okA_vi, okA_vb, okA_sv, pRows_sl, pTup_0, pTup_1, pTup_2, pMax_vi, pMin_vi, hD_eq, hR_0, hR_1, hR_2, List.all_cons, List.all_nil, List.length_cons, List.length_nil, List.length_map, Nat.zero_add, Bool.and_self, Bool.and_true, and_self, if_true, if_false, Bool.true_eq_false, Bool.false_eq_true, decide_true, decide_false, Bool.not_true, Bool.not_false, reduceIte, Bool.not_eq_true', decide_eq_true_eq, decide_eq_false_iff_not, Int.lt_irrefl, not_true_eq_false, not_false_eq_true, Nat.reduceAdd, ite_true, ite_false, hlt, hix, a1, a2, h']
end Go.Proofs.Ytencikloakamfaa
