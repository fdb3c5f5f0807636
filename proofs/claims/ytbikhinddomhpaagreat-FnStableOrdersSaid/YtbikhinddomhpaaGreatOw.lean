/- ORDERINGS: valid, covering; weights. -/
import Derived.Test.YtbikhinddomhpaaGreatTn
namespace Go.Proofs.YtbikhinddomhpaaGreat
open Go Go.RowKit Go.Proofs.YtbikhinddomhpaaGreat.Abs

set_option linter.unusedSimpArgs false
set_option linter.unusedVariables false
set_option maxHeartbeats 1000000

theorem pIndexAddr_ci {xs : List Int} {i : Nat} (h : i < xs.length) : pIndexAddr 1 (ints xs) (vi i) = some (.elt (ci xs[i]) 0) := pIndexAddr_map h

/-- What holds of symbol number i. -/
def chkO (o : Ord') (i : Nat) : Bool := symN (o.syms.getD i []) && (!(o.syms.take i).contains (o.syms.getD i []) && inB o.var 100 (o.ws.getD i 0))
def validO (o : Ord') : Bool := inB 1 12 (o.syms.length : Nat) && (decide (o.ws.length = o.syms.length) && (inB 1 100 o.var && (List.range o.syms.length).all (chkO o)))

theorem range_drop {n i : Nat} (h : i < n) : (List.range n).drop i = i :: (List.range n).drop (i + 1) := by
  have h' : i < (List.range n).length := by simpa using h
  rw [List.drop_eq_getElem_cons h', List.getElem_range]

theorem validO_loop (o : Ord') (hw : owf o) (hl : o.ws.length = o.syms.length) : ∀ i, i ≤ o.syms.length → L47_0 (strs o.syms) (vi (o.syms.length : Nat)) (vi i) (strs o.syms) (ints o.ws) (vi o.var) = some (vb (((List.range o.syms.length).drop i).all (chkO o)), []) := by
  refine upto ?_ ?_
  · rw [l47_0, List.drop_of_length_le (by simp)]
    simp -implicitDefEqProofs only [evs, Nat.reduceAdd, reduceIte]
  · intro i hi ih
    have hlt : (i : Int) < ((o.syms.length : Nat) : Int) := by omega
    have hi2 : i < o.ws.length := by omega
    have h5 := add_one hi hw.1.2
    have hs := hw.1.1 o.syms[i] (List.getElem_mem _)
    have e1 := isSymbol_eq o.syms[i] hs
    have hsl : pSlice 1 (strs o.syms) none (some (vi i)) = some (strs (o.syms.take i)) := by rw [pSlice_take (by simp; omega), ← List.map_take]
    have e2 := contains_strs (o.syms.take i) o.syms[i] (by rw [List.length_take]; exact Nat.le_trans (Nat.min_le_right _ _) hw.1.2)
    have e3 := within_eq o.ws[i] o.var 100
    have hc : chkO o i = (symN o.syms[i] && (!(o.syms.take i).contains o.syms[i] && inB o.var 100 o.ws[i])) := by simp [chkO, List.getD_eq_getElem?_getD, hi, hi2]
    rw [l47_0, range_drop hi, List.all_cons, hc]
    cases h1 : symN o.syms[i] <;> rw [h1] at e1
    · simp -implicitDefEqProofs only [evs, Nat.reduceAdd, reduceIte, hlt, pIndexAddr_map hi, e1, Bool.false_and]
    · cases h2 : (o.syms.take i).contains o.syms[i] <;> rw [h2] at e2
      · cases h3 : inB o.var 100 o.ws[i] <;> rw [h3] at e3
        · simp -implicitDefEqProofs only [evs, Nat.reduceAdd, reduceIte, hlt, pIndexAddr_map hi, pIndexAddr_ci hi2, e1, hsl, e2, e3, Bool.false_and, Bool.true_and]
        · simp -implicitDefEqProofs only [evs, Nat.reduceAdd, reduceIte, hlt, pIndexAddr_map hi, pIndexAddr_ci hi2, e1, hsl, e2, e3, h5, ih, Bool.true_and]
      · simp -implicitDefEqProofs only [evs, Nat.reduceAdd, reduceIte, hlt, pIndexAddr_map hi, e1, hsl, e2, Bool.false_and, Bool.true_and]

theorem isValidOrdering_eq (o : Ord') (hw : owf o) : G 47 [od o] = some (vb (validO o), []) := by
  have e1 := within_eq (o.syms.length : Nat) 1 12
  have e2 := within_eq o.var 1 100
  rw [g47, validO]
  cases h1 : inB 1 12 (o.syms.length : Nat) <;> rw [h1] at e1
  · simp -implicitDefEqProofs only [evs, Nat.reduceAdd, reduceIte, e1, Bool.false_and]
  · by_cases h2 : o.ws.length = o.syms.length
    · have h2' : ((o.ws.length : Nat) : Int) = ((o.syms.length : Nat) : Int) := by rw [h2]
      have key := validO_loop o hw h2 0 (Nat.zero_le _)
      simp only [Int.natCast_zero, List.drop_zero] at key
      cases h3 : inB 1 100 o.var <;> rw [h3] at e2
      · simp -implicitDefEqProofs only [evs, Nat.reduceAdd, reduceIte, e1, h2', e2, Bool.false_and, Bool.and_false]
      · simp -implicitDefEqProofs only [evs, Nat.reduceAdd, reduceIte, e1, h2', h2, e2, key, Bool.true_and]
    · have h2' : ¬ ((o.ws.length : Nat) : Int) = ((o.syms.length : Nat) : Int) := by omega
      simp -implicitDefEqProofs only [evs, Nat.reduceAdd, reduceIte, e1, h2', h2, Bool.false_and, Bool.true_and]

theorem l6Good_loop (o : Ord') (hw : owf o) (hl : o.ws.length = o.syms.length) : ∀ i, i ≤ o.syms.length → L29_0 (vi i) (strs o.syms) (ints o.ws) (vi o.var) = some (vb (((List.range o.syms.length).drop i).all (chkO o)), []) := by
  refine upto ?_ ?_
  · rw [l29_0, List.drop_of_length_le (by simp)]
    simp -implicitDefEqProofs only [evs, Nat.reduceAdd, reduceIte]
  · intro i hi ih
    have hlt : (i : Int) < ((o.syms.length : Nat) : Int) := by omega
    have hi2 : i < o.ws.length := by omega
    have h5 := add_one hi hw.1.2
    have hs := hw.1.1 o.syms[i] (List.getElem_mem _)
    have e1 := l2Symbol_eq o.syms[i] hs
    have hsl : pSlice 1 (strs o.syms) none (some (vi i)) = some (strs (o.syms.take i)) := by rw [pSlice_take (by simp; omega), ← List.map_take]
    have e2 := l2In_eq (o.syms.take i) o.syms[i] (by rw [List.length_take]; exact Nat.le_trans (Nat.min_le_right _ _) hw.1.2)
    have e3 := l1In_eq o.ws[i] o.var 100
    have hc : chkO o i = (symN o.syms[i] && (!(o.syms.take i).contains o.syms[i] && inB o.var 100 o.ws[i])) := by simp [chkO, List.getD_eq_getElem?_getD, hi, hi2]
    rw [l29_0, range_drop hi, List.all_cons, hc]
    cases h1 : symN o.syms[i] <;> rw [h1] at e1
    · simp -implicitDefEqProofs only [evs, Nat.reduceAdd, reduceIte, hlt, pIndexAddr_map hi, e1, Bool.false_and]
    · cases h2 : (o.syms.take i).contains o.syms[i] <;> rw [h2] at e2
      · cases h3 : inB o.var 100 o.ws[i] <;> rw [h3] at e3
        · simp -implicitDefEqProofs only [evs, Nat.reduceAdd, reduceIte, hlt, pIndexAddr_map hi, pIndexAddr_ci hi2, e1, hsl, e2, e3, Bool.false_and, Bool.true_and]
        · simp -implicitDefEqProofs only [evs, Nat.reduceAdd, reduceIte, hlt, pIndexAddr_map hi, pIndexAddr_ci hi2, e1, hsl, e2, e3, h5, ih, Bool.true_and]
      · simp -implicitDefEqProofs only [evs, Nat.reduceAdd, reduceIte, hlt, pIndexAddr_map hi, e1, hsl, e2, Bool.false_and, Bool.true_and]

theorem l6Good_eq (o : Ord') (hw : owf o) : G 29 [od o] = some (vb (validO o), []) := by
  have e1 := l1In_eq (o.syms.length : Nat) 1 12
  have e2 := l1In_eq o.var 1 100
  rw [g29, validO]
  cases h1 : inB 1 12 (o.syms.length : Nat) <;> rw [h1] at e1
  · simp -implicitDefEqProofs only [evs, Nat.reduceAdd, reduceIte, e1, Bool.false_and]
  · by_cases h2 : o.ws.length = o.syms.length
    · have h2' : ((o.ws.length : Nat) : Int) = ((o.syms.length : Nat) : Int) := by rw [h2]
      have key := l6Good_loop o hw h2 0 (Nat.zero_le _)
      simp only [Int.natCast_zero, List.drop_zero] at key
      cases h3 : inB 1 100 o.var <;> rw [h3] at e2
      · simp -implicitDefEqProofs only [evs, Nat.reduceAdd, reduceIte, e1, h2', e2, Bool.false_and, Bool.and_false]
      · simp -implicitDefEqProofs only [evs, Nat.reduceAdd, reduceIte, e1, h2', h2, e2, key, Bool.true_and]
    · have h2' : ¬ ((o.ws.length : Nat) : Int) = ((o.syms.length : Nat) : Int) := by omega
      simp -implicitDefEqProofs only [evs, Nat.reduceAdd, reduceIte, e1, h2', h2, Bool.false_and, Bool.true_and]

/-! ### Covering -/
mutual
def covT (l : List (List UInt8)) : T → Bool
  | .mk n us => (varN n || l.contains n) && covTL l us
def covTL (l : List (List UInt8)) : List T → Bool
  | [] => true
  | t :: ts => covT l t && covTL l ts
end
theorem covT_eq (l : List (List UInt8)) (t : T) : covT l t = ((varN t.name || l.contains t.name) && covTL l t.args) := by cases t; rfl
theorem covTL_all (l : List (List UInt8)) : ∀ ts, covTL l ts = ts.all (covT l)
  | [] => rfl
  | t :: ts => by rw [covTL, covTL_all l ts, List.all_cons]

theorem okT_args {t : T} (h : okT t = true) : ∀ u ∈ t.args, okT u = true := by
  rw [okT_eq] at h
  intro u hu
  split at h
  · rw [List.isEmpty_iff.1 h] at hu; cases hu
  · simp only [Bool.and_eq_true] at h
    rw [okTL_all] at h
    exact List.all_eq_true.1 h.2.2 u hu
theorem okT_name {t : T} (h : okT t = true) : ∃ c r, t.name = c :: r ∧ varN t.name = upc c ∧ (upc c = false → symN t.name = true) := by
  rw [okT_eq] at h
  cases hn : t.name with
  | nil => rw [hn] at h; simp [varN, symN] at h
  | cons c r =>
    refine ⟨c, r, rfl, ?_, ?_⟩
    · rw [hn] at h
      cases hu : upc c with
      | false => simp [varN, hu]
      | true =>
        cases hv : varN (c :: r) with
        | true => rfl
        | false =>
          rw [hv] at h
          have : lowc c = false := by
            simp only [upc, inB, lowc, Bool.and_eq_true, decide_eq_true_eq] at hu ⊢
            have : ¬ (97 ≤ (c.toNat : Int)) := by omega
            simp [this]
          simp [symN, this] at h
    · intro hu
      rw [hn] at h
      have : varN (c :: r) = false := by simp [varN, hu]
      rw [this] at h
      simp at h
      exact h.1

theorem isVar_eq (t : T) (h : okT t = true) : G 56 [tm t] = some (vb (varN t.name), []) := by
  obtain ⟨c, r, hn, hv, _⟩ := okT_name h
  have e1 := isUpper_eq c
  rw [← hv] at e1
  rw [g56]
  have hx : pIndexS (sv t.name) (vi 0) = some (vy (c.toNat : Int)) := by rw [hn]; exact pIndexS_0
  simp -implicitDefEqProofs only [evs, Nat.reduceAdd, reduceIte, hx, e1]

theorem pLoadN_od (o : Ord') : pLoadN 3 (.elt (ocells o) 0) = some (od o) := pLoadN_all rfl

theorem covers_eq (o : Ord') (ho : o.syms.length ≤ 9223372036854775807) : ∀ t : T, twf t → okT t = true → G 51 [od o, tm t] = some (vb (covT o.syms t), []) := by
  refine T.ind fun t ih hw hk => ?_
  obtain ⟨w1, w2, w3⟩ := (twf_eq t).1 hw
  have w3 := (twfL_iff _).1 w3
  have hks := okT_args hk
  have e1 := isVar_eq t hk
  have e2 := contains_strs o.syms t.name ho
  have e3 := contains_terms (f := 81) (caps := [.elt (ocells o) 0]) rfl (fun u => !covT o.syms u) t.args w2 (fun u hu => by
    have := ih u hu (w3 u hu) (hks u hu)
    rw [g81]
    simp -implicitDefEqProofs only [evs, Nat.reduceAdd, reduceIte, pLoadN_od, this])
  rw [any_not_all, ← covTL_all] at e3
  rw [g51, covT_eq]
  cases hv : varN t.name <;> rw [hv] at e1
  · cases hc : o.syms.contains t.name <;> rw [hc] at e2
    · simp -implicitDefEqProofs only [evs, Nat.reduceAdd, reduceIte, e1, e2, Bool.false_or, Bool.false_and]
    · simp -implicitDefEqProofs only [evs, Nat.reduceAdd, reduceIte, e1, e2, e3, Bool.false_or, Bool.true_and, Bool.not_not]
  · simp -implicitDefEqProofs only [evs, Nat.reduceAdd, reduceIte, e1, e3, Bool.true_or, Bool.true_and, Bool.not_not]

theorem l6Covers_eq (o : Ord') (ho : o.syms.length ≤ 9223372036854775807) : ∀ t : T, twf t → G 64 [od o, tm t] = some (vb (covT o.syms t), []) := by
  refine T.ind fun t ih hw => ?_
  obtain ⟨w1, w2, w3⟩ := (twf_eq t).1 hw
  have w3 := (twfL_iff _).1 w3
  have e1 := l2Var_eq t.name w1
  have e2 := rank_eq o t.name ho
  have e2' := fidxI_neg t.name o.syms
  have key := upto (P := fun i => L64_0 (vi i) (strs o.syms) (ints o.ws) (vi o.var) (sv t.name) (tms t.args) = some (vb (covTL o.syms (t.args.drop i)), [])) (n := t.args.length) ?_ ?_ 0 (Nat.zero_le _)
  · simp only [Int.natCast_zero, List.drop_zero] at key
    rw [g64, covT_eq]
    cases hv : varN t.name <;> rw [hv] at e1
    · cases hc : o.syms.contains t.name <;> rw [hc] at e2'
      · simp -implicitDefEqProofs only [evs, Nat.reduceAdd, reduceIte, e1, e2, e2', Bool.false_or, Bool.false_and]
      · simp -implicitDefEqProofs only [evs, Nat.reduceAdd, reduceIte, e1, e2, e2', key, Bool.false_or, Bool.true_and]
    · simp -implicitDefEqProofs only [evs, Nat.reduceAdd, reduceIte, e1, key, Bool.true_or, Bool.true_and]
  · rw [l64_0, List.drop_length]
    simp -implicitDefEqProofs only [evs, Nat.reduceAdd, reduceIte, covTL]
  · intro i hi ih'
    have hlt : (i : Int) < ((t.args.length : Nat) : Int) := by omega
    have h5 := add_one hi w2
    have e3 := ih t.args[i] (List.getElem_mem _) (w3 _ (List.getElem_mem _))
    rw [l64_0, drop_cons hi, covTL]
    cases hp : covT o.syms t.args[i] <;> rw [hp] at e3
    · simp -implicitDefEqProofs only [evs, Nat.reduceAdd, reduceIte, hlt, pIndexAddr_map hi, pLoadN_tcells, e3, Bool.false_and]
    · simp -implicitDefEqProofs only [evs, Nat.reduceAdd, reduceIte, hlt, pIndexAddr_map hi, pLoadN_tcells, e3, h5, ih', Bool.true_and]

/-- A term that is valid and covered. -/
def good (o : Ord') (t : T) : Bool := validT t && covT o.syms t
theorem l6Term_eq (o : Ord') (t : T) (ho : o.syms.length ≤ 9223372036854775807) (hw : twf t) (hs : tsz t ≤ 1048576) : G 30 [od o, tm t] = some (vb (good o t), []) := by
  have e1 := l2Good_eq t hw hs
  have e2 := l6Covers_eq o ho t hw
  rw [g30, good]
  cases h : validT t <;> rw [h] at e1 <;> simp -implicitDefEqProofs only [evs, Nat.reduceAdd, reduceIte, e1, e2, Bool.true_and, Bool.false_and]

theorem isCovered_eq (o : Ord') (ts : List T) (ho : owf o) (hl : ts.length ≤ 9223372036854775807) (hw : ∀ t ∈ ts, twf t ∧ tsz t ≤ 1048576) : G 22 [od o, tms ts] = some (vb (validO o && ts.all (good o)), []) := by
  have e1 := isValidOrdering_eq o ho
  have e3 := contains_terms (f := 49) (caps := [.elt (ocells o) 0]) rfl (fun u => !good o u) ts hl (fun u hu => by
    have a1 := isValidTerm_eq u (hw u hu).1 (hw u hu).2
    rw [g49]
    cases h : validT u <;> rw [h] at a1
    · simp -implicitDefEqProofs only [evs, Nat.reduceAdd, reduceIte, a1, good, h, Bool.false_and]
    · have a2 := covers_eq o ho.1.2 u (hw u hu).1 (by simp only [validT, Bool.and_eq_true] at h; exact h.2)
      simp -implicitDefEqProofs only [evs, Nat.reduceAdd, reduceIte, a1, pLoadN_od, a2, good, h, Bool.true_and])
  rw [any_not_all] at e3
  rw [g22]
  cases h : validO o <;> rw [h] at e1
  · simp -implicitDefEqProofs only [evs, Nat.reduceAdd, reduceIte, e1, Bool.false_and]
  · simp -implicitDefEqProofs only [evs, Nat.reduceAdd, reduceIte, e1, e3, Bool.true_and, Bool.not_not]

/-! ### Weights -/
def symW (o : Ord') (n : List UInt8) : Int := match fidx n o.syms with | some k => o.ws.getD k 0 | none => 0
mutual
def wt (o : Ord') : T → Int
  | .mk n us => (if varN n then o.var else symW o n) + wtL o us
def wtL (o : Ord') : List T → Int
  | [] => 0
  | t :: ts => wt o t + wtL o ts
end
theorem wt_eq (o : Ord') (t : T) : wt o t = (if varN t.name then o.var else symW o t.name) + wtL o t.args := by cases t; rfl

theorem validO_spec {o : Ord'} (h : validO o = true) : o.ws.length = o.syms.length ∧ 1 ≤ o.var ∧ o.var ≤ 100 ∧ ∀ i, i < o.syms.length → o.var ≤ o.ws.getD i 0 ∧ o.ws.getD i 0 ≤ 100 := by
  simp only [validO, Bool.and_eq_true, decide_eq_true_eq, inB] at h
  obtain ⟨_, h2, ⟨h3, h4⟩, h5⟩ := h
  refine ⟨h2, h3, h4, fun i hi => ?_⟩
  have := List.all_eq_true.1 h5 i (by simpa using hi)
  simp only [chkO, Bool.and_eq_true, inB, decide_eq_true_eq] at this
  exact this.2.2

theorem cov_some {o : Ord'} {n : List UInt8} (h : o.syms.contains n = true) : ∃ k, fidx n o.syms = some k ∧ k < o.syms.length := by
  rw [← fidx_isSome] at h
  obtain ⟨k, hk⟩ := Option.isSome_iff_exists.1 h
  exact ⟨k, hk, (fidx_lt hk).1⟩

/-- A symbol's weight, as it is looked up. -/
theorem symW_at {o : Ord'} (hv : validO o = true) {n : List UInt8} (h : o.syms.contains n = true) : pIndexAddr 1 (ints o.ws) (vi (fidxI 0 (fidx n o.syms))) = some (.elt (ci (symW o n)) 0) ∧ 1 ≤ symW o n ∧ symW o n ≤ 100 := by
  obtain ⟨k, hk, hlt⟩ := cov_some h
  obtain ⟨h1, h2, h3, h4⟩ := validO_spec hv
  have h5 := h4 k hlt
  have hlt' : k < o.ws.length := by omega
  have e : symW o n = o.ws[k] := by simp [symW, hk, List.getD_eq_getElem?_getD, hlt']
  rw [hk]
  have e2 : fidxI 0 (some k) = ((k : Nat) : Int) := by simp [fidxI]
  rw [e2, pIndexAddr_ci hlt', e]
  have e3 : o.ws.getD k 0 = o.ws[k] := by simp [List.getD_eq_getElem?_getD, hlt']
  rw [e3] at h5
  exact ⟨rfl, by omega, by omega⟩

theorem wt_bound {o : Ord'} (hv : validO o = true) : ∀ t : T, covT o.syms t = true → 1 ≤ wt o t ∧ wt o t ≤ 100 * nodes t := by
  refine T.ind fun t ih hc => ?_
  rw [covT_eq, Bool.and_eq_true] at hc
  obtain ⟨h1, h2, h3, _⟩ := validO_spec hv
  have hL : ∀ ts : List T, (∀ u ∈ ts, 1 ≤ wt o u ∧ wt o u ≤ 100 * nodes u) → 0 ≤ wtL o ts ∧ wtL o ts ≤ 100 * nodesL ts := by
    intro ts
    induction ts with
    | nil => intro _; simp [wtL, nodesL]
    | cons u us ih =>
      intro h
      have a := h u (by simp)
      have b := ih fun v hv => h v (by simp [hv])
      simp only [wtL, nodesL]
      omega
  have hb := hL t.args fun u hu => ih u hu (by
    have := hc.2
    rw [covTL_all] at this
    exact List.all_eq_true.1 this u hu)
  rw [wt_eq, nodes_eq]
  cases hn : varN t.name with
  | true => simp only [if_true]; omega
  | false =>
    have hcn := hc.1
    rw [hn, Bool.false_or] at hcn
    have := (symW_at hv hcn).2
    simp only [Bool.false_eq_true, if_false]
    omega

theorem wtL_bound {o : Ord'} (hv : validO o = true) {ts : List T} (hc : covTL o.syms ts = true) : 0 ≤ wtL o ts ∧ wtL o ts ≤ 100 * nodesL ts := by
  induction ts with
  | nil => simp [wtL, nodesL]
  | cons u us ih =>
    simp only [covTL, Bool.and_eq_true] at hc
    have a := wt_bound hv u hc.1
    have b := ih hc.2
    simp only [wtL, nodesL]
    omega

theorem covTL_drop {l : List (List UInt8)} {ts : List T} (h : covTL l ts = true) (i : Nat) : covTL l (ts.drop i) = true := by
  rw [covTL_all] at h ⊢
  exact List.all_eq_true.2 fun u hu => List.all_eq_true.1 h u (List.mem_of_mem_drop hu)
theorem covTL_mem {l : List (List UInt8)} {ts : List T} (h : covTL l ts = true) {u : T} (hu : u ∈ ts) : covT l u = true := by
  rw [covTL_all] at h
  exact List.all_eq_true.1 h u hu
theorem nodesL_drop (ts : List T) (i : Nat) : nodesL (ts.drop i) ≤ nodesL ts := by
  induction ts generalizing i with
  | nil => simp
  | cons u us ih =>
    cases i with
    | zero => simp
    | succ i => have := ih i; simp only [List.drop_succ_cons, nodesL]; omega

theorem weight_loop {o : Ord'} (hv : validO o = true) (ts : List T) (hl : ts.length ≤ 9223372036854775807) (hn : nodesL ts ≤ 1048577) (hc : covTL o.syms ts = true) (ih : ∀ t ∈ ts, G 84 [od o, tm t] = some (vi (wt o t), [])) :
    ∀ i, i ≤ ts.length → ∀ a : Int, 0 ≤ a → a + wtL o (ts.drop i) ≤ 200000000 → L84_0 (vi a) (tms ts) (vi (ts.length : Nat)) (vi i) (strs o.syms) (ints o.ws) (vi o.var) = some (vi (a + wtL o (ts.drop i)), []) := by
  refine upto ?_ ?_
  · intro a ha hb
    rw [l84_0, List.drop_length]
    simp -implicitDefEqProofs only [evs, Nat.reduceAdd, reduceIte, wtL, Int.add_zero]
  · intro i hi ih' a ha hb
    have hlt : (i : Int) < ((ts.length : Nat) : Int) := by omega
    have h5 := add_one hi hl
    have e1 := ih ts[i] (List.getElem_mem _)
    have b1 := wt_bound hv ts[i] (covTL_mem hc (List.getElem_mem _))
    have b2 := wtL_bound hv (covTL_drop hc (i + 1))
    rw [drop_cons hi] at hb ⊢
    simp only [wtL] at hb ⊢
    have hk : ck (a + wt o ts[i]) = some (vi (a + wt o ts[i])) := ck_le (by omega) (by omega)
    have ih' := ih' (a + wt o ts[i]) (by omega) (by omega)
    rw [l84_0]
    simp -implicitDefEqProofs only [evs, Nat.reduceAdd, reduceIte, hlt, pIndexAddr_map hi, pLoadN_tcells, e1, hk, h5, ih', Int.add_assoc]

theorem weight_eq {o : Ord'} (hv : validO o = true) (ho : o.syms.length ≤ 9223372036854775807) : ∀ t : T, twf t → tsz t ≤ 1048576 → okT t = true → covT o.syms t = true → G 84 [od o, tm t] = some (vi (wt o t), []) := by
  refine T.ind fun t ih hw hs hk hc => ?_
  obtain ⟨w1, w2, w3⟩ := (twf_eq t).1 hw
  have w3 := (twfL_iff _).1 w3
  have e1 := isVar_eq t hk
  have hb := wt_bound hv t hc
  have hn := nodes_le t
  rw [nodes_eq] at hn
  rw [nodes_eq] at hb
  have hks := okT_args hk
  rw [okT_eq] at hk
  rw [covT_eq, Bool.and_eq_true] at hc
  rw [wt_eq] at hb ⊢
  rw [g84]
  cases hvn : varN t.name <;> rw [hvn] at e1 hc hk hb
  · have hcn := hc.1
    rw [Bool.false_or] at hcn
    obtain ⟨e2, e3, e4⟩ := symW_at hv hcn
    have e5 := index_strs o.syms t.name ho
    have hbl := wtL_bound hv hc.2
    have key := weight_loop hv t.args w2 (by omega) hc.2 (fun u hu => ih u hu (w3 u hu) (by have := tsz_mem hu; rw [tsz_eq] at hs; omega) (hks u hu) (covTL_mem hc.2 hu)) 0 (Nat.zero_le _) (symW o t.name) (by omega) (by simp only [List.drop_zero]; omega)
    simp only [Int.natCast_zero, List.drop_zero] at key
    simp -implicitDefEqProofs only [evs, Nat.reduceAdd, reduceIte, e1, e5, e2, key]
  · simp only [if_true] at hk
    have : t.args = [] := List.isEmpty_iff.1 hk
    rw [this]
    simp -implicitDefEqProofs only [evs, Nat.reduceAdd, reduceIte, e1, wtL, Int.add_zero]

theorem l6Weight_loop {o : Ord'} (hv : validO o = true) (n : List UInt8) (ts : List T) (hl : ts.length ≤ 9223372036854775807) (hc : covTL o.syms ts = true) (ih : ∀ t ∈ ts, G 66 [od o, tm t] = some (vi (wt o t), [])) :
    ∀ i, i ≤ ts.length → ∀ a : Int, 0 ≤ a → a + wtL o (ts.drop i) ≤ 200000000 → L66_0 (vi a) (vi i) (strs o.syms) (ints o.ws) (vi o.var) (sv n) (tms ts) = some (vi (a + wtL o (ts.drop i)), []) := by
  refine upto ?_ ?_
  · intro a ha hb
    rw [l66_0, List.drop_length]
    simp -implicitDefEqProofs only [evs, Nat.reduceAdd, reduceIte, wtL, Int.add_zero]
  · intro i hi ih' a ha hb
    have hlt : (i : Int) < ((ts.length : Nat) : Int) := by omega
    have h5 := add_one hi hl
    have e1 := ih ts[i] (List.getElem_mem _)
    have b1 := wt_bound hv ts[i] (covTL_mem hc (List.getElem_mem _))
    have b2 := wtL_bound hv (covTL_drop hc (i + 1))
    rw [drop_cons hi] at hb ⊢
    simp only [wtL] at hb ⊢
    have hk : ck (a + wt o ts[i]) = some (vi (a + wt o ts[i])) := ck_le (by omega) (by omega)
    have ih' := ih' (a + wt o ts[i]) (by omega) (by omega)
    rw [l66_0]
    simp -implicitDefEqProofs only [evs, Nat.reduceAdd, reduceIte, hlt, pIndexAddr_map hi, pLoadN_tcells, e1, hk, h5, ih', Int.add_assoc]

theorem l6Weight_eq {o : Ord'} (hv : validO o = true) (ho : o.syms.length ≤ 9223372036854775807) : ∀ t : T, twf t → tsz t ≤ 1048576 → covT o.syms t = true → G 66 [od o, tm t] = some (vi (wt o t), []) := by
  refine T.ind fun t ih hw hs hc => ?_
  obtain ⟨w1, w2, w3⟩ := (twf_eq t).1 hw
  have w3 := (twfL_iff _).1 w3
  have e1 := l2Var_eq t.name w1
  have hb := wt_bound hv t hc
  have hn := nodes_le t
  rw [nodes_eq] at hn
  rw [nodes_eq] at hb
  obtain ⟨_, v2, v3, _⟩ := validO_spec hv
  rw [covT_eq, Bool.and_eq_true] at hc
  rw [wt_eq] at hb ⊢
  rw [g66]
  have hbl := wtL_bound hv hc.2
  have key := fun a h1 h2 => l6Weight_loop hv t.name t.args w2 hc.2 (fun u hu => ih u hu (w3 u hu) (by have := tsz_mem hu; rw [tsz_eq] at hs; omega) (covTL_mem hc.2 hu)) 0 (Nat.zero_le _) a h1 h2
  simp only [Int.natCast_zero, List.drop_zero] at key
  cases hvn : varN t.name <;> rw [hvn] at e1 hc hb
  · have hcn := hc.1
    rw [Bool.false_or] at hcn
    obtain ⟨e2, e3, e4⟩ := symW_at hv hcn
    have e5 := rank_eq o t.name ho
    have key := key (symW o t.name) (by omega) (by omega)
    simp -implicitDefEqProofs only [evs, Nat.reduceAdd, reduceIte, e1, e5, e2, key]
  · have key := key o.var (by omega) (by omega)
    simp -implicitDefEqProofs only [evs, Nat.reduceAdd, reduceIte, e1, key]

theorem good_spec {o : Ord'} {t : T} (h : good o t = true) : okT t = true ∧ covT o.syms t = true ∧ nodes t ≤ 30 := by
  simp only [good, validT, smallT, Bool.and_eq_true, decide_eq_true_eq] at h
  exact ⟨h.1.2, h.2, h.1.1.1⟩

/-! ### TermWeight -/
def termWeight (o : Ord') (t : T) : A := if validO o && good o t then .tup [vi (wt o t), vb true] else .tup [vi 0, vb false]

end Go.Proofs.YtbikhinddomhpaaGreat
