/- THE KNUTH-BENDIX ORDERING. -/
import Derived.Test.YtbikhinddomhpaaGreatLq
import Derived.Test.YtbikhinddomhpaaGreatQa
namespace Go.Proofs.YtbikhinddomhpaaGreat
open Go Go.RowKit Go.Proofs.YtbikhinddomhpaaGreat.Abs

set_option linter.unusedSimpArgs false
set_option linter.unusedVariables false
set_option maxHeartbeats 1000000

/-! ### Variables of a term -/
mutual
def varsT : T → List (List UInt8)
  | .mk n us => if varN n then [n] else varsTL us
def varsTL : List T → List (List UInt8)
  | [] => []
  | t :: ts => varsT t ++ varsTL ts
end
theorem varsT_eq (t : T) : varsT t = if varN t.name then [t.name] else varsTL t.args := by cases t; rfl

theorem strs_nil : (strs [] : A) = .sl 1 [] := rfl

theorem pFit_ok {n : Nat} (h : n ≤ 4000000) : pFit n 16 = true := by
  unfold pFit
  simp
  omega

/-- What the collecting comes to. -/
def Coll (l : List (List UInt8)) (vs : List (List UInt8)) (k : Nat) (r : List (List UInt8)) : Prop := (∀ n, n ∈ r ↔ n ∈ l ∨ n ∈ vs) ∧ r.length ≤ l.length + k

theorem collect_loop0 (ts : List T) (hl : ts.length ≤ 9223372036854775807) (hn : nodesL ts ≤ 1048577) (ih : ∀ t ∈ ts, ∀ l : List (List UInt8), l.length + nodes t ≤ 2100000 → ∃ r, C99_0 (sv t.name) (tms t.args) (l.map cs) = some (.top, [strs r]) ∧ Coll l (varsT t) (nodes t) r) :
    ∀ i, i ≤ ts.length → ∀ l : List (List UInt8), l.length + nodesL (ts.drop i) ≤ 2100000 → ∃ r, L99c0_1 (tms ts) (vi (ts.length : Nat)) (vi i) (l.map cs) = some (.top, [strs r]) ∧ Coll l (varsTL (ts.drop i)) (nodesL (ts.drop i)) r := by
  refine upto ?_ ?_
  · intro l hb
    rw [l99c0_1, List.drop_length]
    refine ⟨l, ?_, by simp [varsTL], by omega⟩
    simp -implicitDefEqProofs only [evs, Nat.reduceAdd, reduceIte]
  · intro i hi ih' l hb
    have hlt : (i : Int) < ((ts.length : Nat) : Int) := by omega
    have h5 := add_one hi hl
    rw [drop_cons hi] at hb ⊢
    simp only [nodesL, varsTL] at hb ⊢
    obtain ⟨r1, e1, c1, c2⟩ := ih ts[i] (List.getElem_mem _) l (by omega)
    obtain ⟨r2, e2, d1, d2⟩ := ih' r1 (by omega)
    rw [l99c0_1]
    refine ⟨r2, ?_, ?_, by omega⟩
    · simp -implicitDefEqProofs only [evs, Nat.reduceAdd, reduceIte, hlt, pIndexAddr_map hi, pLoadN_tcells, e1, h5, e2]
    · intro n
      rw [d1, c1, List.mem_append]
      exact or_assoc

theorem collect_eq : ∀ t : T, twf t → okT t = true → nodes t ≤ 1048577 → ∀ l : List (List UInt8), l.length + nodes t ≤ 2100000 → ∃ r, C99_0 (sv t.name) (tms t.args) (l.map cs) = some (.top, [strs r]) ∧ Coll l (varsT t) (nodes t) r := by
  refine T.ind fun t ih hw hk hn l hb => ?_
  obtain ⟨w1, w2, w3⟩ := (twf_eq t).1 hw
  have w3 := (twfL_iff _).1 w3
  have hks := okT_args hk
  have e1 := isVar_eq t hk
  rw [c99_0, varsT_eq]
  have hpos := nodes_pos t
  rw [nodes_eq] at hn hb ⊢
  cases hv : varN t.name <;> rw [hv] at e1
  · -- no variable
    have ih' : ∀ u ∈ t.args, ∀ l : List (List UInt8), l.length + nodes u ≤ 2100000 → ∃ r, C99_0 (sv u.name) (tms u.args) (l.map cs) = some (.top, [strs r]) ∧ Coll l (varsT u) (nodes u) r := fun u hu => ih u hu (w3 u hu) (hks u hu) (by have := nodesL_mem hu; omega)
    have loop := collect_loop0 t.args w2 (by omega) ih'
    have start : ∃ r, L99c0_0 (tms t.args) (vi (t.args.length : Nat)) (vi 0) (l.map cs) = some (.top, [strs r]) ∧ Coll l (varsTL t.args) (nodesL t.args) r := by
      rw [l99c0_0]
      by_cases h0 : t.args.length = 0
      · have ha : t.args = [] := List.length_eq_zero_iff.1 h0
        rw [ha]
        refine ⟨l, ?_, by simp [varsTL], by simp [nodesL]⟩
        simp -implicitDefEqProofs only [evs, Nat.reduceAdd, reduceIte]
        rfl
      · have hi : 0 < t.args.length := by omega
        have hlt : (0 : Int) < ((t.args.length : Nat) : Int) := by omega
        have hix : pIndexAddr 2 (tms t.args) (vi 0) = some (.elt (tcells t.args[0]) 0) := pIndexAddr_map (i := 0) hi
        have h5 : pBin .add false (vi 0) (vi 1) = some (vi ((1 : Nat) : Int)) := by rw [pBin_add, ck_le (by decide) (by decide)]; rfl
        have hd : t.args = t.args[0] :: t.args.drop 1 := by have := drop_cons hi; simpa using this
        have hns : nodesL t.args = nodes t.args[0] + nodesL (t.args.drop 1) := by conv => lhs; rw [hd, nodesL]
        have hvs : varsTL t.args = varsT t.args[0] ++ varsTL (t.args.drop 1) := by conv => lhs; rw [hd, varsTL]
        obtain ⟨r1, e1, c1, c2⟩ := ih' t.args[0] (List.getElem_mem _) l (by omega)
        obtain ⟨r2, e2, d1, d2⟩ := loop 1 (by omega) r1 (by omega)
        refine ⟨r2, ?_, ?_, by omega⟩
        · simp -implicitDefEqProofs only [evs, Nat.reduceAdd, reduceIte, hlt, hix, pLoadN_tcells, e1, h5, e2]
        · intro n
          rw [d1, c1, hvs, List.mem_append]
          exact or_assoc
    obtain ⟨r, e2, d1, d2⟩ := start
    refine ⟨r, ?_, by simpa using d1, by omega⟩
    cases h0 : decide (((t.args.length : Nat) : Int) = 0)
    · simp -implicitDefEqProofs only [evs, Nat.reduceAdd, reduceIte, h0, e2]
    · simp -implicitDefEqProofs only [evs, Nat.reduceAdd, reduceIte, h0, e1, e2]
  · have ha : t.args = [] := by
      rw [okT_eq, hv] at hk
      simpa using hk
    have h0 : decide (((t.args.length : Nat) : Int) = 0) = true := by rw [ha]; rfl
    have e3 := contains_strs l t.name (by omega)
    cases hc : l.contains t.name <;> rw [hc] at e3
    · have hf : pFit (l.length + 1) 16 = true := pFit_ok (by omega)
      refine ⟨l ++ [t.name], ?_, by simp, by simp⟩
      have happ : rApp (l.map cs) [[sv t.name]] = (l ++ [t.name]).map cs := by simp [rApp]
      simp -implicitDefEqProofs only [evs, Nat.reduceAdd, reduceIte, h0, e1, e3, hf, happ]
    · refine ⟨l, ?_, fun n => ⟨fun h => Or.inl h, fun h => by
        rcases h with h | h
        · exact h
        · simp at h; subst h; simpa using hc⟩, by omega⟩
      simp -implicitDefEqProofs only [evs, Nat.reduceAdd, reduceIte, h0, e1, e3]

theorem variables_eq (t : T) (hw : twf t) (hk : okT t = true) (hn : nodes t ≤ 1048577) : ∃ r, G 82 [tm t] = some (strs r, []) ∧ (∀ n, n ∈ r ↔ n ∈ varsT t) ∧ r.length ≤ 9223372036854775807 := by
  obtain ⟨r, e1, c1, c2⟩ := collect_eq t hw hk hn [] (by simp; omega)
  have e2 : C100_0 (r.map cs) = some (.top, [strs (sortB r)]) := by
    rw [c100_0]
    simp only [sortX, strsOf_map]
    rw [if_pos (by simp at c2; omega)]
  refine ⟨sortB r, ?_, fun n => ?_, by simp [sortB]; simp at c2; omega⟩
  · rw [g82]
    simp only [List.map_nil] at e1
    simp -implicitDefEqProofs only [evs, Nat.reduceAdd, reduceIte, e1, e2]
  · unfold sortB
    rw [List.mem_mergeSort, c1]
    simp

/-! ### Counting -/
mutual
def cnt (n : List UInt8) : T → Nat
  | .mk m us => (if m = n then 1 else 0) + cntL n us
def cntL (n : List UInt8) : List T → Nat
  | [] => 0
  | t :: ts => cnt n t + cntL n ts
end
theorem cnt_eq (n : List UInt8) (t : T) : cnt n t = (if t.name = n then 1 else 0) + cntL n t.args := by cases t; rfl
theorem cnt_le (n : List UInt8) : ∀ t : T, cnt n t ≤ nodes t := by
  refine T.ind fun t ih => ?_
  have : ∀ ts : List T, (∀ u ∈ ts, cnt n u ≤ nodes u) → cntL n ts ≤ nodesL ts := by
    intro ts
    induction ts with
    | nil => intro _; simp [cntL]
    | cons u us ih =>
      intro h
      have h1 := h u (by simp)
      have h2 := ih fun v hv => h v (by simp [hv])
      simp only [cntL, nodesL]
      omega
  have h := this t.args ih
  rw [cnt_eq, nodes_eq]
  split <;> omega
theorem cntL_le (n : List UInt8) (ts : List T) : cntL n ts ≤ nodesL ts := by
  induction ts with
  | nil => simp [cntL]
  | cons u us ih => have := cnt_le n u; simp only [cntL, nodesL]; omega

theorem countName_loop (n : List UInt8) (ts : List T) (hl : ts.length ≤ 9223372036854775807) (hn : nodesL ts ≤ 1048577) (ih : ∀ t ∈ ts, G 83 [tm t, sv n] = some (vi (cnt n t : Nat), [])) :
    ∀ i, i ≤ ts.length → ∀ a : Nat, a + cntL n (ts.drop i) ≤ 1048579 → L83_0 (sv n) (vi a) (tms ts) (vi (ts.length : Nat)) (vi i) = some (vi ((a + cntL n (ts.drop i) : Nat) : Int), []) := by
  refine upto ?_ ?_
  · intro a ha
    rw [l83_0, List.drop_length]
    simp -implicitDefEqProofs only [evs, Nat.reduceAdd, reduceIte, cntL, Nat.add_zero]
  · intro i hi ih' a ha
    have hlt : (i : Int) < ((ts.length : Nat) : Int) := by omega
    have h5 := add_one hi hl
    have e1 := ih ts[i] (List.getElem_mem _)
    rw [drop_cons hi] at ha ⊢
    simp only [cntL] at ha ⊢
    have hk : ck ((a : Int) + ((cnt n ts[i] : Nat) : Int)) = some (vi ((a + cnt n ts[i] : Nat) : Int)) := by rw [ck_le (by omega) (by omega)]; rfl
    have ih' := ih' (a + cnt n ts[i]) (by omega)
    rw [l83_0]
    simp -implicitDefEqProofs only [evs, Nat.reduceAdd, reduceIte, hlt, pIndexAddr_map hi, pLoadN_tcells, e1, hk, h5, ih', Nat.add_assoc]

theorem countName_eq (n : List UInt8) : ∀ t : T, twf t → nodes t ≤ 1048577 → G 83 [tm t, sv n] = some (vi (cnt n t : Nat), []) := by
  refine T.ind fun t ih hw hn => ?_
  obtain ⟨w1, w2, w3⟩ := (twf_eq t).1 hw
  have w3 := (twfL_iff _).1 w3
  rw [nodes_eq] at hn
  have hc := cntL_le n t.args
  have key := fun a h => countName_loop n t.args w2 (by omega) (fun u hu => ih u hu (w3 u hu) (by have := nodesL_mem hu; omega)) 0 (Nat.zero_le _) a h
  simp only [Int.natCast_zero, List.drop_zero] at key
  rw [g83, cnt_eq]
  by_cases h : t.name = n
  · have key := key 1 (by omega)
    simp only [Int.natCast_one] at key
    simp -implicitDefEqProofs only [evs, Nat.reduceAdd, reduceIte, h, key]
  · have key := key 0 (by omega)
    simp only [Int.natCast_zero] at key
    simp -implicitDefEqProofs only [evs, Nat.reduceAdd, reduceIte, h, key]

theorem l2Count_loop (m n : List UInt8) (ts : List T) (hl : ts.length ≤ 9223372036854775807) (hn : nodesL ts ≤ 1048577) (ih : ∀ t ∈ ts, G 89 [tm t, sv n] = some (vi (cnt n t : Nat), [])) :
    ∀ i, i ≤ ts.length → ∀ a : Nat, a + cntL n (ts.drop i) ≤ 1048579 → L89_0 (sv n) (vi a) (vi i) (sv m) (tms ts) = some (vi ((a + cntL n (ts.drop i) : Nat) : Int), []) := by
  refine upto ?_ ?_
  · intro a ha
    rw [l89_0, List.drop_length]
    simp -implicitDefEqProofs only [evs, Nat.reduceAdd, reduceIte, cntL, Nat.add_zero]
  · intro i hi ih' a ha
    have hlt : (i : Int) < ((ts.length : Nat) : Int) := by omega
    have h5 := add_one hi hl
    have e1 := ih ts[i] (List.getElem_mem _)
    rw [drop_cons hi] at ha ⊢
    simp only [cntL] at ha ⊢
    have hk : ck ((a : Int) + ((cnt n ts[i] : Nat) : Int)) = some (vi ((a + cnt n ts[i] : Nat) : Int)) := by rw [ck_le (by omega) (by omega)]; rfl
    have ih' := ih' (a + cnt n ts[i]) (by omega)
    rw [l89_0]
    simp -implicitDefEqProofs only [evs, Nat.reduceAdd, reduceIte, hlt, pIndexAddr_map hi, pLoadN_tcells, e1, hk, h5, ih', Nat.add_assoc]

theorem l2Count_eq (n : List UInt8) : ∀ t : T, twf t → nodes t ≤ 1048577 → G 89 [tm t, sv n] = some (vi (cnt n t : Nat), []) := by
  refine T.ind fun t ih hw hn => ?_
  obtain ⟨w1, w2, w3⟩ := (twf_eq t).1 hw
  have w3 := (twfL_iff _).1 w3
  rw [nodes_eq] at hn
  have hc := cntL_le n t.args
  have key := fun a h => l2Count_loop t.name n t.args w2 (by omega) (fun u hu => ih u hu (w3 u hu) (by have := nodesL_mem hu; omega)) 0 (Nat.zero_le _) a h
  simp only [Int.natCast_zero, List.drop_zero] at key
  rw [g89, cnt_eq]
  by_cases h : t.name = n
  · have key := key 1 (by omega)
    simp only [Int.natCast_one] at key
    rw [h] at key
    simp -implicitDefEqProofs only [evs, Nat.reduceAdd, reduceIte, h, key]
  · have key := key 0 (by omega)
    simp only [Int.natCast_zero] at key
    simp -implicitDefEqProofs only [evs, Nat.reduceAdd, reduceIte, h, key]

/-! ### The reference's variables -/
theorem l2Put_eq (l : List (List UInt8)) (s : List UInt8) (hl : l.length ≤ 2100000) : ∃ r, G 105 [strs l, sv s] = some (strs r, []) ∧ Coll l [s] 1 r := by
  have key := upto (P := fun i => ∃ r, L105_0 (strs l) (sv s) (vi i) = some (strs r, []) ∧ Coll l [s] 1 r) (n := l.length) ?_ ?_ 0 (Nat.zero_le _)
  · simp only [Int.natCast_zero] at key
    rw [g105]
    exact key
  · have hx : ¬ ((l.length : Nat) : Int) < ((l.length : Nat) : Int) := Int.lt_irrefl _
    have s1 : pSlice 1 (strs l) none (some (vi (l.length : Nat))) = some (strs l) := by rw [pSlice_take (by simp), List.take_of_length_le (by simp)]
    have s2 : pSlice 1 (strs l) (some (vi (l.length : Nat))) none = some (.sl 1 []) := by rw [pSlice_drop (by simp), List.drop_of_length_le (by simp)]
    have f1 : pFit l.length 16 = true := pFit_ok (by omega)
    have f2 : pFit (l.length + 1) 16 = true := pFit_ok (by omega)
    have happ : rApp (rApp (l.map cs) [[sv s]]) [] = (l ++ [s]).map cs := by simp [rApp]
    have hlen : (rApp (l.map cs) [[sv s]]).length = l.length + 1 := by simp [rApp]
    refine ⟨l ++ [s], ?_, by intro n; simp, by simp⟩
    rw [l105_0]
    simp -implicitDefEqProofs only [evs, Nat.reduceAdd, reduceIte, hx, s1, s2, f1, f2, hlen, happ, Nat.add_zero]
  · intro i hi ih
    have hlt : (i : Int) < ((l.length : Nat) : Int) := by omega
    have h5 := add_one hi (by omega)
    rw [l105_0]
    cases h1 : sLt l[i] s
    · by_cases h2 : l[i] = s
      · refine ⟨l, ?_, fun n => ⟨fun h => Or.inl h, fun h => by
          rcases h with h | h
          · exact h
          · simp at h; rw [h, ← h2]; exact List.getElem_mem _⟩, by omega⟩
        rw [h2] at h1
        simp -implicitDefEqProofs only [evs, Nat.reduceAdd, reduceIte, hlt, pIndexAddr_map hi, h2, h1]
      · have s1 : pSlice 1 (strs l) none (some (vi i)) = some (strs (l.take i)) := by rw [pSlice_take (by simp; omega), ← List.map_take]
        have s2 : pSlice 1 (strs l) (some (vi i)) none = some (strs (l.drop i)) := by rw [pSlice_drop (by simp; omega), ← List.map_drop]
        have ht : (l.take i).length = i := by rw [List.length_take]; omega
        have f1 : pFit i 16 = true := pFit_ok (by omega)
        have f2 : pFit (i + 1) 16 = true := pFit_ok (by omega)
        have f3 : pFit (i + 1 + (l.drop i).length) 16 = true := pFit_ok (by rw [List.length_drop]; omega)
        have happ : rApp (rApp ((l.take i).map cs) [[sv s]]) ((l.drop i).map cs) = (l.take i ++ [s] ++ l.drop i).map cs := by simp [rApp]
        have hlen : (rApp ((l.take i).map cs) [[sv s]]).length = i + 1 := by simp [rApp]; omega
        refine ⟨l.take i ++ [s] ++ l.drop i, ?_, fun n => ?_, by simp; omega⟩
        · simp -implicitDefEqProofs only [evs, Nat.reduceAdd, reduceIte, hlt, pIndexAddr_map hi, h1, h2, s1, s2, ht, f1, f2, f3, hlen, happ]
        · have hm : n ∈ l ↔ n ∈ l.take i ∨ n ∈ l.drop i := by rw [← List.mem_append, List.take_append_drop]
          simp only [List.mem_append, List.mem_singleton, hm]
          exact ⟨fun h => by rcases h with (h | h) | h <;> simp [h], fun h => by rcases h with (h | h) | h <;> simp [h]⟩
    · obtain ⟨r, e, c⟩ := ih
      refine ⟨r, ?_, c⟩
      simp -implicitDefEqProofs only [evs, Nat.reduceAdd, reduceIte, hlt, pIndexAddr_map hi, h1, h5, e]

theorem l2Into_eq : ∀ t : T, twf t → ∀ l : List (List UInt8), l.length + nodes t ≤ 2100000 → ∃ r, G 101 [strs l, tm t] = some (strs r, []) ∧ Coll l (varsT t) (nodes t) r := by
  refine T.ind fun t ih hw l hb => ?_
  obtain ⟨w1, w2, w3⟩ := (twf_eq t).1 hw
  have w3 := (twfL_iff _).1 w3
  have e1 := l2Var_eq t.name w1
  rw [g101, varsT_eq]
  rw [nodes_eq] at hb ⊢
  cases hv : varN t.name <;> rw [hv] at e1
  · have key := upto (P := fun i => ∀ l : List (List UInt8), l.length + nodesL (t.args.drop i) ≤ 2100000 → ∃ r, L101_0 (strs l) (vi i) (sv t.name) (tms t.args) = some (strs r, []) ∧ Coll l (varsTL (t.args.drop i)) (nodesL (t.args.drop i)) r) (n := t.args.length) ?_ ?_ 0 (Nat.zero_le _)
    · simp only [Int.natCast_zero, List.drop_zero] at key
      obtain ⟨r, e, c1, c2⟩ := key l (by omega)
      refine ⟨r, ?_, by simpa using c1, by omega⟩
      simp -implicitDefEqProofs only [evs, Nat.reduceAdd, reduceIte, e1, e]
    · intro l hb
      rw [l101_0, List.drop_length]
      refine ⟨l, ?_, by simp [varsTL], by omega⟩
      simp -implicitDefEqProofs only [evs, Nat.reduceAdd, reduceIte]
    · intro i hi ih' l hb
      have hlt : (i : Int) < ((t.args.length : Nat) : Int) := by omega
      have h5 := add_one hi w2
      rw [drop_cons hi] at hb ⊢
      simp only [nodesL, varsTL] at hb ⊢
      obtain ⟨r1, a1, c1, c2⟩ := ih t.args[i] (List.getElem_mem _) (w3 _ (List.getElem_mem _)) l (by omega)
      obtain ⟨r2, a2, d1, d2⟩ := ih' r1 (by omega)
      rw [l101_0]
      refine ⟨r2, ?_, ?_, by omega⟩
      · simp -implicitDefEqProofs only [evs, Nat.reduceAdd, reduceIte, hlt, pIndexAddr_map hi, pLoadN_tcells, a1, h5, a2]
      · intro n
        rw [d1, c1, List.mem_append]
        exact or_assoc
  · obtain ⟨r, e, c1, c2⟩ := l2Put_eq l t.name (by omega)
    refine ⟨r, ?_, by simpa using c1, by omega⟩
    simp -implicitDefEqProofs only [evs, Nat.reduceAdd, reduceIte, e1, e]

theorem l2Vars_eq (t : T) (hw : twf t) (hn : nodes t ≤ 1048577) : ∃ r, G 88 [tm t] = some (strs r, []) ∧ (∀ n, n ∈ r ↔ n ∈ varsT t) ∧ r.length ≤ 9223372036854775807 := by
  obtain ⟨r, e, c1, c2⟩ := l2Into_eq t hw [] (by simp; omega)
  have e : G 101 [.sl 1 [], tm t] = some (strs r, []) := e
  refine ⟨r, ?_, fun n => by rw [c1]; simp, by simp at c2; omega⟩
  rw [g88]
  simp -implicitDefEqProofs only [evs, Nat.reduceAdd, reduceIte, e]

/-! ### The ordering, by fuel -/
def bal (s t : T) : Bool := (varsT t).all fun n => decide (cnt n t ≤ cnt n s)
theorem bal_of {r : List (List UInt8)} {s t : T} (h : ∀ n, n ∈ r ↔ n ∈ varsT t) : (r.all fun n => decide (cnt n t ≤ cnt n s)) = bal s t := by
  unfold bal
  rw [Bool.eq_iff_iff, List.all_eq_true, List.all_eq_true]
  exact ⟨fun a n hn => a n ((h n).2 hn), fun a n hn => a n ((h n).1 hn)⟩

theorem balanced_eq (s t : T) (hw : twf s) (hw' : twf t) (hs : nodes s ≤ 1048577) (ht : nodes t ≤ 1048577) : G 65 [tm s, tm t] = some (vb (bal s t), []) := by
  obtain ⟨r, e, c1, c2⟩ := l2Vars_eq t hw' ht
  have key := upto (P := fun i => L65_0 (strs r) (vi i) (sv s.name) (tms s.args) (sv t.name) (tms t.args) = some (vb ((r.drop i).all fun n => decide (cnt n t ≤ cnt n s)), [])) (n := r.length) ?_ ?_ 0 (Nat.zero_le _)
  · simp only [Int.natCast_zero, List.drop_zero] at key
    rw [bal_of c1] at key
    rw [g65]
    simp -implicitDefEqProofs only [evs, Nat.reduceAdd, reduceIte, e, key]
  · rw [l65_0, List.drop_length]
    simp -implicitDefEqProofs only [evs, Nat.reduceAdd, reduceIte]
  · intro i hi ih
    have hlt : (i : Int) < ((r.length : Nat) : Int) := by omega
    have h5 := add_one hi c2
    have e1 := l2Count_eq r[i] s hw hs
    have e2 := l2Count_eq r[i] t hw' ht
    rw [l65_0, drop_cons hi, List.all_cons]
    by_cases h : cnt r[i] t ≤ cnt r[i] s
    · have h' : ¬ ((cnt r[i] s : Nat) : Int) < ((cnt r[i] t : Nat) : Int) := by omega
      simp -implicitDefEqProofs only [evs, Nat.reduceAdd, reduceIte, hlt, pIndexAddr_map hi, e1, e2, h', h, h5, ih, Bool.true_and]
    · have h' : ((cnt r[i] s : Nat) : Int) < ((cnt r[i] t : Nat) : Int) := by omega
      simp -implicitDefEqProofs only [evs, Nat.reduceAdd, reduceIte, hlt, pIndexAddr_map hi, e1, e2, h', h, Bool.false_and]

noncomputable def kboN (o : Ord') : Nat → T → T → Bool
  | 0, _, _ => false
  | n + 1, s, t => if bal s t then (if wt o s = wt o t then (if varN s.name || varN t.name then false else if rootC o s t = 0 then (match fd s.args t.args with | some (a, b) => kboN o n a b | none => false) else decide (0 < rootC o s t)) else decide (wt o t < wt o s)) else false

theorem kbo_args {s t a b : T} {n : Nat} (ha : a ∈ s.args) (hb : b ∈ t.args) (h : nodes s + nodes t ≤ n + 1) : nodes a + nodes b ≤ n := by
  have h1 := nodesL_mem ha
  have h2 := nodesL_mem hb
  rw [nodes_eq s, nodes_eq t] at h
  omega

theorem root_zero {o : Ord'} {s t : T} (h : rootC o s t = 0) : rk o s = rk o t ∧ s.args.length = t.args.length := by
  unfold rootC cmpI at h
  split at h
  · rename_i h1
    refine ⟨h1, ?_⟩
    split at h
    · cases h
    · split at h
      · cases h
      · omega
  · split at h
    · cases h
    · split at h
      · cases h
      · omega

theorem l6KBO_eq {o : Ord'} (hv : validO o = true) (ho : o.syms.length ≤ 9223372036854775807) : ∀ (n : Nat) (s t : T), nodes s + nodes t ≤ n → twf s → twf t → tsz s ≤ 1048576 → tsz t ≤ 1048576 → covT o.syms s = true → covT o.syms t = true → G 33 [od o, tm s, tm t] = some (vb (kboN o n s t), [])
  | 0, s, t, h, _, _, _, _, _, _ => by have := nodes_pos s; omega
  | n + 1, s, t, h, hw, hw', hs, ht, hc, hc' => by
    obtain ⟨w1, w2, w3⟩ := (twf_eq s).1 hw
    have w3 := (twfL_iff _).1 w3
    obtain ⟨v1, v2, v3⟩ := (twf_eq t).1 hw'
    have v3 := (twfL_iff _).1 v3
    have hns := nodes_le s
    have hnt := nodes_le t
    have e1 := balanced_eq s t hw hw' (by omega) (by omega)
    have e2 := l6Weight_eq hv ho s hw hs hc
    have e3 := l6Weight_eq hv ho t hw' ht hc'
    have e4 := l2Var_eq s.name w1
    have e5 := l2Var_eq t.name v1
    have e6 := root_eq o s t ho
    have cs1 : ∀ a ∈ s.args, covT o.syms a = true := fun a ha => by rw [covT_eq, Bool.and_eq_true] at hc; exact covTL_mem hc.2 ha
    have cs2 : ∀ a ∈ t.args, covT o.syms a = true := fun a ha => by rw [covT_eq, Bool.and_eq_true] at hc'; exact covTL_mem hc'.2 ha
    rw [g33, kboN]
    cases hb : bal s t <;> rw [hb] at e1
    · simp -implicitDefEqProofs only [evs, Nat.reduceAdd, reduceIte, e1]
    by_cases hwt : wt o s = wt o t
    rotate_left
    · simp -implicitDefEqProofs only [evs, Nat.reduceAdd, reduceIte, e1, e2, e3, hwt]
    cases hv1 : varN s.name <;> rw [hv1] at e4
    rotate_left
    · simp -implicitDefEqProofs only [evs, Nat.reduceAdd, reduceIte, e1, e2, e3, hwt, e4, Bool.true_or]
    cases hv2 : varN t.name <;> rw [hv2] at e5
    rotate_left
    · simp -implicitDefEqProofs only [evs, Nat.reduceAdd, reduceIte, e1, e2, e3, hwt, e4, e5, Bool.false_or]
    by_cases hr : rootC o s t = 0
    rotate_left
    · simp -implicitDefEqProofs only [evs, Nat.reduceAdd, reduceIte, e1, e2, e3, hwt, e4, e5, e6, hr, Bool.false_or]
    obtain ⟨_, hlen⟩ := root_zero hr
    rcases first_eq s t hw hw' hlen with ⟨f1, f2⟩ | ⟨k, k1, k2, f1, f2⟩
    · have : ¬ (0 : Int) ≤ -1 := by decide
      simp -implicitDefEqProofs only [evs, Nat.reduceAdd, reduceIte, e1, e2, e3, hwt, e4, e5, e6, hr, Bool.false_or, f1, f2, this]
    · have m1 := List.getElem_mem k1
      have m2 := List.getElem_mem k2
      have e7 := l6KBO_eq hv ho n s.args[k] t.args[k] (kbo_args m1 m2 h) (w3 _ m1) (v3 _ m2) (by have := tsz_mem m1; rw [tsz_eq] at hs; omega) (by have := tsz_mem m2; rw [tsz_eq] at ht; omega) (cs1 _ m1) (cs2 _ m2)
      have : (0 : Int) ≤ (k : Int) := by omega
      simp -implicitDefEqProofs only [evs, Nat.reduceAdd, reduceIte, e1, e2, e3, hwt, e4, e5, e6, hr, Bool.false_or, f1, f2, this, pIndexAddr_map k1, pIndexAddr_map k2, pLoadN_tcells, e7]

theorem kbo_eq {o : Ord'} (hv : validO o = true) (ho : o.syms.length ≤ 9223372036854775807) : ∀ (n : Nat) (s t : T), nodes s + nodes t ≤ n → twf s → twf t → tsz s ≤ 1048576 → tsz t ≤ 1048576 → okT s = true → okT t = true → covT o.syms s = true → covT o.syms t = true → G 53 [od o, tm s, tm t] = some (vb (kboN o n s t), [])
  | 0, s, t, h, _, _, _, _, _, _, _, _ => by have := nodes_pos s; omega
  | n + 1, s, t, h, hw, hw', hs, ht, hk, hk', hc, hc' => by
    obtain ⟨w1, w2, w3⟩ := (twf_eq s).1 hw
    have w3 := (twfL_iff _).1 w3
    obtain ⟨v1, v2, v3⟩ := (twf_eq t).1 hw'
    have v3 := (twfL_iff _).1 v3
    have hns := nodes_le s
    have hnt := nodes_le t
    have ks := okT_args hk
    have ks' := okT_args hk'
    have e2 := weight_eq hv ho s hw hs hk hc
    have e3 := weight_eq hv ho t hw' ht hk' hc'
    have e4 := isVar_eq s hk
    have e5 := isVar_eq t hk'
    have e6 := precedes_eq o t s ho
    rw [rootC_swap] at e6
    have cs1 : ∀ a ∈ s.args, covT o.syms a = true := fun a ha => by rw [covT_eq, Bool.and_eq_true] at hc; exact covTL_mem hc.2 ha
    have cs2 : ∀ a ∈ t.args, covT o.syms a = true := fun a ha => by rw [covT_eq, Bool.and_eq_true] at hc'; exact covTL_mem hc'.2 ha
    obtain ⟨r, er, c1, c2⟩ := variables_eq t hw' hk' (by omega)
    have tail : L53_0 (strs r) (vi (r.length : Nat)) (vi (r.length : Nat)) (strs o.syms) (ints o.ws) (vi o.var) (sv s.name) (tms s.args) (sv t.name) (tms t.args) = some (vb (if wt o s = wt o t then (if varN s.name || varN t.name then false else if rootC o s t = 0 then (match fd s.args t.args with | some (a, b) => kboN o n a b | none => false) else decide (0 < rootC o s t)) else decide (wt o t < wt o s)), []) := by
      rw [l53_0]
      by_cases hwt : wt o s = wt o t
      rotate_left
      · simp -implicitDefEqProofs only [evs, Nat.reduceAdd, reduceIte, e2, e3, hwt]
      have hnlt : ¬ wt o t < wt o s := by omega
      cases hv1 : varN s.name <;> rw [hv1] at e4
      rotate_left
      · simp -implicitDefEqProofs only [evs, Nat.reduceAdd, reduceIte, e2, e3, hwt, e4, Bool.true_or]
      cases hv2 : varN t.name <;> rw [hv2] at e5
      rotate_left
      · simp -implicitDefEqProofs only [evs, Nat.reduceAdd, reduceIte, e2, e3, hwt, e4, e5, Bool.false_or]
      by_cases hr : rootC o s t = 0
      · have hr' : ¬ -rootC o s t < 0 := by omega
        obtain ⟨hrk, hlen⟩ := root_zero hr
        have hcn : o.syms.contains s.name = true := by rw [covT_eq, hv1, Bool.false_or, Bool.and_eq_true] at hc; exact hc.1
        have hcn' : o.syms.contains t.name = true := by rw [covT_eq, hv2, Bool.false_or, Bool.and_eq_true] at hc'; exact hc'.1
        have e7 := firstDiffering_eq s t hw hw' (rk_inj hcn hcn' hrk) hlen
        cases hf : fd s.args t.args with
        | none =>
          have : fdR s t = .tup [zT, zT, vb false] := by unfold fdR; rw [hf]
          rw [this] at e7
          simp only [hr] at e6
          simp -implicitDefEqProofs only [evs, Nat.reduceAdd, reduceIte, e2, e3, hwt, e4, e5, e6, hr, hr', Bool.false_or, e7, zT, Int.neg_zero]
        | some p =>
          obtain ⟨a, b⟩ := p
          have : fdR s t = .tup [tm a, tm b, vb true] := by unfold fdR; rw [hf]
          rw [this] at e7
          obtain ⟨ma, mb⟩ := fd_mem hf
          have e8 := kbo_eq hv ho n a b (kbo_args ma mb h) (w3 a ma) (v3 b mb) (by have := tsz_mem ma; rw [tsz_eq] at hs; omega) (by have := tsz_mem mb; rw [tsz_eq] at ht; omega) (ks a ma) (ks' b mb) (cs1 a ma) (cs2 b mb)
          simp only [hr] at e6
          simp -implicitDefEqProofs only [evs, Nat.reduceAdd, reduceIte, e2, e3, hwt, e4, e5, e6, hr, hr', Bool.false_or, e7, e8, Int.neg_zero]
      · by_cases hg : 0 < rootC o s t
        · have hg' : -rootC o s t < 0 := by omega
          simp -implicitDefEqProofs only [evs, Nat.reduceAdd, reduceIte, e2, e3, hwt, e4, e5, e6, hr, hg, hg', Bool.false_or]
        · have hg' : ¬ -rootC o s t < 0 := by omega
          have hno : ¬ (s.name = t.name ∧ s.args.length = t.args.length) := by
            rintro ⟨q1, q2⟩
            apply hr
            have : rk o s = rk o t := by unfold rk; rw [q1]
            unfold rootC cmpI
            rw [if_pos this, q2]
            simp
          have e7 := firstDiffering_no s t hno
          simp -implicitDefEqProofs only [evs, Nat.reduceAdd, reduceIte, e2, e3, hwt, e4, e5, e6, hr, hg, hg', Bool.false_or, e7, zT]
    have key := upto (P := fun i => L53_0 (strs r) (vi (r.length : Nat)) (vi i) (strs o.syms) (ints o.ws) (vi o.var) (sv s.name) (tms s.args) (sv t.name) (tms t.args) = some (vb (if ((r.drop i).all fun n => decide (cnt n t ≤ cnt n s)) then (if wt o s = wt o t then (if varN s.name || varN t.name then false else if rootC o s t = 0 then (match fd s.args t.args with | some (a, b) => kboN o n a b | none => false) else decide (0 < rootC o s t)) else decide (wt o t < wt o s)) else false), [])) (n := r.length) ?_ ?_ 0 (Nat.zero_le _)
    · simp only [Int.natCast_zero, List.drop_zero] at key
      rw [bal_of c1] at key
      rw [g53, kboN]
      simp -implicitDefEqProofs only [evs, Nat.reduceAdd, reduceIte, er]
      exact key
    · rw [tail, List.drop_length]
      rfl
    · intro i hi ih
      have hlt : (i : Int) < ((r.length : Nat) : Int) := by omega
      have h5 := add_one hi c2
      have a1 := countName_eq r[i] s hw (by omega)
      have a2 := countName_eq r[i] t hw' (by omega)
      rw [l53_0, drop_cons hi, List.all_cons]
      by_cases hcn : cnt r[i] t ≤ cnt r[i] s
      · have h' : ¬ ((cnt r[i] s : Nat) : Int) < ((cnt r[i] t : Nat) : Int) := by omega
        simp -implicitDefEqProofs only [evs, Nat.reduceAdd, reduceIte, hlt, pIndexAddr_map hi, a1, a2, h', hcn, h5, ih, Bool.true_and]
      · have h' : ((cnt r[i] s : Nat) : Int) < ((cnt r[i] t : Nat) : Int) := by omega
        simp -implicitDefEqProofs only [evs, Nat.reduceAdd, reduceIte, hlt, pIndexAddr_map hi, a1, a2, h', hcn, Bool.false_and]

/-! ### CompareKBO -/
noncomputable def cmpKBO (o : Ord') (s t : T) : Int := codeI (dq s t) (kboN o (nodes s + nodes t) s t) (kboN o (nodes s + nodes t) t s)
noncomputable def compareKBO (o : Ord') (s t : T) : A := if validO o && (good o s && good o t) then .tup [vi (cmpKBO o s t), vb true] else .tup [vi 0, vb false]

theorem spec_compareKBO (o : Ord') (s t : T) (ho : owf o) (hw : twf s) (hs : tsz s ≤ 1048576) (hw' : twf t) (hs' : tsz t ≤ 1048576) : G 11 [od o, tm s, tm t] = some (compareKBO o s t, []) := by
  have e1 := l6Good_eq o ho
  have e2 := l6Term_eq o s ho.1.2 hw hs
  have e3 := l6Term_eq o t ho.1.2 hw' hs'
  have e4 := l2Same_eq s hw t hw'
  have e7 := l6Code_eq (dq s t) (kboN o (nodes s + nodes t) s t) (kboN o (nodes s + nodes t) t s)
  rw [g11, compareKBO]
  cases h : validO o <;> rw [h] at e1
  · simp -implicitDefEqProofs only [evs, Nat.reduceAdd, reduceIte, e1, Bool.false_and]
  · cases h2 : good o s <;> rw [h2] at e2
    · simp -implicitDefEqProofs only [evs, Nat.reduceAdd, reduceIte, e1, e2, Bool.and_false, Bool.false_and]
    · cases h3 : good o t <;> rw [h3] at e3
      · simp -implicitDefEqProofs only [evs, Nat.reduceAdd, reduceIte, e1, e2, e3, Bool.and_false]
      · have g2 := good_spec h2
        have g3 := good_spec h3
        have e5 := l6KBO_eq h ho.1.2 (nodes s + nodes t) s t (Nat.le_refl _) hw hw' hs hs' g2.2.1 g3.2.1
        have e6 := l6KBO_eq h ho.1.2 (nodes s + nodes t) t s (by omega) hw' hw hs' hs g3.2.1 g2.2.1
        simp -implicitDefEqProofs only [evs, Nat.reduceAdd, reduceIte, e1, e2, e3, e4, e5, e6, e7, cmpKBO]

theorem compareKBO_code {o : Ord'} (hv : validO o = true) (s t : T) (ho : owf o) (hw : twf s) (hs : tsz s ≤ 1048576) (hw' : twf t) (hs' : tsz t ≤ 1048576) (hk : okT s = true) (hk' : okT t = true) (hc : covT o.syms s = true) (hc' : covT o.syms t = true) : G 23 [od o, tm s, tm t] = some (vi (cmpKBO o s t), []) := by
  have e4 := equalTerms_eq s hw t hw'
  have e5 := kbo_eq hv ho.1.2 (nodes s + nodes t) s t (Nat.le_refl _) hw hw' hs hs' hk hk' hc hc'
  have e6 := kbo_eq hv ho.1.2 (nodes s + nodes t) t s (by omega) hw' hw hs' hs hk' hk hc' hc
  have c1 : G 52 [.elt (ocells o) 0, .elt [sv s.name, .sl 2 (s.args.map tcells)] 0, .elt [sv t.name, .sl 2 (t.args.map tcells)] 0] = some (vb (kboN o (nodes s + nodes t) s t), []) := by
    rw [g52]
    simp -implicitDefEqProofs only [evs, Nat.reduceAdd, reduceIte, pLoadN_2, pLoadN_3, e5]
  have c2 : G 54 [.elt (ocells o) 0, .elt [sv t.name, .sl 2 (t.args.map tcells)] 0, .elt [sv s.name, .sl 2 (s.args.map tcells)] 0] = some (vb (kboN o (nodes s + nodes t) t s), []) := by
    rw [g54]
    simp -implicitDefEqProofs only [evs, Nat.reduceAdd, reduceIte, pLoadN_2, pLoadN_3, e6]
  have e7 := ordered_eq (f := 52) (g := 54) rfl rfl (dq s t) _ _ c1 c2
  rw [g23]
  simp -implicitDefEqProofs only [evs, Nat.reduceAdd, reduceIte, e4, e7, cmpKBO]

theorem impl_compareKBO (o : Ord') (s t : T) (ho : owf o) (hw : twf s) (hs : tsz s ≤ 1048576) (hw' : twf t) (hs' : tsz t ≤ 1048576) : G 9 [od o, tm s, tm t] = some (compareKBO o s t, []) := by
  have e1 := isCovered2 o s t ho hw hs hw' hs'
  rw [g9, compareKBO]
  cases h : (validO o && (good o s && good o t)) <;> rw [h] at e1
  · simp -implicitDefEqProofs only [evs, Nat.reduceAdd, reduceIte, e1]
  · simp only [Bool.and_eq_true] at h
    obtain ⟨h1, h2, h3⟩ := h
    have g2 := good_spec h2
    have g3 := good_spec h3
    have e2 := compareKBO_code h1 s t ho hw hs hw' hs' g2.1 g3.1 g2.2.1 g3.2.1
    simp -implicitDefEqProofs only [evs, Nat.reduceAdd, reduceIte, e1, e2]

theorem compareKBO_shape (o : Ord') (s t : T) : ∃ (x : Int) (b : Bool), compareKBO o s t = .tup [vi x, vb b] := by
  unfold compareKBO
  split
  · exact ⟨_, _, rfl⟩
  · exact ⟨_, _, rfl⟩

end Go.Proofs.YtbikhinddomhpaaGreat
