/- THE LEXICOGRAPHIC PATH ORDERING. -/
import Derived.Test.YtbikhinddomhpaaGreatOw
namespace Go.Proofs.YtbikhinddomhpaaGreat
open Go Go.RowKit Go.Proofs.YtbikhinddomhpaaGreat.Abs

set_option linter.unusedSimpArgs false
set_option linter.unusedVariables false
set_option maxHeartbeats 1000000

theorem pLoadN_2 (a b : A) : pLoadN 2 (.elt [a, b] 0) = some (.agg [a, b]) := rfl
theorem pLoadN_3 (a b c : A) : pLoadN 3 (.elt [a, b, c] 0) = some (.agg [a, b, c]) := rfl

/-- Equality as a truth value. -/
noncomputable def dq {α : Type} (a b : α) : Bool := @decide (a = b) (Classical.propDecidable _)
theorem dq_true {α : Type} {a b : α} : dq a b = true ↔ a = b := by unfold dq; exact @decide_eq_true_iff _ (Classical.propDecidable _)
theorem dq_false {α : Type} {a b : α} : dq a b = false ↔ ¬ a = b := by unfold dq; exact @decide_eq_false_iff_not _ (Classical.propDecidable _)
theorem dq_self {α : Type} (a : α) : dq a a = true := dq_true.2 rfl
theorem dq_cons {α : Type} (a b : α) (l r : List α) : dq (a :: l) (b :: r) = (dq a b && dq l r) := by
  rw [Bool.eq_iff_iff, Bool.and_eq_true, dq_true, dq_true, dq_true, List.cons.injEq]
theorem dq_T (s t : T) : dq s t = (decide (s.name = t.name) && dq s.args t.args) := by
  cases s with
  | mk n us => cases t with
    | mk m vs => rw [Bool.eq_iff_iff, Bool.and_eq_true, dq_true, dq_true, decide_eq_true_iff, T.mk.injEq]; rfl

theorem dq_len {α : Type} {a b : List α} (h : ¬ a.length = b.length) : dq a b = false := dq_false.2 fun e => h (by rw [e])

theorem equalTerms_args (ts us : List T) (hl : ts.length ≤ 9223372036854775807) (hlen : ts.length = us.length) (ih : ∀ t ∈ ts, ∀ u ∈ us, G 25 [tm t, tm u] = some (vb (dq t u), [])) :
    ∀ i, i ≤ ts.length → L55_0 (tms us) (.fn 25 []) (tms ts) (vi (ts.length : Nat)) (vi i) = some (vb (dq (ts.drop i) (us.drop i)), []) := by
  refine upto ?_ ?_
  · rw [l55_0, List.drop_length, hlen, List.drop_length, dq_self]
    simp -implicitDefEqProofs only [evs, Nat.reduceAdd, reduceIte]
  · intro i hi ih'
    have hlt : (i : Int) < ((ts.length : Nat) : Int) := by omega
    have hi2 : i < us.length := by omega
    have h5 := add_one hi hl
    have e1 := ih ts[i] (List.getElem_mem _) us[i] (List.getElem_mem _)
    rw [l55_0, drop_cons hi, drop_cons hi2, dq_cons]
    cases hp : dq ts[i] us[i] <;> rw [hp] at e1
    · simp -implicitDefEqProofs only [evs, Nat.reduceAdd, reduceIte, hlt, pIndexAddr_map hi, pIndexAddr_map hi2, pLoadN_tcells, callc_fn (f := 25) rfl, List.append_nil, e1, Bool.false_and]
    · simp -implicitDefEqProofs only [evs, Nat.reduceAdd, reduceIte, hlt, pIndexAddr_map hi, pIndexAddr_map hi2, pLoadN_tcells, callc_fn (f := 25) rfl, List.append_nil, e1, h5, ih', Bool.true_and]

theorem equalTerms_eq : ∀ s : T, twf s → ∀ t : T, twf t → G 25 [tm s, tm t] = some (vb (dq s t), []) := by
  refine T.ind fun s ih hw t hw' => ?_
  obtain ⟨w1, w2, w3⟩ := (twf_eq s).1 hw
  have w3 := (twfL_iff _).1 w3
  obtain ⟨v1, v2, v3⟩ := (twf_eq t).1 hw'
  have v3 := (twfL_iff _).1 v3
  rw [g25, dq_T]
  by_cases hn : s.name = t.name
  · have e : G 55 [tms s.args, tms t.args, .fn 25 []] = some (vb (dq s.args t.args), []) := by
      rw [g55]
      by_cases hlen : s.args.length = t.args.length
      · have key := equalTerms_args s.args t.args w2 hlen (fun a ha b hb => ih a ha (w3 a ha) b (v3 b hb)) 0 (Nat.zero_le _)
        simp only [Int.natCast_zero, List.drop_zero] at key
        rw [hlen] at key
        simp -implicitDefEqProofs only [evs, Nat.reduceAdd, reduceIte, hlen, key]
      · have hlen' : ¬ ((s.args.length : Nat) : Int) = ((t.args.length : Nat) : Int) := by omega
        simp -implicitDefEqProofs only [evs, Nat.reduceAdd, reduceIte, hlen', dq_len hlen]
    simp -implicitDefEqProofs only [evs, Nat.reduceAdd, reduceIte, hn, e, Bool.true_and]
  · simp -implicitDefEqProofs only [evs, Nat.reduceAdd, reduceIte, hn, Bool.false_and]

theorem l2Same_loop (n m : List UInt8) (ts us : List T) (hl : ts.length ≤ 9223372036854775807) (hlen : ts.length = us.length) (ih : ∀ t ∈ ts, ∀ u ∈ us, G 32 [tm t, tm u] = some (vb (dq t u), [])) :
    ∀ i, i ≤ ts.length → L32_0 (vi i) (sv n) (tms ts) (sv m) (tms us) = some (vb (dq (ts.drop i) (us.drop i)), []) := by
  refine upto ?_ ?_
  · rw [l32_0, List.drop_length, hlen, List.drop_length, dq_self]
    simp -implicitDefEqProofs only [evs, Nat.reduceAdd, reduceIte, hlen]
  · intro i hi ih'
    have hlt : (i : Int) < ((ts.length : Nat) : Int) := by omega
    have hi2 : i < us.length := by omega
    have h5 := add_one hi hl
    have e1 := ih ts[i] (List.getElem_mem _) us[i] (List.getElem_mem _)
    rw [l32_0, drop_cons hi, drop_cons hi2, dq_cons]
    cases hp : dq ts[i] us[i] <;> rw [hp] at e1
    · simp -implicitDefEqProofs only [evs, Nat.reduceAdd, reduceIte, hlt, pIndexAddr_map hi, pIndexAddr_map hi2, pLoadN_tcells, e1, Bool.false_and]
    · simp -implicitDefEqProofs only [evs, Nat.reduceAdd, reduceIte, hlt, pIndexAddr_map hi, pIndexAddr_map hi2, pLoadN_tcells, e1, h5, ih', Bool.true_and]

theorem l2Same_eq : ∀ s : T, twf s → ∀ t : T, twf t → G 32 [tm s, tm t] = some (vb (dq s t), []) := by
  refine T.ind fun s ih hw t hw' => ?_
  obtain ⟨w1, w2, w3⟩ := (twf_eq s).1 hw
  have w3 := (twfL_iff _).1 w3
  obtain ⟨v1, v2, v3⟩ := (twf_eq t).1 hw'
  have v3 := (twfL_iff _).1 v3
  rw [g32, dq_T]
  by_cases hn : s.name = t.name
  · by_cases hlen : s.args.length = t.args.length
    · have key := l2Same_loop t.name t.name s.args t.args w2 hlen (fun a ha b hb => ih a ha (w3 a ha) b (v3 b hb)) 0 (Nat.zero_le _)
      simp only [Int.natCast_zero, List.drop_zero] at key
      simp -implicitDefEqProofs only [evs, Nat.reduceAdd, reduceIte, hn, hlen, key, Bool.true_and]
    · have hlen' : ¬ ((s.args.length : Nat) : Int) = ((t.args.length : Nat) : Int) := by omega
      simp -implicitDefEqProofs only [evs, Nat.reduceAdd, reduceIte, hn, hlen', dq_len hlen, Bool.and_false]
  · simp -implicitDefEqProofs only [evs, Nat.reduceAdd, reduceIte, hn, Bool.false_and]

/-! ### Roots, first differences -/
def rk (o : Ord') (t : T) : Int := fidxI 0 (fidx t.name o.syms)
def cmpI (a b : Int) : Int := if a < b then -1 else if b < a then 1 else 0
def rootC (o : Ord') (s t : T) : Int := if rk o s = rk o t then cmpI (s.args.length : Nat) (t.args.length : Nat) else cmpI (rk o s) (rk o t)

theorem root_eq (o : Ord') (s t : T) (ho : o.syms.length ≤ 9223372036854775807) : G 67 [od o, tm s, tm t] = some (vi (rootC o s t), []) := by
  have e1 := rank_eq o s.name ho
  have e2 := rank_eq o t.name ho
  rw [g67]
  by_cases h : rk o s = rk o t
  · have h' : fidxI 0 (fidx s.name o.syms) = fidxI 0 (fidx t.name o.syms) := h
    by_cases h1 : ((s.args.length : Nat) : Int) < ((t.args.length : Nat) : Int)
    · simp -implicitDefEqProofs only [evs, Nat.reduceAdd, reduceIte, e1, e2, h', rootC, rk, cmpI, h1]
    · by_cases h2 : ((t.args.length : Nat) : Int) < ((s.args.length : Nat) : Int)
      · simp -implicitDefEqProofs only [evs, Nat.reduceAdd, reduceIte, e1, e2, h', rootC, rk, cmpI, h1, h2]
      · simp -implicitDefEqProofs only [evs, Nat.reduceAdd, reduceIte, e1, e2, h', rootC, rk, cmpI, h1, h2]
  · have h' : ¬ fidxI 0 (fidx s.name o.syms) = fidxI 0 (fidx t.name o.syms) := h
    by_cases h1 : fidxI 0 (fidx s.name o.syms) < fidxI 0 (fidx t.name o.syms)
    · simp -implicitDefEqProofs only [evs, Nat.reduceAdd, reduceIte, e1, e2, h', rootC, rk, cmpI, h1]
    · by_cases h2 : fidxI 0 (fidx t.name o.syms) < fidxI 0 (fidx s.name o.syms)
      · simp -implicitDefEqProofs only [evs, Nat.reduceAdd, reduceIte, e1, e2, h', rootC, rk, cmpI, h1, h2]
      · simp -implicitDefEqProofs only [evs, Nat.reduceAdd, reduceIte, e1, e2, h', rootC, rk, cmpI, h1, h2]

theorem precedes_eq (o : Ord') (s t : T) (ho : o.syms.length ≤ 9223372036854775807) : G 59 [od o, tm s, tm t] = some (vb (decide (rootC o s t < 0)), []) := by
  have e1 := index_strs o.syms s.name ho
  have e2 := index_strs o.syms t.name ho
  rw [g59]
  by_cases h : rk o s = rk o t
  · have h' : fidxI 0 (fidx s.name o.syms) = fidxI 0 (fidx t.name o.syms) := h
    by_cases h1 : ((s.args.length : Nat) : Int) < ((t.args.length : Nat) : Int)
    · simp -implicitDefEqProofs only [evs, Nat.reduceAdd, reduceIte, e1, e2, h', rootC, rk, cmpI, h1]
    · by_cases h2 : ((t.args.length : Nat) : Int) < ((s.args.length : Nat) : Int)
      · simp -implicitDefEqProofs only [evs, Nat.reduceAdd, reduceIte, e1, e2, h', rootC, rk, cmpI, h1, h2]
        rfl
      · simp -implicitDefEqProofs only [evs, Nat.reduceAdd, reduceIte, e1, e2, h', rootC, rk, cmpI, h1, h2]
  · have h' : ¬ fidxI 0 (fidx s.name o.syms) = fidxI 0 (fidx t.name o.syms) := h
    by_cases h1 : fidxI 0 (fidx s.name o.syms) < fidxI 0 (fidx t.name o.syms)
    · simp -implicitDefEqProofs only [evs, Nat.reduceAdd, reduceIte, e1, e2, h', rootC, rk, cmpI, h1]
    · have h2 : fidxI 0 (fidx t.name o.syms) < fidxI 0 (fidx s.name o.syms) := by omega
      simp -implicitDefEqProofs only [evs, Nat.reduceAdd, reduceIte, e1, e2, h', rootC, rk, cmpI, h1, h2]
      rfl

noncomputable def fd : List T → List T → Option (T × T)
  | a :: l, b :: r => if dq a b = true then fd l r else some (a, b)
  | _, _ => none

theorem fd_mem : ∀ {l r : List T} {a b : T}, fd l r = some (a, b) → a ∈ l ∧ b ∈ r
  | [], _, _, _, h => by simp [fd] at h
  | _ :: _, [], _, _, h => by simp [fd] at h
  | x :: l, y :: r, a, b, h => by
    simp only [fd] at h
    split at h
    · have := fd_mem h
      exact ⟨by simp [this.1], by simp [this.2]⟩
    · cases h; exact ⟨by simp, by simp⟩

theorem first_eq (s t : T) (hw : twf s) (hw' : twf t) (hlen : s.args.length = t.args.length) :
    (fd s.args t.args = none ∧ G 68 [tm s, tm t] = some (vi (-1), [])) ∨ ∃ (k : Nat) (h1 : k < s.args.length) (h2 : k < t.args.length), fd s.args t.args = some (s.args[k], t.args[k]) ∧ G 68 [tm s, tm t] = some (vi k, []) := by
  obtain ⟨w1, w2, w3⟩ := (twf_eq s).1 hw
  have w3 := (twfL_iff _).1 w3
  obtain ⟨v1, v2, v3⟩ := (twf_eq t).1 hw'
  have v3 := (twfL_iff _).1 v3
  have key := upto (P := fun i => (fd (s.args.drop i) (t.args.drop i) = none ∧ L68_0 (vi i) (sv s.name) (tms s.args) (sv t.name) (tms t.args) = some (vi (-1), [])) ∨ ∃ (k : Nat) (h1 : k < s.args.length) (h2 : k < t.args.length), fd (s.args.drop i) (t.args.drop i) = some (s.args[k], t.args[k]) ∧ L68_0 (vi i) (sv s.name) (tms s.args) (sv t.name) (tms t.args) = some (vi k, [])) (n := s.args.length) ?_ ?_ 0 (Nat.zero_le _)
  · simp only [Int.natCast_zero, List.drop_zero] at key
    rw [g68]
    rcases key with ⟨h1, h2⟩ | ⟨k, h1, h2, h3, h4⟩
    · exact Or.inl ⟨h1, by simp -implicitDefEqProofs only [evs, Nat.reduceAdd, reduceIte, h2]⟩
    · exact Or.inr ⟨k, h1, h2, h3, by simp -implicitDefEqProofs only [evs, Nat.reduceAdd, reduceIte, h4]⟩
  · left
    rw [l68_0, List.drop_length]
    refine ⟨by simp [fd], ?_⟩
    simp -implicitDefEqProofs only [evs, Nat.reduceAdd, reduceIte]
  · intro i hi ih
    have hlt : (i : Int) < ((s.args.length : Nat) : Int) := by omega
    have hi2 : i < t.args.length := by omega
    have h5 := add_one hi w2
    have e1 := l2Same_eq s.args[i] (w3 _ (List.getElem_mem _)) t.args[i] (v3 _ (List.getElem_mem _))
    rw [l68_0, drop_cons hi, drop_cons hi2, fd]
    cases hp : dq s.args[i] t.args[i] <;> rw [hp] at e1
    · refine Or.inr ⟨i, hi, hi2, by simp, ?_⟩
      simp -implicitDefEqProofs only [evs, Nat.reduceAdd, reduceIte, hlt, pIndexAddr_map hi, pIndexAddr_map hi2, pLoadN_tcells, e1]
    · simp -implicitDefEqProofs only [evs, Nat.reduceAdd, reduceIte, hlt, pIndexAddr_map hi, pIndexAddr_map hi2, pLoadN_tcells, e1, h5]
      exact ih

def zT : A := .agg [sv [], .sl 2 []]
noncomputable def fdR (s t : T) : A := match fd s.args t.args with | some (a, b) => .tup [tm a, tm b, vb true] | none => .tup [zT, zT, vb false]

theorem firstDiffering_eq (s t : T) (hw : twf s) (hw' : twf t) (hn : s.name = t.name) (hlen : s.args.length = t.args.length) : G 60 [tm s, tm t] = some (fdR s t, []) := by
  obtain ⟨w1, w2, w3⟩ := (twf_eq s).1 hw
  have w3 := (twfL_iff _).1 w3
  obtain ⟨v1, v2, v3⟩ := (twf_eq t).1 hw'
  have v3 := (twfL_iff _).1 v3
  have key := upto (P := fun i => L60_0 (tms s.args) (vi (s.args.length : Nat)) (vi i) (sv t.name) (tms t.args) (sv []) (sv []) [] [] = some ((match fd (s.args.drop i) (t.args.drop i) with | some (a, b) => .tup [tm a, tm b, vb true] | none => .tup [zT, zT, vb false]), [])) (n := s.args.length) ?_ ?_ 0 (Nat.zero_le _)
  · simp only [Int.natCast_zero, List.drop_zero] at key
    rw [g60, fdR]
    simp only [hlen] at key
    simp -implicitDefEqProofs only [evs, Nat.reduceAdd, reduceIte, hn, hlen, key]
  · rw [l60_0, List.drop_length]
    simp -implicitDefEqProofs only [evs, Nat.reduceAdd, reduceIte, fd, zT]
  · intro i hi ih
    have hlt : (i : Int) < ((s.args.length : Nat) : Int) := by omega
    have hi2 : i < t.args.length := by omega
    have h5 := add_one hi w2
    have e1 := equalTerms_eq s.args[i] (w3 _ (List.getElem_mem _)) t.args[i] (v3 _ (List.getElem_mem _))
    rw [l60_0, drop_cons hi, drop_cons hi2, fd]
    cases hp : dq s.args[i] t.args[i] <;> rw [hp] at e1
    · simp -implicitDefEqProofs only [evs, Nat.reduceAdd, reduceIte, hlt, pIndexAddr_map hi, pIndexAddr_map hi2, pLoadN_tcells, e1]
    · simp -implicitDefEqProofs only [evs, Nat.reduceAdd, reduceIte, hlt, pIndexAddr_map hi, pIndexAddr_map hi2, pLoadN_tcells, e1, h5, ih]

theorem firstDiffering_no (s t : T) (h : ¬ (s.name = t.name ∧ s.args.length = t.args.length)) : G 60 [tm s, tm t] = some (.tup [zT, zT, vb false], []) := by
  rw [g60]
  by_cases hn : s.name = t.name
  · have hlen' : ¬ ((s.args.length : Nat) : Int) = ((t.args.length : Nat) : Int) := fun e => h ⟨hn, by omega⟩
    simp -implicitDefEqProofs only [evs, Nat.reduceAdd, reduceIte, hn, hlen', zT]
  · simp -implicitDefEqProofs only [evs, Nat.reduceAdd, reduceIte, hn, zT]

/-! ### The ordering, by fuel -/
noncomputable def lpoN (o : Ord') : Nat → T → T → Bool
  | 0, _, _ => false
  | n + 1, s, t => if varN s.name then false else if (s.args.any fun a => dq a t || lpoN o n a t) then true else if varN t.name then false
      else if (t.args.any fun b => !lpoN o n s b) then false else if 0 < rootC o s t then true else if rootC o s t < 0 then false
      else match fd s.args t.args with | some (a, b) => lpoN o n a b | none => false

theorem lpo_arg {s a t : T} {n : Nat} (ha : a ∈ s.args) (h : nodes s + nodes t ≤ n + 1) : nodes a + nodes t ≤ n := by
  have := nodesL_mem ha
  rw [nodes_eq s] at h
  omega
theorem lpo_arg' {s b t : T} {n : Nat} (hb : b ∈ t.args) (h : nodes s + nodes t ≤ n + 1) : nodes s + nodes b ≤ n := by
  have := nodesL_mem hb
  rw [nodes_eq t] at h
  omega

/-- Ranks of covered symbols tell them apart. -/
theorem rk_inj {o : Ord'} {s t : T} (h1 : o.syms.contains s.name = true) (h2 : o.syms.contains t.name = true) (h : rk o s = rk o t) : s.name = t.name := by
  obtain ⟨k, hk, _⟩ := cov_some h1
  obtain ⟨j, hj, _⟩ := cov_some h2
  have a1 := (fidx_lt hk).2
  have a2 := (fidx_lt hj).2
  simp only [rk, hk, hj, fidxI, Nat.zero_add] at h
  have : k = j := by omega
  subst this
  rw [a1] at a2
  exact Option.some.inj a2

theorem rootC_swap (o : Ord') (s t : T) : rootC o t s = - rootC o s t := by
  unfold rootC
  by_cases h : rk o s = rk o t
  · rw [if_pos h, if_pos h.symm]; unfold cmpI; split <;> split <;> (try split) <;> omega
  · rw [if_neg h, if_neg (Ne.symm h)]; unfold cmpI; split <;> split <;> (try split) <;> omega

theorem lpo_eq (o : Ord') (ho : o.syms.length ≤ 9223372036854775807) : ∀ (n : Nat) (s t : T), nodes s + nodes t ≤ n → twf s → twf t → okT s = true → okT t = true → covT o.syms s = true → covT o.syms t = true → G 27 [od o, tm s, tm t] = some (vb (lpoN o n s t), [])
  | 0, s, t, h, _, _, _, _, _, _ => by have := nodes_pos s; omega
  | n + 1, s, t, h, hw, hw', hk, hk', hc, hc' => by
    obtain ⟨w1, w2, w3⟩ := (twf_eq s).1 hw
    have w3 := (twfL_iff _).1 w3
    obtain ⟨v1, v2, v3⟩ := (twf_eq t).1 hw'
    have v3 := (twfL_iff _).1 v3
    have ks := okT_args hk
    have ks' := okT_args hk'
    have cs1 : ∀ a ∈ s.args, covT o.syms a = true := fun a ha => by rw [covT_eq, Bool.and_eq_true] at hc; exact covTL_mem hc.2 ha
    have cs2 : ∀ a ∈ t.args, covT o.syms a = true := fun a ha => by rw [covT_eq, Bool.and_eq_true] at hc'; exact covTL_mem hc'.2 ha
    have e1 := isVar_eq s hk
    have e2 := isVar_eq t hk'
    have er := precedes_eq o t s ho
    rw [rootC_swap] at er
    have ex1 := contains_terms (f := 57) (caps := [.elt [sv t.name, .sl 2 (t.args.map tcells)] 0, .elt (ocells o) 0]) rfl (fun a => dq a t || lpoN o n a t) s.args w2 (fun a ha => by
      have a1 := equalTerms_eq a (w3 a ha) t hw'
      have a2 := lpo_eq o ho n a t (lpo_arg ha h) (w3 a ha) hw' (ks a ha) hk' (cs1 a ha) hc'
      rw [g57]
      cases hd : dq a t <;> rw [hd] at a1
      · simp -implicitDefEqProofs only [evs, Nat.reduceAdd, reduceIte, pLoadN_2, pLoadN_3, a1, a2, Bool.false_or]
      · simp -implicitDefEqProofs only [evs, Nat.reduceAdd, reduceIte, pLoadN_2, pLoadN_3, a1, Bool.true_or])
    have ex2 := contains_terms (f := 58) (caps := [.elt (ocells o) 0, .elt [sv s.name, .sl 2 (s.args.map tcells)] 0]) rfl (fun b => !lpoN o n s b) t.args v2 (fun b hb => by
      have a2 := lpo_eq o ho n s b (lpo_arg' hb h) hw (v3 b hb) hk (ks' b hb) hc (cs2 b hb)
      rw [g58]
      simp -implicitDefEqProofs only [evs, Nat.reduceAdd, reduceIte, pLoadN_2, pLoadN_3, a2])
    rw [g27, lpoN]
    cases hv : varN s.name <;> rw [hv] at e1
    rotate_left
    · simp -implicitDefEqProofs only [evs, Nat.reduceAdd, reduceIte, e1]
    cases h1 : (s.args.any fun a => dq a t || lpoN o n a t) <;> rw [h1] at ex1
    rotate_left
    · simp -implicitDefEqProofs only [evs, Nat.reduceAdd, reduceIte, e1, ex1]
    cases hv' : varN t.name <;> rw [hv'] at e2
    rotate_left
    · simp -implicitDefEqProofs only [evs, Nat.reduceAdd, reduceIte, e1, ex1, e2]
    cases h2 : (t.args.any fun b => !lpoN o n s b) <;> rw [h2] at ex2
    rotate_left
    · simp -implicitDefEqProofs only [evs, Nat.reduceAdd, reduceIte, e1, ex1, e2, ex2]
    by_cases hg : 0 < rootC o s t
    · have hg' : -rootC o s t < 0 := by omega
      simp -implicitDefEqProofs only [evs, Nat.reduceAdd, reduceIte, e1, ex1, e2, ex2, er, hg, hg']
    · have hg' : ¬ -rootC o s t < 0 := by omega
      by_cases hl : rootC o s t < 0
      · have hno : ¬ (s.name = t.name ∧ s.args.length = t.args.length) := by
          rintro ⟨q1, q2⟩
          have : rk o s = rk o t := by unfold rk; rw [q1]
          unfold rootC cmpI at hl
          rw [if_pos this, q2] at hl
          simp at hl
        have e3 := firstDiffering_no s t hno
        simp -implicitDefEqProofs only [evs, Nat.reduceAdd, reduceIte, e1, ex1, e2, ex2, er, hg, hg', hl, e3, zT]
      · have hcn : o.syms.contains s.name = true := by rw [covT_eq, hv, Bool.false_or, Bool.and_eq_true] at hc; exact hc.1
        have hcn' : o.syms.contains t.name = true := by rw [covT_eq, hv', Bool.false_or, Bool.and_eq_true] at hc'; exact hc'.1
        have hrk : rk o s = rk o t := by
          unfold rootC cmpI at hg hl
          by_cases h : rk o s = rk o t
          · exact h
          · rw [if_neg h] at hg hl; split at hl <;> (try split at hg) <;> omega
        have hlen : s.args.length = t.args.length := by
          unfold rootC cmpI at hg hl
          rw [if_pos hrk] at hg hl; split at hl <;> (try split at hg) <;> omega
        have e3 := firstDiffering_eq s t hw hw' (rk_inj hcn hcn' hrk) hlen
        cases hf : fd s.args t.args with
        | none =>
          have : fdR s t = .tup [zT, zT, vb false] := by unfold fdR; rw [hf]
          rw [this] at e3
          simp -implicitDefEqProofs only [evs, Nat.reduceAdd, reduceIte, e1, ex1, e2, ex2, er, hg, hg', hl, e3, zT]
        | some p =>
          obtain ⟨a, b⟩ := p
          have : fdR s t = .tup [tm a, tm b, vb true] := by unfold fdR; rw [hf]
          rw [this] at e3
          obtain ⟨ma, mb⟩ := fd_mem hf
          have e4 := lpo_eq o ho n a b (by have a1 := lpo_arg ma h; have a2 := nodesL_mem mb; rw [nodes_eq t] at a1; omega) (w3 a ma) (v3 b mb) (ks a ma) (ks' b mb) (cs1 a ma) (cs2 b mb)
          simp -implicitDefEqProofs only [evs, Nat.reduceAdd, reduceIte, e1, ex1, e2, ex2, er, hg, hg', hl, e3, e4]
end Go.Proofs.YtbikhinddomhpaaGreat
