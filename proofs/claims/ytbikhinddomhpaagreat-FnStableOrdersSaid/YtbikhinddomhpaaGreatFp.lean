/- BOTH ORDERINGS: the law FnOrderings. -/
import Derived.Test.YtbikhinddomhpaaGreatDs
import Derived.Test.YtbikhinddomhpaaGreatOm
import Derived.Test.YtbikhinddomhpaaGreatQa
namespace Go.Proofs.YtbikhinddomhpaaGreat
open Go Go.RowKit Go.Proofs.YtbikhinddomhpaaGreat.Abs

set_option linter.unusedSimpArgs false
set_option linter.unusedVariables false
set_option maxHeartbeats 1000000

theorem twf_le : ∀ t : T, tsz t ≤ 1048576 → twf t := by
  refine T.ind fun t ih h => ?_
  have h' := h
  rw [tsz_eq] at h'
  exact (twf_eq t).2 ⟨by omega, by omega, (twfL_iff _).2 fun u hu => ih u hu (arg_tsz hu h)⟩
theorem pF1 {n : Nat} (h : n ≤ 4194304) : pFit n 1 = true := by
  unfold pFit
  exact decide_eq_true ⟨by omega, by omega⟩
theorem drawKB_eq {code : List Int} (hb : By code) : ∃ o s t, owf o ∧ tsz s ≤ 1000 ∧ tsz t ≤ 1000 ∧ G 5 [bts code] = some (.tup [od o, tm s, tm t], []) := by
  obtain ⟨a1, s1, o, q1, q2, q3, e1⟩ := ordering_eq hb 0 0 (by decide) (by decide)
  obtain ⟨a2, s2, t, u, r1, r2, r3, r4, e2⟩ := pair_eq hb a1 s1 (by omega) (by omega)
  refine ⟨o, t, u, q3, r3, r4, ?_⟩
  rw [g5]
  simp -implicitDefEqProofs only [evs, Nat.reduceAdd, reduceIte, e1, e2, List.getElem?_cons_zero, List.getElem?_cons_succ, hR_4]
theorem conv_small : ∀ n : Fin 10, pConv .u8 (vi ((n.val : Nat) : Int)) = some (vy ((n.val : Nat) : Int)) := fun n => by
  match n with
  | 0 => rfl
  | 1 => rfl
  | 2 => rfl
  | 3 => rfl
  | 4 => rfl
  | 5 => rfl
  | 6 => rfl
  | 7 => rfl
  | 8 => rfl
  | 9 => rfl
theorem cut_by {code : List Int} (hb : By code) (m : Nat) (hm : m ≤ 9) (hl : m ≤ code.length) (h : 0 < m ∨ code.length ≤ 9) : By (code.drop m ++ [(m : Int)]) := by
  refine ⟨fun n hn => ?_, ?_⟩
  · rcases List.mem_append.1 hn with h | h
    · exact hb.1 n (List.mem_of_mem_drop h)
    · rw [List.mem_singleton.1 h]; omega
  · have := hb.2
    rw [List.length_append, List.length_drop, List.length_singleton]
    omega
theorem cut_eq {code : List Int} (hb : By code) : ∃ c, By c ∧ G 7 [bts code, vi 9] = some (bts c, []) := by
  have key : ∀ m : Nat, m ≤ 9 → m ≤ code.length → pSlice 1 (bts code) (some (vi (m : Nat))) none = some (bts (code.drop m)) ∧ pConv .u8 (vi ((m : Nat) : Int)) = some (vy (m : Nat)) ∧ pFit (code.drop m).length 1 = true ∧ pFit ((code.drop m).length + 1) 1 = true ∧ rApp ((code.drop m).map cy) [[vy (m : Nat)]] = (code.drop m ++ [(m : Int)]).map cy := by
    intro m hm hl
    have := hb.2
    refine ⟨by rw [pSlice_drop (by simp; omega), ← List.map_drop], conv_small ⟨m, by omega⟩, pF1 (by rw [List.length_drop]; omega), pF1 (by rw [List.length_drop]; omega), ?_⟩
    rw [List.map_append]
    rfl
  have oy : ∀ n : Int, okA (vy n) = true := fun _ => rfl
  rw [g7]
  by_cases h : code.length < 9
  · obtain ⟨k1, k2, k3, k4, k5⟩ := key code.length (by omega) (Nat.le_refl _)
    have h' : ((code.length : Nat) : Int) < 9 := by omega
    refine ⟨code.drop code.length ++ [(code.length : Int)], cut_by hb _ (by omega) (Nat.le_refl _) (Or.inr (by omega)), ?_⟩
    simp -implicitDefEqProofs only [evs, Nat.reduceAdd, reduceIte, h', k1, k2, k3, k4, k5, oy]
  · obtain ⟨k1, k2, k3, k4, k5⟩ := key 9 (by omega) (by omega)
    have h' : ¬ ((code.length : Nat) : Int) < 9 := by omega
    have k1 : pSlice 1 (bts code) (some (vi 9)) none = some (bts (code.drop 9)) := k1
    have k2 : pConv .u8 (vi 9) = some (vy 9) := k2
    have k5 : rApp ((code.drop 9).map cy) [[vy 9]] = (code.drop 9 ++ [9]).map cy := k5
    refine ⟨code.drop 9 ++ [9], cut_by hb 9 (by omega) (by omega) (Or.inl (by omega)), ?_⟩
    simp -implicitDefEqProofs only [evs, Nat.reduceAdd, reduceIte, h', k1, k2, k3, k4, k5, oy]
/-- The verdict that both orderings give, and their codes. -/
noncomputable def vv (o : Ord') (s t : T) : Bool := validO o && (good o s && good o t)
noncomputable def kc (o : Ord') (s t : T) : Int := if vv o s t then cmpKBO o s t else 0
noncomputable def lc (o : Ord') (s t : T) : Int := if vv o s t then cmpLPO o s t else 0
theorem kbo_tup (o : Ord') (s t : T) : compareKBO o s t = .tup [vi (kc o s t), vb (vv o s t)] := by
  unfold compareKBO kc vv
  split <;> rename_i h
  · rw [h]
  · simp only [Bool.not_eq_true] at h; rw [h]
theorem lpo_tup (o : Ord') (s t : T) : compareLPO o s t = .tup [vi (lc o s t), vb (vv o s t)] := by
  unfold compareLPO lc vv
  split <;> rename_i h
  · rw [h]
  · simp only [Bool.not_eq_true] at h; rw [h]
theorem vv_comm (o : Ord') (s t : T) : vv o t s = vv o s t := by unfold vv; rw [Bool.and_comm (good o t)]
theorem vv_spec {o : Ord'} {s t : T} (h : vv o s t = true) : validO o = true ∧ good o s = true ∧ good o t = true := by simpa [vv, Bool.and_eq_true] using h
theorem kc_back (o : Ord') (s t : T) : kc o t s = rbI (kc o s t) := by
  unfold kc
  rw [vv_comm]
  cases h : vv o s t
  · rfl
  · obtain ⟨_, g1, g2⟩ := vv_spec h
    exact kbo_back (good_spec g1).1 (good_spec g2).1
theorem lc_back (o : Ord') (s t : T) : lc o t s = rbI (lc o s t) := by
  unfold lc
  rw [vv_comm]
  cases h : vv o s t
  · rfl
  · exact lpo_back o s t
theorem kc_trans {o : Ord'} {s t u : T} (h1 : vv o s t = true) (h2 : vv o t u = true) (h3 : vv o s u = true) : ¬ kc o s t = 2 ∨ (kc o s t = 2 ∧ ¬ kc o t u = 2) ∨ (kc o s t = 2 ∧ kc o t u = 2 ∧ kc o s u = 2) := by
  by_cases a : kc o s t = 2
  · by_cases b : kc o t u = 2
    · refine Or.inr (Or.inr ⟨a, b, ?_⟩)
      unfold kc at a b ⊢
      rw [h1] at a
      rw [h2] at b
      rw [h3]
      exact (kbo_two o s u).2 (Kp_trans (good_spec (vv_spec h1).2.1).1 (good_spec (vv_spec h1).2.2).1 (good_spec (vv_spec h2).2.2).1 ((kbo_two o s t).1 a) ((kbo_two o t u).1 b))
    · exact Or.inr (Or.inl ⟨a, b⟩)
  · exact Or.inl a
theorem lc_trans {o : Ord'} {s t u : T} (h1 : vv o s t = true) (h2 : vv o t u = true) (h3 : vv o s u = true) : ¬ lc o s t = 2 ∨ (lc o s t = 2 ∧ ¬ lc o t u = 2) ∨ (lc o s t = 2 ∧ lc o t u = 2 ∧ lc o s u = 2) := by
  by_cases a : lc o s t = 2
  · by_cases b : lc o t u = 2
    · refine Or.inr (Or.inr ⟨a, b, ?_⟩)
      unfold lc at a b ⊢
      rw [h1] at a
      rw [h2] at b
      rw [h3]
      exact (lpo_two o s u).2 (Lp_trans ((lpo_two o s t).1 a) ((lpo_two o t u).1 b))
    · exact Or.inr (Or.inl ⟨a, b⟩)
  · exact Or.inl a
theorem dep_mem : ∀ {ts : List T} {t : T}, t ∈ ts → dep t ≤ depL ts
  | u :: us, t, h => by
    simp only [depL]
    rcases List.mem_cons.1 h with rfl | h
    · omega
    · have := dep_mem h; omega
theorem okTL_mem : ∀ {ts : List T} {t : T}, okTL ts = true → t ∈ ts → okT t = true
  | u :: us, t, h, ht => by
    simp only [okTL, Bool.and_eq_true] at h
    rcases List.mem_cons.1 ht with rfl | ht
    · exact h.1
    · exact okTL_mem h.2 ht
theorem ok_arg {s a : T} (h : okT s = true) (ha : a ∈ s.args) : varN s.name = false ∧ okT a = true := by
  obtain ⟨n, us⟩ := s
  have h : (if varN n then us.isEmpty else symN n && (decide (us.length ≤ 4) && okTL us)) = true := h
  have ha : a ∈ us := ha
  show varN n = false ∧ _
  cases hv : varN n
  · rw [hv] at h
    simp only [Bool.false_eq_true, if_false, Bool.and_eq_true] at h
    exact ⟨rfl, okTL_mem h.2.2 ha⟩
  · rw [hv, if_pos rfl] at h
    cases us with
    | nil => cases ha
    | cons u us => cases h
theorem good_arg {o : Ord'} {s a : T} (h : good o s = true) (ha : a ∈ s.args) : good o a = true := by
  have h' := h
  simp only [good, validT, smallT, Bool.and_eq_true, decide_eq_true_eq] at h' ⊢
  obtain ⟨⟨⟨h1, h2⟩, h3⟩, h4⟩ := h'
  have n1 := arg_nodes ha
  have n2 := dep_mem ha
  rw [dep_eq] at h2
  exact ⟨⟨⟨by omega, by omega⟩, (ok_arg h3 ha).2⟩, covT_args h4 a ha⟩
theorem vv_arg {o : Ord'} {s a : T} (hv : validO o = true) (h : good o s = true) (ha : a ∈ s.args) : vv o s a = true ∧ kc o s a = 2 ∧ lc o s a = 2 := by
  have hvv : vv o s a = true := by unfold vv; rw [hv, h, good_arg h ha]; rfl
  refine ⟨hvv, ?_, ?_⟩
  · unfold kc; rw [hvv]; exact (kbo_two o s a).2 (Kp_arg hv (good_spec h).2.1 ha)
  · unfold lc; rw [hvv]; exact (lpo_two o s a).2 (Lp_arg (ok_arg (good_spec h).1 ha).1 ha)

section
variable {o : Ord'} (ho : owf o)
include ho
theorem iK (s t : T) (hs : tsz s ≤ 1000) (ht : tsz t ≤ 1000) : G 9 [od o, tm s, tm t] = some (.tup [vi (kc o s t), vb (vv o s t)], []) := by
  rw [impl_compareKBO o s t ho (twf_le s (by omega)) (by omega) (twf_le t (by omega)) (by omega), kbo_tup]
theorem sK (s t : T) (hs : tsz s ≤ 1000) (ht : tsz t ≤ 1000) : G 11 [od o, tm s, tm t] = some (.tup [vi (kc o s t), vb (vv o s t)], []) := by
  rw [spec_compareKBO o s t ho (twf_le s (by omega)) (by omega) (twf_le t (by omega)) (by omega), kbo_tup]
theorem iL (s t : T) (hs : tsz s ≤ 1000) (ht : tsz t ≤ 1000) : G 10 [od o, tm s, tm t] = some (.tup [vi (lc o s t), vb (vv o s t)], []) := by
  rw [impl_compareLPO o s t ho (twf_le s (by omega)) (by omega) (twf_le t (by omega)) (by omega), lpo_tup]
end

end Go.Proofs.YtbikhinddomhpaaGreat
