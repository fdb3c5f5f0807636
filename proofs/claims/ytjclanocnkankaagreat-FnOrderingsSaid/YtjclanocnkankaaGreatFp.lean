/- BOTH ORDERINGS: the law FnOrderings. -/
import Derived.Test.YtjclanocnkankaaGreatDs
import Derived.Test.YtjclanocnkankaaGreatOm
import Derived.Test.YtjclanocnkankaaGreatQe
namespace Go.Proofs.YtjclanocnkankaaGreat
open Go Go.RowKit Go.Proofs.YtjclanocnkankaaGreat.Abs

set_option linter.unusedSimpArgs false
set_option linter.unusedVariables false
set_option maxHeartbeats 1000000

theorem twf_le : ∀ t : T, tsz t ≤ 1048576 → twf t := by
  refine T.ind fun t ih h => ?_
  have h' := h
  rw [tsz_eq] at h'
  exact (twf_eq t).2 ⟨by omega, by omega, (twfL_iff _).2 fun u hu => ih u hu (arg_tsz hu h)⟩
theorem pF1 {n : Nat} (h : n ≤ 4194304) : pFit n 1 = true := by
  unfold pFit
  exact decide_eq_true ⟨by omega, by omega⟩
theorem drawKB_eq {code : List Int} (hb : By code) : ∃ o s t, owf o ∧ tsz s ≤ 1000 ∧ tsz t ≤ 1000 ∧ G 38 [bts code] = some (.tup [od o, tm s, tm t], []) := by
  obtain ⟨a1, s1, o, q1, q2, q3, e1⟩ := ordering_eq hb 0 0 (by decide) (by decide)
  obtain ⟨a2, s2, t, u, r1, r2, r3, r4, e2⟩ := pair_eq hb a1 s1 (by omega) (by omega)
  refine ⟨o, t, u, q3, r3, r4, ?_⟩
  rw [g38]
  simp -implicitDefEqProofs only [evs, Nat.reduceAdd, reduceIte, e1, e2, List.getElem?_cons_zero, List.getElem?_cons_succ, hR_4]
theorem conv_small : ∀ n : Fin 10, pConv .u8 (vi ((n.val : Nat) : Int)) = some (vy ((n.val : Nat) : Int)) := fun n => by
  match n with
  | 0 => rfl
  | 1 => rfl
  | 2 => rfl
  | 3 => rfl
  | 4 => rfl
  | 5 => rfl
  | 6 => rfl
  | 7 => rfl
  | 8 => rfl
  | 9 => rfl
theorem cut_by {code : List Int} (hb : By code) (m : Nat) (hm : m ≤ 9) (hl : m ≤ code.length) (h : 0 < m ∨ code.length ≤ 9) : By (code.drop m ++ [(m : Int)]) := by
  refine ⟨fun n hn => ?_, ?_⟩
  · rcases List.mem_append.1 hn with h | h
    · exact hb.1 n (List.mem_of_mem_drop h)
    · rw [List.mem_singleton.1 h]; omega
  · have := hb.2
    rw [List.length_append, List.length_drop, List.length_singleton]
    omega
theorem cut_eq {code : List Int} (hb : By code) : ∃ c, By c ∧ G 39 [bts code, vi 9] = some (bts c, []) := by
  have key : ∀ m : Nat, m ≤ 9 → m ≤ code.length → pSlice 1 (bts code) (some (vi (m : Nat))) none = some (bts (code.drop m)) ∧ pConv .u8 (vi ((m : Nat) : Int)) = some (vy (m : Nat)) ∧ pFit (code.drop m).length 1 = true ∧ pFit ((code.drop m).length + 1) 1 = true ∧ rApp ((code.drop m).map cy) [[vy (m : Nat)]] = (code.drop m ++ [(m : Int)]).map cy := by
    intro m hm hl
    have := hb.2
    refine ⟨by rw [pSlice_drop (by simp; omega), ← List.map_drop], conv_small ⟨m, by omega⟩, pF1 (by rw [List.length_drop]; omega), pF1 (by rw [List.length_drop]; omega), ?_⟩
    rw [List.map_append]
    rfl
  have oy : ∀ n : Int, okA (vy n) = true := fun _ => rfl
  rw [g39]
  by_cases h : code.length < 9
  · obtain ⟨k1, k2, k3, k4, k5⟩ := key code.length (by omega) (Nat.le_refl _)
    have h' : ((code.length : Nat) : Int) < 9 := by omega
    refine ⟨code.drop code.length ++ [(code.length : Int)], cut_by hb _ (by omega) (Nat.le_refl _) (Or.inr (by omega)), ?_⟩
    simp -implicitDefEqProofs only [evs, Nat.reduceAdd, reduceIte, h', k1, k2, k3, k4, k5, oy]
  · obtain ⟨k1, k2, k3, k4, k5⟩ := key 9 (by omega) (by omega)
    have h' : ¬ ((code.length : Nat) : Int) < 9 := by omega
    have k1 : pSlice 1 (bts code) (some (vi 9)) none = some (bts (code.drop 9)) := k1
    have k2 : pConv .u8 (vi 9) = some (vy 9) := k2
    have k5 : rApp ((code.drop 9).map cy) [[vy 9]] = (code.drop 9 ++ [9]).map cy := k5
    refine ⟨code.drop 9 ++ [9], cut_by hb 9 (by omega) (by omega) (Or.inl (by omega)), ?_⟩
    simp -implicitDefEqProofs only [evs, Nat.reduceAdd, reduceIte, h', k1, k2, k3, k4, k5, oy]
theorem rBack_eq (c : Int) : G 42 [vi c] = some (vi (rbI c), []) := by
  rw [g42, rbI]
  by_cases h2 : c = 2
  · subst h2
    simp -implicitDefEqProofs only [evs, Nat.reduceAdd, reduceIte, ]
  by_cases h3 : c = 3
  · subst h3
    simp -implicitDefEqProofs only [evs, Nat.reduceAdd, reduceIte, h2]
  · simp -implicitDefEqProofs only [evs, Nat.reduceAdd, reduceIte, h2, h3]

/-- The verdict that both orderings give, and their codes. -/
noncomputable def vv (o : Ord') (s t : T) : Bool := validO o && (good o s && good o t)
noncomputable def kc (o : Ord') (s t : T) : Int := if vv o s t then cmpKBO o s t else 0
noncomputable def lc (o : Ord') (s t : T) : Int := if vv o s t then cmpLPO o s t else 0
theorem kbo_tup (o : Ord') (s t : T) : compareKBO o s t = .tup [vi (kc o s t), vb (vv o s t)] := by
  unfold compareKBO kc vv
  split <;> rename_i h
  · rw [h]
  · simp only [Bool.not_eq_true] at h; rw [h]
theorem lpo_tup (o : Ord') (s t : T) : compareLPO o s t = .tup [vi (lc o s t), vb (vv o s t)] := by
  unfold compareLPO lc vv
  split <;> rename_i h
  · rw [h]
  · simp only [Bool.not_eq_true] at h; rw [h]
theorem vv_comm (o : Ord') (s t : T) : vv o t s = vv o s t := by unfold vv; rw [Bool.and_comm (good o t)]
theorem vv_spec {o : Ord'} {s t : T} (h : vv o s t = true) : validO o = true ∧ good o s = true ∧ good o t = true := by simpa [vv, Bool.and_eq_true] using h
theorem kc_back (o : Ord') (s t : T) : kc o t s = rbI (kc o s t) := by
  unfold kc
  rw [vv_comm]
  cases h : vv o s t
  · rfl
  · obtain ⟨_, g1, g2⟩ := vv_spec h
    exact kbo_back (good_spec g1).1 (good_spec g2).1
theorem lc_back (o : Ord') (s t : T) : lc o t s = rbI (lc o s t) := by
  unfold lc
  rw [vv_comm]
  cases h : vv o s t
  · rfl
  · exact lpo_back o s t
theorem kc_trans {o : Ord'} {s t u : T} (h1 : vv o s t = true) (h2 : vv o t u = true) (h3 : vv o s u = true) : ¬ kc o s t = 2 ∨ (kc o s t = 2 ∧ ¬ kc o t u = 2) ∨ (kc o s t = 2 ∧ kc o t u = 2 ∧ kc o s u = 2) := by
  by_cases a : kc o s t = 2
  · by_cases b : kc o t u = 2
    · refine Or.inr (Or.inr ⟨a, b, ?_⟩)
      unfold kc at a b ⊢
      rw [h1] at a
      rw [h2] at b
      rw [h3]
      exact (kbo_two o s u).2 (Kp_trans (good_spec (vv_spec h1).2.1).1 (good_spec (vv_spec h1).2.2).1 (good_spec (vv_spec h2).2.2).1 ((kbo_two o s t).1 a) ((kbo_two o t u).1 b))
    · exact Or.inr (Or.inl ⟨a, b⟩)
  · exact Or.inl a
theorem lc_trans {o : Ord'} {s t u : T} (h1 : vv o s t = true) (h2 : vv o t u = true) (h3 : vv o s u = true) : ¬ lc o s t = 2 ∨ (lc o s t = 2 ∧ ¬ lc o t u = 2) ∨ (lc o s t = 2 ∧ lc o t u = 2 ∧ lc o s u = 2) := by
  by_cases a : lc o s t = 2
  · by_cases b : lc o t u = 2
    · refine Or.inr (Or.inr ⟨a, b, ?_⟩)
      unfold lc at a b ⊢
      rw [h1] at a
      rw [h2] at b
      rw [h3]
      exact (lpo_two o s u).2 (Lp_trans ((lpo_two o s t).1 a) ((lpo_two o t u).1 b))
    · exact Or.inr (Or.inl ⟨a, b⟩)
  · exact Or.inl a
theorem dep_mem : ∀ {ts : List T} {t : T}, t ∈ ts → dep t ≤ depL ts
  | u :: us, t, h => by
    simp only [depL]
    rcases List.mem_cons.1 h with rfl | h
    · omega
    · have := dep_mem h; omega
theorem okTL_mem : ∀ {ts : List T} {t : T}, okTL ts = true → t ∈ ts → okT t = true
  | u :: us, t, h, ht => by
    simp only [okTL, Bool.and_eq_true] at h
    rcases List.mem_cons.1 ht with rfl | ht
    · exact h.1
    · exact okTL_mem h.2 ht
theorem ok_arg {s a : T} (h : okT s = true) (ha : a ∈ s.args) : varN s.name = false ∧ okT a = true := by
  obtain ⟨n, us⟩ := s
  have h : (if varN n then us.isEmpty else symN n && (decide (us.length ≤ 4) && okTL us)) = true := h
  have ha : a ∈ us := ha
  show varN n = false ∧ _
  cases hv : varN n
  · rw [hv] at h
    simp only [Bool.false_eq_true, if_false, Bool.and_eq_true] at h
    exact ⟨rfl, okTL_mem h.2.2 ha⟩
  · rw [hv, if_pos rfl] at h
    cases us with
    | nil => cases ha
    | cons u us => cases h
theorem good_arg {o : Ord'} {s a : T} (h : good o s = true) (ha : a ∈ s.args) : good o a = true := by
  have h' := h
  simp only [good, validT, smallT, Bool.and_eq_true, decide_eq_true_eq] at h' ⊢
  obtain ⟨⟨⟨h1, h2⟩, h3⟩, h4⟩ := h'
  have n1 := arg_nodes ha
  have n2 := dep_mem ha
  rw [dep_eq] at h2
  exact ⟨⟨⟨by omega, by omega⟩, (ok_arg h3 ha).2⟩, covT_args h4 a ha⟩
theorem vv_arg {o : Ord'} {s a : T} (hv : validO o = true) (h : good o s = true) (ha : a ∈ s.args) : vv o s a = true ∧ kc o s a = 2 ∧ lc o s a = 2 := by
  have hvv : vv o s a = true := by unfold vv; rw [hv, h, good_arg h ha]; rfl
  refine ⟨hvv, ?_, ?_⟩
  · unfold kc; rw [hvv]; exact (kbo_two o s a).2 (Kp_arg hv (good_spec h).2.1 ha)
  · unfold lc; rw [hvv]; exact (lpo_two o s a).2 (Lp_arg (ok_arg (good_spec h).1 ha).1 ha)

section
variable {o : Ord'} (ho : owf o)
include ho
theorem iK (s t : T) (hs : tsz s ≤ 1000) (ht : tsz t ≤ 1000) : G 40 [od o, tm s, tm t] = some (.tup [vi (kc o s t), vb (vv o s t)], []) := by
  rw [impl_compareKBO o s t ho (twf_le s (by omega)) (by omega) (twf_le t (by omega)) (by omega), kbo_tup]
theorem sK (s t : T) (hs : tsz s ≤ 1000) (ht : tsz t ≤ 1000) : G 41 [od o, tm s, tm t] = some (.tup [vi (kc o s t), vb (vv o s t)], []) := by
  rw [spec_compareKBO o s t ho (twf_le s (by omega)) (by omega) (twf_le t (by omega)) (by omega), kbo_tup]
theorem iL (s t : T) (hs : tsz s ≤ 1000) (ht : tsz t ≤ 1000) : G 43 [od o, tm s, tm t] = some (.tup [vi (lc o s t), vb (vv o s t)], []) := by
  rw [impl_compareLPO o s t ho (twf_le s (by omega)) (by omega) (twf_le t (by omega)) (by omega), lpo_tup]
theorem sL (s t : T) (hs : tsz s ≤ 1000) (ht : tsz t ≤ 1000) : G 44 [od o, tm s, tm t] = some (.tup [vi (lc o s t), vb (vv o s t)], []) := by
  rw [spec_compareLPO o s t ho (twf_le s (by omega)) (by omega) (twf_le t (by omega)) (by omega), lpo_tup]
theorem sub_loop (s : T) (hs : tsz s ≤ 1000) (hv : validO o = true) (hg : good o s = true) : L7_0 (vb true) (vi 0) (strs o.syms) (ints o.ws) (vi o.var) (sv s.name) (tms s.args) = some (vb true, []) := by
  have key := upto (P := fun i => L7_0 (vb true) (vi i) (strs o.syms) (ints o.ws) (vi o.var) (sv s.name) (tms s.args) = some (vb true, [])) (n := s.args.length) ?_ ?_ 0 (Nat.zero_le _)
  · exact key
  · rw [l7_0]
    simp -implicitDefEqProofs only [evs, Nat.reduceAdd, reduceIte, ]
  · intro i hi ih
    have hz := tsz_eq s
    have hlt : (i : Int) < ((s.args.length : Nat) : Int) := by omega
    have h5 := add_one hi (by show s.args.length ≤ 9223372036854775807; omega)
    have hm : s.args[i] ∈ s.args := List.getElem_mem _
    have ha : tsz s.args[i] ≤ 1000 := by have := tsz_mem hm; omega
    have e1 := iK ho s s.args[i] hs ha
    have e2 := iL ho s s.args[i] hs ha
    obtain ⟨v1, v2, v3⟩ := vv_arg hv hg hm
    rw [v1, v2] at e1
    rw [v1, v3] at e2
    rw [l7_0]
    simp -implicitDefEqProofs only [evs, Nat.reduceAdd, reduceIte, hlt, pIndexAddr_map hi, pLoadN_tcells, e1, e2, h5, ih]
end

theorem orderings_law (code : List Int) (hb : (∀ n ∈ code, 0 ≤ n ∧ n ≤ 255) ∧ code.length ≤ 9223372036854775807) : G 7 [bts code] = some (vb true, []) := by
  by_cases hbig : code.length ≤ 65536
  rotate_left
  · have h : (65536 : Int) < ((code.length : Nat) : Int) := by omega
    have e0 : G 37 [bts code] = some (vb true, []) := by rw [g37]; simp -implicitDefEqProofs only [evs, Nat.reduceAdd, reduceIte, h]
    rw [g7]
    simp -implicitDefEqProofs only [evs, Nat.reduceAdd, reduceIte, e0]
  have h : ¬ (65536 : Int) < ((code.length : Nat) : Int) := by omega
  have e0 : G 37 [bts code] = some (vb false, []) := by rw [g37]; simp -implicitDefEqProofs only [evs, Nat.reduceAdd, reduceIte, h]
  have hb : By code := ⟨hb.1, hbig⟩
  obtain ⟨o, s, t, ho, hs, ht, e1⟩ := drawKB_eq hb
  obtain ⟨c, hc, e2⟩ := cut_eq hb
  obtain ⟨o', u, w, ho', hu, hw, e3⟩ := drawKB_eq hc
  have k1 := iK ho s t hs ht
  have k2 := iK ho t s ht hs
  have k3 := sK ho s t hs ht
  have k4 := iK ho t u ht hu
  have k5 := iK ho s u hs hu
  have l1 := iL ho s t hs ht
  have l2 := iL ho t s ht hs
  have l3 := sL ho s t hs ht
  have l4 := iL ho t u ht hu
  have l5 := iL ho s u hs hu
  rw [vv_comm, kc_back] at k2
  rw [vv_comm, lc_back] at l2
  have rk := rBack_eq (kc o s t)
  have rl := rBack_eq (lc o s t)
  rw [g7]
  cases hv1 : vv o s t <;> rw [hv1] at k1 k2 k3 l1 l2 l3
  · have loop : L7_0 (vb false) (vi 0) (strs o.syms) (ints o.ws) (vi o.var) (sv s.name) (tms s.args) = some (vb true, []) := by
      rw [l7_0]
      by_cases hz : (0 : Int) < ((s.args.length : Nat) : Int)
      · simp -implicitDefEqProofs only [evs, Nat.reduceAdd, reduceIte, hz]
      · simp -implicitDefEqProofs only [evs, Nat.reduceAdd, reduceIte, hz]
    simp -implicitDefEqProofs only [evs, Nat.reduceAdd, reduceIte, e0, e1, e2, e3, k1, k2, k3, l1, l2, l3, rk, rl, k4, k5, l4, l5, loop]
  have loop := sub_loop ho s hs (vv_spec hv1).1 (vv_spec hv1).2.1
  cases hv2 : vv o t u <;> rw [hv2] at k4 l4
  · simp -implicitDefEqProofs only [evs, Nat.reduceAdd, reduceIte, e0, e1, e2, e3, k1, k2, k3, l1, l2, l3, rk, rl, k4, k5, l4, l5, loop]
  cases hv3 : vv o s u <;> rw [hv3] at k5 l5
  · simp -implicitDefEqProofs only [evs, Nat.reduceAdd, reduceIte, e0, e1, e2, e3, k1, k2, k3, l1, l2, l3, rk, rl, k4, k5, l4, l5, loop]
  have tk := kc_trans hv1 hv2 hv3
  have tl := lc_trans hv1 hv2 hv3
  generalize kc o s t = a1 at *
  generalize kc o t u = a2 at *
  generalize kc o s u = a3 at *
  generalize lc o s t = b1 at *
  generalize lc o t u = b2 at *
  generalize lc o s u = b3 at *
  rcases tk with ha | ⟨rfl, ha⟩ | ⟨rfl, rfl, rfl⟩
  · rcases tl with hb | ⟨rfl, hb⟩ | ⟨rfl, rfl, rfl⟩
    · simp -implicitDefEqProofs only [evs, Nat.reduceAdd, reduceIte, e0, e1, e2, e3, k1, k2, k3, l1, l2, l3, rk, rl, k4, k5, l4, l5, loop, ha, hb]
    · simp -implicitDefEqProofs only [evs, Nat.reduceAdd, reduceIte, e0, e1, e2, e3, k1, k2, k3, l1, l2, l3, rk, rl, k4, k5, l4, l5, loop, ha, hb]
    · simp -implicitDefEqProofs only [evs, Nat.reduceAdd, reduceIte, e0, e1, e2, e3, k1, k2, k3, l1, l2, l3, rk, rl, k4, k5, l4, l5, loop, ha]
  · rcases tl with hb | ⟨rfl, hb⟩ | ⟨rfl, rfl, rfl⟩
    · simp -implicitDefEqProofs only [evs, Nat.reduceAdd, reduceIte, e0, e1, e2, e3, k1, k2, k3, l1, l2, l3, rk, rl, k4, k5, l4, l5, loop, ha, hb]
    · simp -implicitDefEqProofs only [evs, Nat.reduceAdd, reduceIte, e0, e1, e2, e3, k1, k2, k3, l1, l2, l3, rk, rl, k4, k5, l4, l5, loop, ha, hb]
    · simp -implicitDefEqProofs only [evs, Nat.reduceAdd, reduceIte, e0, e1, e2, e3, k1, k2, k3, l1, l2, l3, rk, rl, k4, k5, l4, l5, loop, ha]
  · rcases tl with hb | ⟨rfl, hb⟩ | ⟨rfl, rfl, rfl⟩
    · simp -implicitDefEqProofs only [evs, Nat.reduceAdd, reduceIte, e0, e1, e2, e3, k1, k2, k3, l1, l2, l3, rk, rl, k4, k5, l4, l5, loop, hb]
    · simp -implicitDefEqProofs only [evs, Nat.reduceAdd, reduceIte, e0, e1, e2, e3, k1, k2, k3, l1, l2, l3, rk, rl, k4, k5, l4, l5, loop, hb]
    · simp -implicitDefEqProofs only [evs, Nat.reduceAdd, reduceIte, e0, e1, e2, e3, k1, k2, k3, l1, l2, l3, rk, rl, k4, k5, l4, l5, loop]
end Go.Proofs.YtjclanocnkankaaGreat
