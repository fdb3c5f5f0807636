/- ORIENTED EQUATIONS: the law. -/
import Derived.Test.YtjclanocnkankaaGreatDs
import Derived.Test.YtjclanocnkankaaGreatOm
namespace Go.Proofs.YtjclanocnkankaaGreat
open Go Go.RowKit Go.Proofs.YtjclanocnkankaaGreat.Abs

set_option linter.unusedSimpArgs false
set_option linter.unusedVariables false
set_option maxHeartbeats 1000000

theorem vTerms_loop (n m : List UInt8) (ts us : List T) (hl : ts.length ≤ 9223372036854775807) (hlen : ts.length = us.length) (ih : ∀ t ∈ ts, ∀ u ∈ us, G 46 [tm t, tm u] = some (vb (dq t u), [])) :
    ∀ i, i ≤ ts.length → L46_0 (vi i) (sv n) (tms ts) (sv m) (tms us) = some (vb (dq (ts.drop i) (us.drop i)), []) := by
  refine upto ?_ ?_
  · rw [l46_0, List.drop_length, hlen, List.drop_length, dq_self]
    simp -implicitDefEqProofs only [evs, Nat.reduceAdd, reduceIte, hlen]
  · intro i hi ih'
    have hlt : (i : Int) < ((ts.length : Nat) : Int) := by omega
    have hi2 : i < us.length := by omega
    have h5 := add_one hi hl
    have e1 := ih ts[i] (List.getElem_mem _) us[i] (List.getElem_mem _)
    rw [l46_0, drop_cons hi, drop_cons hi2, dq_cons]
    cases hp : dq ts[i] us[i] <;> rw [hp] at e1
    · simp -implicitDefEqProofs only [evs, Nat.reduceAdd, reduceIte, hlt, pIndexAddr_map hi, pIndexAddr_map hi2, pLoadN_tcells, e1, Bool.false_and]
    · simp -implicitDefEqProofs only [evs, Nat.reduceAdd, reduceIte, hlt, pIndexAddr_map hi, pIndexAddr_map hi2, pLoadN_tcells, e1, h5, ih', Bool.true_and]
theorem vTerms_eq : ∀ s : T, twf s → ∀ t : T, twf t → G 46 [tm s, tm t] = some (vb (dq s t), []) := by
  refine T.ind fun s ih hw t hw' => ?_
  obtain ⟨w1, w2, w3⟩ := (twf_eq s).1 hw
  have w3 := (twfL_iff _).1 w3
  obtain ⟨v1, v2, v3⟩ := (twf_eq t).1 hw'
  have v3 := (twfL_iff _).1 v3
  rw [g46, dq_T]
  by_cases hn : s.name = t.name
  · by_cases hlen : s.args.length = t.args.length
    · have key := vTerms_loop t.name t.name s.args t.args w2 hlen (fun a ha b hb => ih a ha (w3 a ha) b (v3 b hb)) 0 (Nat.zero_le _)
      simp only [Int.natCast_zero, List.drop_zero] at key
      simp -implicitDefEqProofs only [evs, Nat.reduceAdd, reduceIte, hn, hlen, key, Bool.true_and]
    · have hlen' : ¬ ((s.args.length : Nat) : Int) = ((t.args.length : Nat) : Int) := by omega
      simp -implicitDefEqProofs only [evs, Nat.reduceAdd, reduceIte, hn, hlen', dq_len hlen, Bool.and_false]
  · simp -implicitDefEqProofs only [evs, Nat.reduceAdd, reduceIte, hn, Bool.false_and]
theorem twf_tsz : ∀ t : T, tsz t ≤ 1048576 → twf t := by
  refine T.ind fun t ih h => ?_
  have h' := h
  rw [tsz_eq] at h'
  exact (twf_eq t).2 ⟨by omega, by omega, (twfL_iff _).2 fun u hu => ih u hu (arg_tsz hu h)⟩
theorem eqn_swap (o : Ord') (n : List UInt8) (a b : T) : eqnO o (.mk n [a, b]) = eqnO o (.mk n [b, a]) := by
  have h1 : nodes (.mk n [a, b]) = nodes (.mk n [b, a]) := by show 1 + (nodes a + (nodes b + 0)) = 1 + (nodes b + (nodes a + 0)); omega
  have h2 : dep (.mk n [a, b]) = dep (.mk n [b, a]) := by show 1 + max (dep a) (max (dep b) 0) = 1 + max (dep b) (max (dep a) 0); omega
  have h3 : smallT (.mk n [a, b]) = smallT (.mk n [b, a]) := by unfold smallT; rw [h1, h2]
  show (decide (n = [61]) && ((decide (2 = 2) && (smallT (.mk n [a, b]) && (okT a && okT b))) && (covT o.syms a && covT o.syms b))) = (decide (n = [61]) && ((decide (2 = 2) && (smallT (.mk n [b, a]) && (okT b && okT a))) && (covT o.syms b && covT o.syms a)))
  rw [h3, Bool.and_comm (okT a), Bool.and_comm (covT o.syms a)]
  rfl
theorem eqn_good {o : Ord'} {t : T} (h : eqnO o t = true) : good o (arg0 t) = true ∧ good o (arg1 t) = true := by
  obtain ⟨_, hl, hs, k0, k1, v0, v1⟩ := eqnO_spec h
  obtain ⟨n, us⟩ := t
  match us, hl with
  | [a, b], _ =>
    have k0 : okT a = true := k0
    have k1 : okT b = true := k1
    have v0 : covT o.syms a = true := v0
    have v1 : covT o.syms b = true := v1
    have hs : (decide (1 + (nodes a + (nodes b + 0)) ≤ 30) && decide (1 + max (dep a) (max (dep b) 0) ≤ 8)) = true := hs
    simp only [Bool.and_eq_true, decide_eq_true_eq] at hs
    show good o a = true ∧ good o b = true
    simp only [good, validT, smallT, k0, k1, v0, v1, Bool.and_true, Bool.and_eq_true, decide_eq_true_eq]
    omega
theorem dec_two (o : Ord') (t : T) : dec o t = true ↔ cmpKBO o (arg0 t) (arg1 t) = 2 := (kbo_two o (arg0 t) (arg1 t)).symm

theorem spec_orient (o : Ord') (t : T) (ho : owf o) (hs : tsz t ≤ 1048576) : ∃ x y b, G 11 [od o, tm t] = some (.tup [.agg [x, y], vb b, vb (validO o && eqnO o t)], []) ∧ okA x = true ∧ okA y = true := by
  have hw := twf_tsz t hs
  have e1 := l6Good_eq o ho
  have e2 := l6Equation_eq o t ho hw hs
  rw [g11]
  cases hv : validO o <;> rw [hv] at e1
  · refine ⟨_, _, _, by simp -implicitDefEqProofs only [evs, Nat.reduceAdd, reduceIte, e1, Bool.false_and]; rfl, rfl, rfl⟩
  cases hx : eqnO o t <;> rw [hx] at e2
  · refine ⟨_, _, _, by simp -implicitDefEqProofs only [evs, Nat.reduceAdd, reduceIte, e1, e2, Bool.and_false]; rfl, rfl, rfl⟩
  obtain ⟨_, hl, _, k0, k1, v0, v1⟩ := eqnO_spec hx
  obtain ⟨w1, w2, w3⟩ := (twf_eq t).1 hw
  have w3 := (twfL_iff _).1 w3
  obtain ⟨i0, i1, ma, mb⟩ := arg_facts hl
  have e3 := l6KBO_eq hv ho.1.2 _ _ _ (Nat.le_refl _) (w3 _ ma) (w3 _ mb) (arg_tsz ma hs) (arg_tsz mb hs) v0 v1
  have e4 := l6KBO_eq hv ho.1.2 _ _ _ (Nat.le_refl _) (w3 _ mb) (w3 _ ma) (arg_tsz mb hs) (arg_tsz ma hs) v1 v0
  have o0 := own_eq (arg0 t) (arg_tsz ma hs)
  have o1 := own_eq (arg1 t) (arg_tsz mb hs)
  have ot := own_eq t hs
  cases hk : kboN o (nodes (arg1 t) + nodes (arg0 t)) (arg1 t) (arg0 t) <;> rw [hk] at e4
  · refine ⟨_, _, _, by simp -implicitDefEqProofs only [evs, Nat.reduceAdd, reduceIte, e1, e2, hl, i0, i1, pLoadN_tcells, e3, e4, ot, Bool.and_self]; rfl, rfl, rfl⟩
  · refine ⟨_, _, _, by simp -implicitDefEqProofs only [evs, Nat.reduceAdd, reduceIte, e1, e2, hl, i0, i1, pLoadN_tcells, e3, e4, o0, o1, Bool.and_self]; rfl, rfl, rfl⟩

/-- What the oriented equation is. -/
theorem oriented (o : Ord') (t : T) (ho : owf o) (hs : tsz t ≤ 5000) (hv : validO o = true) (hx : eqnO o t = true) :
    ∃ e g, G 14 [od o, tm t] = some (.tup [tm e, vb g, vb true], []) ∧ eqnO o e = true ∧ tsz e ≤ 5000 ∧ (dq e t = true ∨ (arg0 e = arg1 t ∧ arg1 e = arg0 t)) ∧ (cmpKBO o (arg0 e) (arg1 e) = 2 ↔ g = true) ∧ cmpKBO o (arg0 e) (arg1 e) ≠ 3 := by
  have q := orient_eq o t ho (twf_tsz t (by omega)) (by omega)
  unfold orientR at q
  rw [hv, hx, Bool.and_self, if_pos rfl] at q
  obtain ⟨_, hl, _, k0, k1, v0, v1⟩ := eqnO_spec hx
  by_cases h3 : cmpKBO o (arg0 t) (arg1 t) = 3
  · refine ⟨.mk t.name [arg1 t, arg0 t], true, ?_, ?_, ?_, Or.inr ⟨rfl, rfl⟩, ?_, ?_⟩
    · rw [if_pos h3, decide_eq_true h3, Bool.true_or] at q
      exact q
    · rw [eqn_swap]
      obtain ⟨n, us⟩ := t
      match us, hl with
      | [a, b], _ => exact hx
    · obtain ⟨n, us⟩ := t
      match us, hl with
      | [a, b], _ =>
        have hs : n.length + 2 + (tsz a + (tsz b + 0)) ≤ 5000 := hs
        show n.length + 2 + (tsz b + (tsz a + 0)) ≤ 5000
        omega
    · have := kbo_back (o := o) k0 k1
      show cmpKBO o (arg1 t) (arg0 t) = 2 ↔ _
      rw [this, h3]
      decide
    · have := kbo_back (o := o) k0 k1
      show cmpKBO o (arg1 t) (arg0 t) ≠ 3
      rw [this, h3]
      decide
  · rw [if_neg h3, decide_eq_false h3, Bool.false_or] at q
    exact ⟨t, _, q, hx, hs, Or.inl (dq_self t), by rw [decide_eq_true_eq], h3⟩

theorem oriented_law (code : List Int) (hb : (∀ n ∈ code, 0 ≤ n ∧ n ≤ 255) ∧ code.length ≤ 9223372036854775807) : G 8 [bts code] = some (vb true, []) := by
  have n2 : ((2 : Nat) : Int) = 2 := rfl
  have ff : ∀ (z : Int) (b : Bool), fin true (.tup [vi z, vb b], []) = some (.tup [vi z, vb b]) := fun _ _ => rfl
  have m0 : ¬ (0 : Int) = -1 := by decide
  have m1 : ¬ (2 : Int) = 3 := by decide
  by_cases hbig : code.length ≤ 65536
  rotate_left
  · have h : (65536 : Int) < ((code.length : Nat) : Int) := by omega
    have e0 : G 37 [bts code] = some (vb true, []) := by rw [g37]; simp -implicitDefEqProofs only [evs, Nat.reduceAdd, reduceIte, h]
    rw [g8]
    simp -implicitDefEqProofs only [evs, Nat.reduceAdd, reduceIte, e0]
  have h : ¬ (65536 : Int) < ((code.length : Nat) : Int) := by omega
  have e0 : G 37 [bts code] = some (vb false, []) := by rw [g37]; simp -implicitDefEqProofs only [evs, Nat.reduceAdd, reduceIte, h]
  obtain ⟨o, t, ho, hs, e1⟩ := drawOE_eq (code := code) ⟨hb.1, hbig⟩
  obtain ⟨x, y, b, e2, ox, oy⟩ := spec_orient o t ho (by omega)
  rw [g8]
  cases hvx : validO o && eqnO o t
  · have e3 := orient_eq o t ho (twf_tsz t (by omega)) (by omega)
    unfold orientR at e3
    rw [hvx] at e3 e2
    simp -implicitDefEqProofs only [evs, Nat.reduceAdd, reduceIte, e0, e1, e2, e3, ox, oy, Bool.and_self, Bool.false_eq_true]
  rw [hvx] at e2
  simp only [Bool.and_eq_true] at hvx
  obtain ⟨hv, hx⟩ := hvx
  obtain ⟨e, g, e3, hx', hs', hq, hc, h3⟩ := oriented o t ho hs hv hx
  obtain ⟨_, hl, _⟩ := eqnO_spec hx
  obtain ⟨_, hl', _⟩ := eqnO_spec hx'
  obtain ⟨i0, i1, ma, mb⟩ := arg_facts hl
  obtain ⟨j0, j1, na, nb⟩ := arg_facts hl'
  have hw := twf_tsz t (by omega)
  have hw' := twf_tsz e (by omega)
  have e4 := vTerms_eq e hw' t hw
  have a0 : tsz (arg0 e) ≤ 1048576 := arg_tsz na (by omega)
  have a1 : tsz (arg1 e) ≤ 1048576 := arg_tsz nb (by omega)
  have b0 : tsz (arg0 t) ≤ 1048576 := arg_tsz ma (by omega)
  have b1 : tsz (arg1 t) ≤ 1048576 := arg_tsz mb (by omega)
  have e5 := vTerms_eq (arg0 e) (twf_tsz _ a0) (arg1 t) (twf_tsz _ b1)
  have e6 := vTerms_eq (arg1 e) (twf_tsz _ a1) (arg0 t) (twf_tsz _ b0)
  have e7 := impl_compareKBO o (arg0 e) (arg1 e) ho (twf_tsz _ a0) a0 (twf_tsz _ a1) a1
  obtain ⟨g0, g1⟩ := eqn_good hx'
  have e7 : G 40 [od o, tm (arg0 e), tm (arg1 e)] = some (.tup [vi (cmpKBO o (arg0 e) (arg1 e)), vb true], []) := by
    rw [e7, compareKBO, hv, g0, g1]
    rfl
  have e8 := impl_fnd o [e] ho (by simp) (fun t ht => by rw [List.mem_singleton.1 ht]; exact hw') (fun t ht => by rw [List.mem_singleton.1 ht]; omega)
  have e8 : G 47 [od o, .sl 2 [[sv e.name, .sl 2 (e.args.map tcells)]]] = some (.tup [vi (if dec o e then -1 else 0), vb true], []) := by
    rw [← tms1, e8, fndR, hv]
    simp only [List.all_cons, List.all_nil, hx', Bool.and_self, List.length_cons, List.length_nil]
    rfl
  have hq' : dq e t = true ∨ (dq e t = false ∧ dq (arg0 e) (arg1 t) = true ∧ dq (arg1 e) (arg0 t) = true) := by
    cases hd : dq e t
    · rcases hq with h | ⟨h1, h2⟩
      · rw [hd] at h; cases h
      · exact Or.inr ⟨rfl, by rw [h1]; exact dq_self _, by rw [h2]; exact dq_self _⟩
    · exact Or.inl rfl
  have hg : dec o e = g := by
    have := dec_two o e
    cases g <;> cases hd : dec o e <;> rw [hd] at this <;> simp_all
  rw [hg] at e8
  rcases hq' with hd | ⟨hd, hd1, hd2⟩
  · rw [hd] at e4
    cases g
    · have hc : ¬ cmpKBO o (arg0 e) (arg1 e) = 2 := fun h => by cases hc.1 h
      simp -implicitDefEqProofs only [evs, Nat.reduceAdd, reduceIte, e0, e1, e2, e3, n2, ff, m0, m1, Bool.false_eq_true, ox, oy, hl', hl, i0, i1, j0, j1, pLoadN_tcells, e4, e7, e8, hc, h3]
    · have hc := hc.2 rfl
      rw [hc] at e7
      simp -implicitDefEqProofs only [evs, Nat.reduceAdd, reduceIte, e0, e1, e2, e3, n2, ff, m0, m1, Bool.false_eq_true, ox, oy, hl', hl, i0, i1, j0, j1, pLoadN_tcells, e4, e7, e8]
  · rw [hd] at e4
    rw [hd1] at e5
    rw [hd2] at e6
    cases g
    · have hc : ¬ cmpKBO o (arg0 e) (arg1 e) = 2 := fun h => by cases hc.1 h
      simp -implicitDefEqProofs only [evs, Nat.reduceAdd, reduceIte, e0, e1, e2, e3, n2, ff, m0, m1, Bool.false_eq_true, ox, oy, hl', hl, i0, i1, j0, j1, pLoadN_tcells, e4, e5, e6, e7, e8, hc, h3]
    · have hc := hc.2 rfl
      rw [hc] at e7
      simp -implicitDefEqProofs only [evs, Nat.reduceAdd, reduceIte, e0, e1, e2, e3, n2, ff, m0, m1, Bool.false_eq_true, ox, oy, hl', hl, i0, i1, j0, j1, pLoadN_tcells, e4, e5, e6, e7, e8]
end Go.Proofs.YtjclanocnkankaaGreat
