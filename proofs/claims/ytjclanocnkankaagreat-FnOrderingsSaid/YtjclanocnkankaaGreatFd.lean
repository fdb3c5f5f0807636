/- ORIENTED EQUATIONS; the first rule that does not decrease. -/
import Derived.Test.YtjclanocnkankaaGreatAt
namespace Go.Proofs.YtjclanocnkankaaGreat
open Go Go.RowKit Go.Proofs.YtjclanocnkankaaGreat.Abs

set_option linter.unusedSimpArgs false
set_option linter.unusedVariables false
set_option maxHeartbeats 1000000

/-- What OrientEquation answers. -/
noncomputable def orientR (o : Ord') (t : T) : A := if validO o && eqnO o t then .tup [if cmpKBO o (arg0 t) (arg1 t) = 3 then .agg [sv t.name, tms [arg1 t, arg0 t]] else tm t, vb (decide (cmpKBO o (arg0 t) (arg1 t) = 3) || decide (cmpKBO o (arg0 t) (arg1 t) = 2)), vb true] else .tup [.agg [sv [], .sl 2 []], vb false, vb false]

theorem arg_tsz {t u : T} (h : u ∈ t.args) (hs : tsz t ≤ 1048576) : tsz u ≤ 1048576 := by
  have := tsz_mem h
  rw [tsz_eq] at hs
  omega

theorem orient_eq (o : Ord') (t : T) (ho : owf o) (hw : twf t) (hs : tsz t ≤ 1048576) : G 14 [od o, tm t] = some (orientR o t, []) := by
  have q0 := isEquality_eq t
  have q1 := isValidOrdering_eq o ho
  unfold orientR
  by_cases he : t.name = [61]
  rotate_left
  · rw [decide_eq_false he] at q0
    have hx : eqnO o t = false := by unfold eqnO; rw [decide_eq_false he]; rfl
    rw [g14, hx, Bool.and_false]
    simp -implicitDefEqProofs only [evs, Nat.reduceAdd, reduceIte, q0]
  rw [decide_eq_true he] at q0
  cases hv : validO o <;> rw [hv] at q1
  · rw [g14, Bool.false_and]
    simp -implicitDefEqProofs only [evs, Nat.reduceAdd, reduceIte, q0, q1]
  have q2 := coversAtom_eqn o t ho hw hs he
  cases hx : eqnO o t <;> rw [hx] at q2
  · rw [g14, Bool.and_false]
    simp -implicitDefEqProofs only [evs, Nat.reduceAdd, reduceIte, q0, q1, q2]
  obtain ⟨_, hl, _, k0, k1, v0, v1⟩ := eqnO_spec hx
  obtain ⟨w1, w2, w3⟩ := (twf_eq t).1 hw
  have w3 := (twfL_iff _).1 w3
  obtain ⟨i0, i1, ma, mb⟩ := arg_facts hl
  have q3 := compareKBO_code hv (arg0 t) (arg1 t) ho (w3 _ ma) (arg_tsz ma hs) (w3 _ mb) (arg_tsz mb hs) k0 k1 v0 v1
  have q4 := copyTerm_eq t hs
  have ha : t.args = [arg0 t, arg1 t] := by
    unfold arg0 arg1
    match t.args, hl with
    | [a, b], _ => rfl
  generalize cmpKBO o (arg0 t) (arg1 t) = x at *
  generalize arg0 t = a at *
  generalize arg1 t = b at *
  rw [Bool.and_self, if_pos rfl]
  by_cases h3 : x = 3
  rotate_left
  · rw [g14]
    simp -implicitDefEqProofs only [evs, Nat.reduceAdd, reduceIte, q0, q1, q2, q4, List.getElem?_cons_zero, i0, i1, pLoadN_tcells, q3, h3, Bool.false_or]
  · have m0 : t.args.map tcells = [[sv a.name, .sl 2 (a.args.map tcells)], [sv b.name, .sl 2 (b.args.map tcells)]] := by rw [ha, ← tcells_eq, ← tcells_eq]; rfl
    have m1 : (tms [b, a] : A) = .sl 2 [[sv b.name, .sl 2 (b.args.map tcells)], [sv a.name, .sl 2 (a.args.map tcells)]] := by rw [← tcells_eq, ← tcells_eq]; rfl
    have q0 : G 56 [.agg [sv t.name, .sl 2 (t.args.map tcells)]] = some (vb true, []) := q0
    have q2 : G 58 [od o, .agg [sv t.name, .sl 2 (t.args.map tcells)]] = some (vb true, []) := q2
    have q4 : C59_0 (sv t.name) (.sl 2 (t.args.map tcells)) = some (.top, [sv t.name, .sl 2 (t.args.map tcells)]) := q4
    have i0 : pIndexAddr 2 (.sl 2 (t.args.map tcells)) (vi 0) = some (.elt (tcells a) 0) := i0
    have i1 : pIndexAddr 2 (.sl 2 (t.args.map tcells)) (vi 1) = some (.elt (tcells b) 0) := i1
    show G 14 [od o, .agg [sv t.name, .sl 2 (t.args.map tcells)]] = some (.tup [if x = 3 then .agg [sv t.name, tms [b, a]] else .agg [sv t.name, .sl 2 (t.args.map tcells)], vb (decide (x = 3) || decide (x = 2)), vb true], [])
    rw [m0] at q0 q2 q4 i0 i1
    rw [m0, m1, g14]
    subst h3
    have x1 : pIx 2 (vi 1) = some 1 := rfl
    have x0 : pIx 2 (vi 0) = some 0 := rfl
    have z1 : ∀ p q r s : A, pRowN [[p, q], [r, s]] 1 0 2 = some (.agg [r, s]) := fun _ _ _ _ => rfl
    have z0 : ∀ p q r s : A, pRowN [[p, q], [r, s]] 0 0 2 = some (.agg [p, q]) := fun _ _ _ _ => rfl
    have y0 : ∀ p q : List A, rGet [p, q] 0 = some p := fun _ _ => rfl
    have y1 : ∀ p q : List A, rGet [p, q] 1 = some q := fun _ _ => rfl
    have s0 : ∀ p q r : List A, rSet [p, q] 0 r = [r, q] := fun _ _ _ => rfl
    have s1 : ∀ p q r : List A, rSet [p, q] 1 r = [p, r] := fun _ _ _ => rfl
    simp -implicitDefEqProofs only [evs, Nat.reduceAdd, reduceIte, q0, q1, q2, q4, List.getElem?_cons_zero, i0, i1, pLoadN_tcells, q3, x0, x1, z0, z1, y0, y1, s0, s1, cOver_2, Bool.true_or]

/-! ### FirstNotDecreasing -/
/-- A rule decreases. -/
noncomputable def dec (o : Ord') (t : T) : Bool := kboN o (nodes (arg0 t) + nodes (arg1 t)) (arg0 t) (arg1 t)
noncomputable def fnd (o : Ord') : Nat → List T → Int
  | _, [] => -1
  | i, t :: ts => if dec o t then fnd o (i + 1) ts else (i : Nat)
noncomputable def fndR (o : Ord') (ts : List T) : A := if validO o && (decide (ts.length ≤ 8) && ts.all (eqnO o)) then .tup [vi (fnd o 0 ts), vb true] else .tup [vi 0, vb false]

theorem pLoadP_targs (t : T) : pLoadP (.elt (tcells t) 1) = some (tms t.args) := by rw [tcells_eq]; rfl

theorem spec_dec {o : Ord'} (hv : validO o = true) (ho : owf o) {t : T} (hw : twf t) (hs : tsz t ≤ 1048576) (hx : eqnO o t = true) : G 52 [od o, tm (arg0 t), tm (arg1 t)] = some (vb (dec o t), []) := by
  obtain ⟨_, hl, _, k0, k1, v0, v1⟩ := eqnO_spec hx
  obtain ⟨w1, w2, w3⟩ := (twf_eq t).1 hw
  have w3 := (twfL_iff _).1 w3
  obtain ⟨i0, i1, ma, mb⟩ := arg_facts hl
  exact l6KBO_eq hv ho.1.2 _ _ _ (Nat.le_refl _) (w3 _ ma) (w3 _ mb) (arg_tsz ma hs) (arg_tsz mb hs) v0 v1
theorem impl_dec {o : Ord'} (hv : validO o = true) (ho : owf o) {t : T} (hw : twf t) (hs : tsz t ≤ 1048576) (hx : eqnO o t = true) : G 96 [od o, tm (arg0 t), tm (arg1 t)] = some (vb (dec o t), []) := by
  obtain ⟨_, hl, _, k0, k1, v0, v1⟩ := eqnO_spec hx
  obtain ⟨w1, w2, w3⟩ := (twf_eq t).1 hw
  have w3 := (twfL_iff _).1 w3
  obtain ⟨i0, i1, ma, mb⟩ := arg_facts hl
  exact kbo_eq hv ho.1.2 _ _ _ (Nat.le_refl _) (w3 _ ma) (w3 _ mb) (arg_tsz ma hs) (arg_tsz mb hs) k0 k1 v0 v1

theorem impl_fnd (o : Ord') (ts : List T) (ho : owf o) (hl : ts.length ≤ 9223372036854775807) (hw : ∀ t ∈ ts, twf t) (hs : ∀ t ∈ ts, tsz t ≤ 1048576) : G 47 [od o, tms ts] = some (fndR o ts, []) := by
  have e1 := isValidOrdering_eq o ho
  rw [g47, fndR]
  cases hv : validO o <;> rw [hv] at e1
  · simp -implicitDefEqProofs only [evs, Nat.reduceAdd, reduceIte, e1, Bool.false_and]
  by_cases h8 : ts.length ≤ 8
  rotate_left
  · have hgt : (8 : Int) < ((ts.length : Nat) : Int) := by omega
    have hle : ¬ ((ts.length : Nat) : Int) ≤ 8 := by omega
    simp -implicitDefEqProofs only [evs, Nat.reduceAdd, reduceIte, e1, hgt, hle, h8, Bool.false_and, Bool.and_false]
  have hgt : ¬ (8 : Int) < ((ts.length : Nat) : Int) := by omega
  have hle : ((ts.length : Nat) : Int) ≤ 8 := by omega
  have orient : ∀ t ∈ ts, ∃ (x : List UInt8) (y : List (List A)) (g : Bool), G 14 [od o, tm t] = some (.tup [.agg [sv x, .sl 2 y], vb g, vb (eqnO o t)], []) := by
    intro t ht
    have q := orient_eq o t ho (hw t ht) (hs t ht)
    unfold orientR at q
    rw [hv, Bool.true_and] at q
    cases hx : eqnO o t <;> rw [hx] at q
    · exact ⟨_, _, _, q⟩
    · rw [if_pos rfl] at q
      by_cases h3 : cmpKBO o (arg0 t) (arg1 t) = 3
      · rw [if_pos h3] at q; exact ⟨_, _, _, q⟩
      · rw [if_neg h3] at q; exact ⟨_, _, _, q⟩
  have found : ∀ j : Nat, ∀ i, i ≤ ts.length → L47_0 (vi (j : Nat)) (tms ts) (vi (ts.length : Nat)) (vi i) (strs o.syms) (ints o.ws) (vi o.var) = if (ts.drop i).all (eqnO o) then some (.tup [vi (j : Nat), vb true], []) else some (.tup [vi 0, vb false], []) := by
    intro j
    refine upto ?_ ?_
    · rw [l47_0, List.drop_length]
      simp -implicitDefEqProofs only [evs, Nat.reduceAdd, reduceIte]
    · intro i hi ih
      have hlt : (i : Int) < ((ts.length : Nat) : Int) := by omega
      have h5 := add_one hi hl
      have hj : ¬ ((j : Nat) : Int) < 0 := by omega
      obtain ⟨x, y, g, e2⟩ := orient ts[i] (List.getElem_mem _)
      rw [l47_0, drop_cons hi, List.all_cons]
      cases hx : eqnO o ts[i] <;> rw [hx] at e2
      · simp -implicitDefEqProofs only [evs, Nat.reduceAdd, reduceIte, hlt, pIndexAddr_map hi, pLoadN_tcells, e2, Bool.false_and]
      · simp -implicitDefEqProofs only [evs, Nat.reduceAdd, reduceIte, hlt, pIndexAddr_map hi, pLoadN_tcells, e2, hj, h5, ih, Bool.true_and]
  have search : ∀ i, i ≤ ts.length → L47_0 (vi (-1)) (tms ts) (vi (ts.length : Nat)) (vi i) (strs o.syms) (ints o.ws) (vi o.var) = if (ts.drop i).all (eqnO o) then some (.tup [vi (fnd o i (ts.drop i)), vb true], []) else some (.tup [vi 0, vb false], []) := by
    refine upto ?_ ?_
    · rw [l47_0, List.drop_length]
      simp -implicitDefEqProofs only [evs, Nat.reduceAdd, reduceIte, fnd]
    · intro i hi ih
      have hlt : (i : Int) < ((ts.length : Nat) : Int) := by omega
      have h5 := add_one hi hl
      have hj : (-1 : Int) < 0 := by decide
      obtain ⟨x, y, g, e2⟩ := orient ts[i] (List.getElem_mem _)
      have fj := found i (i + 1) hi
      rw [l47_0, drop_cons hi, List.all_cons, fnd]
      cases hx : eqnO o ts[i] <;> rw [hx] at e2
      · simp -implicitDefEqProofs only [evs, Nat.reduceAdd, reduceIte, hlt, pIndexAddr_map hi, pLoadN_tcells, e2, Bool.false_and]
      · have e3 := impl_dec hv ho (hw _ (List.getElem_mem _)) (hs _ (List.getElem_mem _)) hx
        obtain ⟨i0, i1, _, _⟩ := arg_facts (eqnO_spec hx).2.1
        cases hd : dec o ts[i] <;> rw [hd] at e3
        · simp -implicitDefEqProofs only [evs, Nat.reduceAdd, reduceIte, hlt, pIndexAddr_map hi, pLoadN_tcells, e2, hj, i0, i1, e3, h5, fj, Bool.true_and]
        · simp -implicitDefEqProofs only [evs, Nat.reduceAdd, reduceIte, hlt, pIndexAddr_map hi, pLoadN_tcells, e2, hj, i0, i1, e3, h5, ih, Bool.true_and]
  have key := search 0 (Nat.zero_le _)
  simp only [Int.natCast_zero, List.drop_zero] at key
  cases ha : ts.all (eqnO o) <;> rw [ha] at key
  · simp -implicitDefEqProofs only [evs, Nat.reduceAdd, reduceIte, e1, hgt, hle, key, Bool.and_false]
  · simp -implicitDefEqProofs only [evs, Nat.reduceAdd, reduceIte, e1, hgt, hle, h8, key]
end Go.Proofs.YtjclanocnkankaaGreat
