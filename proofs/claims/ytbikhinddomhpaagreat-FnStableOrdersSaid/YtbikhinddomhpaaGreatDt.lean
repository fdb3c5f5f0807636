/- DRAWS OF SUBSTITUTIONS. -/
import Derived.Test.YtbikhinddomhpaaGreatAp
namespace Go.Proofs.YtbikhinddomhpaaGreat
open Go Go.RowKit Go.Proofs.YtbikhinddomhpaaGreat.Abs

set_option linter.unusedSimpArgs false
set_option linter.unusedVariables false
set_option maxHeartbeats 1000000

section
variable {code : List Int} (hb : By code)
include hb
theorem expression_eq (a s : Int) (h0 : 0 ≤ a) (h1 : a ≤ 999970000) : MD code 1000 2000 a (C18_0 (bts code) (vi a) (vu s)) := by
  obtain ⟨a1, s1, b1, q1, q2, e1⟩ := one_eq hb 3 (by decide) (by decide) a s h0 (by omega)
  rw [c18_0]
  cases b1 with
  | true =>
    obtain ⟨a2, s2, t2, r1, r2, r3, e2⟩ := atom_eq hb a1 s1 (by omega) (by omega)
    obtain ⟨a3, s3, b3, u1, u2, e3⟩ := one_eq hb 12 (by decide) (by decide) a2 s2 (by omega) (by omega)
    cases b3 with
    | true =>
      obtain ⟨a4, s4, t4, v1, v2, v3, e4⟩ := term_eq hb a3 s3 (by omega) (by omega)
      have hz := tsz_eq t2
      have hf : pFit (t2.args.length + 1) 40 = true := pF40 (by omega)
      have hsz : ∀ us : List T, tszL (us ++ [t4]) = tszL us + tsz t4 := by
        intro us
        induction us with
        | nil => simp [tszL]
        | cons u us ih => simp only [List.cons_append, tszL]; omega
      refine ⟨a4, s4, .mk t2.name (t2.args ++ [t4]), by omega, by omega, by rw [tsz_mk, hsz, List.length_append, List.length_cons, List.length_nil]; omega, ?_⟩
      simp -implicitDefEqProofs only [evs, Nat.reduceAdd, reduceIte, e1, e2, e3, e4, hf, List.length_map, List.getElem?_cons_zero, List.getElem?_cons_succ, hR_4]
      show _ = some (A.top, [bts code, vi a4, vu s4, A.agg [sv t2.name, .sl 2 ((t2.args ++ [t4]).map tcells)]])
      rw [List.map_append, List.map_cons, tcells_eq t4]
      rfl
    | false =>
      refine ⟨a3, s3, t2, by omega, by omega, by omega, ?_⟩
      simp -implicitDefEqProofs only [evs, Nat.reduceAdd, reduceIte, e1, e2, e3, List.getElem?_cons_zero, List.getElem?_cons_succ, hR_4]
  | false =>
    obtain ⟨a2, s2, t2, r1, r2, r3, e2⟩ := anyTerm_eq hb a1 s1 (by omega) (by omega)
    refine ⟨a2, s2, t2, by omega, by omega, by omega, ?_⟩
    simp -implicitDefEqProofs only [evs, Nat.reduceAdd, reduceIte, e1, e2, List.getElem?_cons_zero, List.getElem?_cons_succ, hR_4]
end

/-! ### A binding put at its place -/
theorem pF56 {n : Nat} (h : n ≤ 2097152) : pFit n 56 = true := by
  unfold pFit
  exact decide_eq_true ⟨by omega, by omega⟩
theorem put_end (u : List (List UInt8 × T)) (hl : u.length ≤ 1000) (i : Nat) (hi : i ≤ u.length) :
    pB u.length u.length (some (vi (i : Nat))) = some i ∧ rWin (u.map bc) 0 i = (u.take i).map bc ∧ pFit (u.take i).length 56 = true ∧ pB u.length u.length none = some u.length ∧ pB 0 u.length (some (vi (i : Nat))) = some i ∧ rWin (u.map bc) i (u.length - i) = (u.drop i).map bc ∧ rRem (u.map bc) 0 = u.length ∧ pFit ((u.take i).length + 1) 56 = true ∧ pFit ((u.take i).length + 1 + (u.drop i).length) 56 = true := by
  refine ⟨pB_le hi, by rw [rWin, List.drop_zero, List.map_take], pF56 (by rw [List.length_take]; omega), pB_none_le (Nat.le_refl _), pB_le hi, ?_, by rw [rRem, List.length_map]; rfl, pF56 (by rw [List.length_take]; omega), pF56 (by rw [List.length_take, List.length_drop]; omega)⟩
  rw [rWin, ← List.map_drop, List.take_of_length_le (by rw [List.length_map, List.length_drop]; omega)]
theorem put_app (u v : List (List UInt8 × T)) (n : List UInt8) (t : T) : rApp (rApp (u.map bc) [[sv n, sv t.name, tms t.args]]) (v.map bc) = (u ++ [(n, t)] ++ v).map bc := by
  rw [List.map_append, List.map_append]
  rfl
theorem put_len (u : List (List UInt8 × T)) (n : List UInt8) (t : T) : (rApp (u.map bc) [[sv n, sv t.name, tms t.args]]).length = u.length + 1 := by
  simp [rApp]
theorem put_eq (u : List (List UInt8 × T)) (hl : u.length ≤ 1000) (n : List UInt8) (t : T) (ht : tsz t ≤ 1048576) : ∃ u', u'.length ≤ u.length + 1 ∧ (∀ p ∈ u', p ∈ u ∨ p = (n, t)) ∧ C71_0 (sv n) (sv t.name) (u.map bc) (t.args.map tcells) = some (.top, [sbs u']) := by
  have e1 := own_eq t ht
  have key := upto (P := fun i => ∃ j, j ≤ u.length ∧ L71c0_0 (sv n) (vi i) (sv t.name) (u.map bc) (t.args.map tcells) [] = some (.top, [sbs (u.take j ++ [(n, t)] ++ u.drop j)])) (n := u.length) ?_ ?_ 0 (Nat.zero_le _)
  · rw [c71_0]
    by_cases h : t.name = n
    · refine ⟨u, by omega, fun p hp => Or.inl hp, ?_⟩
      simp -implicitDefEqProofs only [evs, Nat.reduceAdd, reduceIte, h]
    · obtain ⟨j, hj, e⟩ := key
      have e : L71c0_0 (sv n) (vi 0) (sv t.name) (u.map bc) (t.args.map tcells) [] = some (.top, [sbs (u.take j ++ [(n, t)] ++ u.drop j)]) := e
      refine ⟨u.take j ++ [(n, t)] ++ u.drop j, by rw [List.length_append, List.length_append, List.length_take, List.length_drop, List.length_singleton]; omega, fun p hp => ?_, ?_⟩
      · rw [List.mem_append, List.mem_append, List.mem_singleton] at hp
        rcases hp with (hp | hp) | hp
        · exact Or.inl (List.mem_of_mem_take hp)
        · exact Or.inr hp
        · exact Or.inl (List.mem_of_mem_drop hp)
      · simp -implicitDefEqProofs only [evs, Nat.reduceAdd, reduceIte, h, e]
  · refine ⟨u.length, Nat.le_refl _, ?_⟩
    obtain ⟨k1, k2, k3, k4, k5, k6, k7, k8, k9⟩ := put_end u hl u.length (Nat.le_refl _)
    have m1 := put_app (u.take u.length) (u.drop u.length) n t
    have m2 := put_len (u.take u.length) n t
    rw [l71c0_0]
    simp -implicitDefEqProofs only [evs, Nat.reduceAdd, reduceIte, rCnt_map, k1, k2, k3, k4, k5, k6, k7, nSub_eq, Nat.sub_zero, Nat.zero_add, e1]
    generalize hB : buildA _ _ _ = B
    have hB' : B = some (.agg [sv n, sv t.name, tms t.args]) := by rw [← hB]; kernel_rfl
    rw [hB']
    simp -implicitDefEqProofs only [evs, Nat.reduceAdd, reduceIte, k3, k8, k9, m1, m2]
  · intro i hi ih
    have hlt : (i : Int) < ((u.length : Nat) : Int) := by omega
    have h5 := add_one hi (by show u.length ≤ 9223372036854775807; omega)
    have x1 : pIx u.length (vi ((i : Nat) : Int)) = some i := pIx_lt hi
    have x2 : pRowP (u.map bc) i 0 = some (sv u[i].1) := by unfold pRowP; simp [hi]
    cases hs : sLt u[i].1 n
    · refine ⟨i, by omega, ?_⟩
      obtain ⟨k1, k2, k3, k4, k5, k6, k7, k8, k9⟩ := put_end u hl i (by omega)
      have m1 := put_app (u.take i) (u.drop i) n t
      have m2 := put_len (u.take i) n t
      rw [l71c0_0]
      simp -implicitDefEqProofs only [evs, Nat.reduceAdd, reduceIte, hlt, x1, x2, hs, rCnt_map, k1, k2, k3, k4, k5, k6, k7, nSub_eq, Nat.sub_zero, Nat.zero_add, e1]
      generalize hB : buildA _ _ _ = B
      have hB' : B = some (.agg [sv n, sv t.name, tms t.args]) := by rw [← hB]; kernel_rfl
      rw [hB']
      simp -implicitDefEqProofs only [evs, Nat.reduceAdd, reduceIte, k3, k8, k9, m1, m2]
    · obtain ⟨j, hj, e⟩ := ih
      refine ⟨j, hj, ?_⟩
      rw [l71c0_0]
      simp -implicitDefEqProofs only [evs, Nat.reduceAdd, reduceIte, hlt, x1, x2, hs, h5, e]

/-- A substitution that a draw gives. -/
def SD (code : List Int) (z q : Nat) (a : Int) (o : Option Out) (f : List (List UInt8 × T) → A) : Prop := ∃ a' s' u, a ≤ a' ∧ a' ≤ a + (q : Nat) ∧ Sz z u ∧ o = some (.top, [bts code, vi a', vu s', f u])
section
variable {code : List Int} (hb : By code)
include hb
theorem substitution_eq (a s : Int) (h0 : 0 ≤ a) (h1 : a ≤ 999960000) : ∃ a' s' u, a ≤ a' ∧ a' ≤ a + 1000 ∧ u.length ≤ 4 ∧ Sz 192 u ∧ C40_0 (bts code) (vi a) (vu s) = some (.top, [bts code, vi a', vu s', sbs u]) := by
  have key := upto (P := fun i => ∀ (u : List (List UInt8 × T)) (a s : Int), 0 ≤ a → a ≤ 999961000 - 200 * ((4 : Int) - (i : Int)) → u.length ≤ i → Sz 192 u → ∃ a' s' u', a ≤ a' ∧ a' ≤ a + 200 * ((4 : Int) - (i : Int)) ∧ u'.length ≤ 4 ∧ Sz 192 u' ∧ L40c0_0 (vi 4) (vi i) (bts code) (vi a) (vu s) ([[85], [88], [89], [90]].map cs) [] (u.map bc) = some (.top, [bts code, vi a', vu s', sbs u'])) (n := 4) ?_ ?_ 0 (Nat.zero_le _)
  · obtain ⟨a', s', u, q1, q2, q3, q4, e⟩ := key [] a s h0 (by omega) (by simp) ⟨by simp, by simp⟩
    refine ⟨a', s', u, q1, by omega, q3, q4, ?_⟩
    rw [c40_0]
    exact e
  · intro u a s h0 h1 hl hu
    refine ⟨a, s, u, by omega, by omega, hl, hu, ?_⟩
    have n4 : ((4 : Nat) : Int) = 4 := rfl
    rw [l40c0_0]
    simp -implicitDefEqProofs only [evs, Nat.reduceAdd, reduceIte, n4]
  · intro i hi ih u a s h0 h1 hl hu
    have hlt : (i : Int) < 4 := by omega
    have h5 : ck ((i : Int) + 1) = some (vi ((i + 1 : Nat) : Int)) := ck_le (by omega) (by omega)
    obtain ⟨a1, s1, b, q1, q2, e1⟩ := one_eq hb 2 (by decide) (by decide) a s h0 (by omega)
    have hi4 : i < ([[85], [88], [89], [90]] : List (List UInt8)).length := hi
    have x1 : pIx ([[85], [88], [89], [90]] : List (List UInt8)).length (vi ((i : Nat) : Int)) = some i := pIx_lt hi4
    obtain ⟨nm, hnm, x2⟩ : ∃ nm : List UInt8, nm.length ≤ 1 ∧ pRowP (([[85], [88], [89], [90]] : List (List UInt8)).map cs) i 0 = some (sv nm) := by
      match i, hi with
      | 0, _ => exact ⟨[85], by decide, rfl⟩
      | 1, _ => exact ⟨[88], by decide, rfl⟩
      | 2, _ => exact ⟨[89], by decide, rfl⟩
      | 3, _ => exact ⟨[90], by decide, rfl⟩
    rw [l40c0_0]
    generalize ([[85], [88], [89], [90]] : List (List UInt8)) = l at *
    cases b with
    | true =>
      obtain ⟨a2, s2, t, r1, r2, r3, e2⟩ := term_eq hb a1 s1 (by omega) (by omega)
      obtain ⟨u', v1, v2, e3⟩ := put_eq u (by omega) nm t (by omega)
      have hu' : Sz 192 u' := ⟨by omega, fun p hp => by
        rcases v2 p hp with h | h
        · exact hu.2 p h
        · rw [h]; exact ⟨by show nm.length ≤ 192; omega, r3⟩⟩
      obtain ⟨a3, s3, u3, w1, w2, w3, w4, e4⟩ := ih u' a2 s2 (by omega) (by omega) (by omega) hu'
      have x3 : hR 3 (A.top, [sbs u']) 0 = some (u'.map bc) := by simp [hR]
      refine ⟨a3, s3, u3, by omega, by omega, w3, w4, ?_⟩
      simp -implicitDefEqProofs only [evs, Nat.reduceAdd, reduceIte, hlt, x1, x2, e1, e2, List.getElem?_cons_zero, List.getElem?_cons_succ, hR_4, e3, x3, h5, e4]
    | false =>
      obtain ⟨a3, s3, u3, w1, w2, w3, w4, e4⟩ := ih u a1 s1 (by omega) (by omega) (by omega) hu
      refine ⟨a3, s3, u3, by omega, by omega, w3, w4, ?_⟩
      simp -implicitDefEqProofs only [evs, Nat.reduceAdd, reduceIte, hlt, x1, x2, e1, List.getElem?_cons_zero, List.getElem?_cons_succ, hR_4, h5, e4]
end

theorem set_bc (u : List (List UInt8 × T)) (i : Nat) (hi : i < u.length) : rGet (u.map bc) i = some (bc u[i]) ∧ ∀ (a b c : A) (n : List UInt8) (t : T), rSet (u.map bc) i (cOver [a, b, c] 0 [sv n, sv t.name, tms t.args]) = (u.set i (n, t)).map bc := by
  refine ⟨by simp [rGet, hi], fun a b c n t => ?_⟩
  rw [List.map_set]
  rfl
theorem set_sz {z : Nat} {u : List (List UInt8 × T)} (hu : Sz z u) {i : Nat} {n : List UInt8} {t : T} (h1 : n.length ≤ z) (h2 : tsz t ≤ z) : Sz z (u.set i (n, t)) :=
  ⟨by rw [List.length_set]; exact hu.1, fun p hp => by
    rcases List.mem_or_eq_of_mem_set hp with h | rfl
    · exact hu.2 p h
    · exact ⟨h1, h2⟩⟩
theorem sz_le {z y : Nat} (h : z ≤ y) {u : List (List UInt8 × T)} (hu : Sz z u) : Sz y u := ⟨by have := hu.1; omega, fun p hp => by have := hu.2 p hp; omega⟩
theorem num_eq (m : Nat) (h1 : m ≤ 9) : ∃ w : List UInt8, w.length ≤ 1 ∧ G 41 [vi (m : Nat)] = some (sv w, []) := by
  have h0 : ¬ ((m : Nat) : Int) < 0 := by omega
  have h9 : ((m : Nat) : Int) < 10 := by omega
  have c1 : ck (((m : Nat) : Int) + 1) = some (vi ((m + 1 : Nat) : Int)) := ck_le (by omega) (by omega)
  obtain ⟨w, hw, e⟩ : ∃ w : List UInt8, w.length ≤ 1 ∧ pSliceS (sv [48, 49, 50, 51, 52, 53, 54, 55, 56, 57]) (some (vi (m : Nat))) (some (vi ((m + 1 : Nat) : Int))) = some (sv w) := by
    match m, h1 with
    | 0, _ => exact ⟨[48], by decide, rfl⟩
    | 1, _ => exact ⟨[49], by decide, rfl⟩
    | 2, _ => exact ⟨[50], by decide, rfl⟩
    | 3, _ => exact ⟨[51], by decide, rfl⟩
    | 4, _ => exact ⟨[52], by decide, rfl⟩
    | 5, _ => exact ⟨[53], by decide, rfl⟩
    | 6, _ => exact ⟨[54], by decide, rfl⟩
    | 7, _ => exact ⟨[55], by decide, rfl⟩
    | 8, _ => exact ⟨[56], by decide, rfl⟩
    | 9, _ => exact ⟨[57], by decide, rfl⟩
  refine ⟨w, hw, ?_⟩
  rw [g41]
  simp -implicitDefEqProofs only [evs, Nat.reduceAdd, reduceIte, h0, h9, c1, e]
theorem sadd90 {w : List UInt8} (h : w.length ≤ 1) : pBin .add false (sv [90]) (sv w) = some (sv ([90] ++ w)) := by
  rw [pBin_sadd, if_pos (by rw [List.length_singleton]; omega)]
section
variable {code : List Int} (hb : By code)
include hb
omit hb in
theorem many_bind (a s : Int) : ∀ (m : Nat), m ≤ 9 → ∀ u : List (List UInt8 × T), u.length + m ≤ 900 → Sz 1000 u → ∃ u', Sz 1000 u' ∧ L14c0_1 (vi ((9 - m : Nat) : Int)) (bts code) (vi a) (vu s) [] (u.map bc) = some (.top, [bts code, vi a, vu s, sb u']) := by
  intro m
  induction m with
  | zero =>
    intro _ u hl hu
    refine ⟨u, hu, ?_⟩
    have h : ¬ (((9 - 0 : Nat)) : Int) < 9 := by decide
    rw [l14c0_1]
    simp -implicitDefEqProofs only [evs, Nat.reduceAdd, reduceIte, h]
  | succ m ih =>
    intro hm u hl hu
    have hlt : (((9 - (m + 1) : Nat)) : Int) < 9 := by omega
    obtain ⟨w, hw, e1⟩ := num_eq (9 - m) (by omega)
    have c1 : ck ((((9 - (m + 1) : Nat)) : Int) + 1) = some (vi ((9 - m : Nat) : Int)) := by rw [show (((9 - (m + 1) : Nat)) : Int) + 1 = ((9 - m : Nat) : Int) by omega]; exact ck_le (by omega) (by omega)
    have hf : pFit (u.length + 1) 56 = true := pF56 (by omega)
    have ha : rApp (u.map bc) [[sv ([90] ++ w), sv [97], A.sl 2 []]] = (u ++ [([90] ++ w, T.mk [97] [])]).map bc := by rw [List.map_append]; rfl
    obtain ⟨u', q1, q2⟩ := ih (by omega) (u ++ [([90] ++ w, T.mk [97] [])]) (by rw [List.length_append, List.length_singleton]; omega) ⟨by rw [List.length_append, List.length_singleton]; omega, fun p hp => by
      rcases List.mem_append.1 hp with h | h
      · exact hu.2 p h
      · rw [List.mem_singleton.1 h]; exact ⟨by show ([90] ++ w).length ≤ 1000; rw [List.length_append, List.length_singleton]; omega, by simp [tsz, tszL]⟩⟩
    refine ⟨u', q1, ?_⟩
    rw [l14c0_1]
    simp -implicitDefEqProofs only [evs, Nat.reduceAdd, reduceIte, hlt, c1, e1, sadd90 hw, hf, ha, q2]
theorem anySubst_eq (a s : Int) (h0 : 0 ≤ a) (h1 : a ≤ 999950000) : SD code 1000 4000 a (C14_0 (bts code) (vi a) (vu s)) sb := by
  obtain ⟨a1, s1, u, q1, q2, q3, q4, e1⟩ := substitution_eq hb a s h0 (by omega)
  have hu := sz_le (y := 1000) (by decide) q4
  have hR3 : ∀ (x0 x1 x2 : A) (u : List (List UInt8 × T)), hR 3 (A.top, [x0, x1, x2, sbs u]) 3 = some (u.map bc) := fun _ _ _ _ => by simp [hR]
  rw [c14_0]
  by_cases hz : u.length = 0
  · have hz' : ((u.length : Nat) : Int) = 0 := by omega
    refine ⟨a1, s1, u, q1, by omega, hu, ?_⟩
    simp -implicitDefEqProofs only [evs, Nat.reduceAdd, reduceIte, e1, List.getElem?_cons_zero, List.getElem?_cons_succ, hR3, hz']
  have hz' : ¬ ((u.length : Nat) : Int) = 0 := by omega
  obtain ⟨a2, s2, x, r1, r2, x0, x1, e2⟩ := pick_eq hb ((u.length : Nat) : Int) (by omega) (by omega) a1 s1 (by omega) (by omega)
  obtain ⟨i, rfl⟩ : ∃ i : Nat, x = (i : Nat) := ⟨x.toNat, by omega⟩
  have hi : i < u.length := by omega
  obtain ⟨a3, s3, y, v1, v2, y0, y1, e3⟩ := pick_eq hb 24 (by decide) (by decide) a2 s2 (by omega) (by omega)
  have i1 : pIx u.length (vi ((i : Nat) : Int)) = some i := pIx_lt hi
  have i2 : pRowN (u.map bc) i 0 3 = some (.agg [sv u[i].1, sv u[i].2.name, tms u[i].2.args]) := by unfold pRowN; simp [hi]
  obtain ⟨g1, g2⟩ := set_bc u i hi
  have hp := hu.2 _ (List.getElem_mem hi)
  by_cases c0 : y = 0
  · subst c0
    obtain ⟨a4, s4, w, hw', w1, w2, e⟩ := of_eq hb [[97], [], [84], [90], [90, 122]] (by decide) (by decide) a3 s3 (by omega) (by omega)
    have hl : w.length ≤ 3 := (show ∀ w ∈ ([[97], [], [84], [90], [90, 122]] : List (List UInt8)), w.length ≤ 3 by decide) w hw'
    have e : C36_0 (bts code) (vi a3) (vu s3) [[sv [97]], [sv []], [sv [84]], [sv [90]], [sv [90, 122]]] = some (.top, [bts code, vi a4, vu s4, sv w]) := e
    refine ⟨a4, s4, u.set i (w, u[i].2), by omega, by omega, set_sz hu (by omega) hp.2, ?_⟩
    simp -implicitDefEqProofs only [evs, Nat.reduceAdd, reduceIte, e1, List.getElem?_cons_zero, List.getElem?_cons_succ, hR_4, hR3, hz', e2, i1, i2, e3, e, g1, g2]
  by_cases c1 : y = 1
  · subst c1
    refine ⟨a3, s3, u.set i (u[i].1, T.mk u[i].1 []), by omega, by omega, set_sz hu hp.1 (by have := q4.2 _ (List.getElem_mem hi); rw [tsz_mk]; simp only [List.length_nil, tszL]; omega), ?_⟩
    have g3 := g2 (sv u[i].1) (sv u[i].2.name) (tms u[i].2.args) u[i].1 (.mk u[i].1 [])
    have g3 : rSet (u.map bc) i (cOver (bc u[i]) 0 [sv u[i].1, sv u[i].1, A.sl 2 []]) = (u.set i (u[i].1, T.mk u[i].1 [])).map bc := g3
    simp -implicitDefEqProofs only [evs, Nat.reduceAdd, reduceIte, e1, List.getElem?_cons_zero, List.getElem?_cons_succ, hR_4, hR3, hz', e2, i1, i2, e3, c0, g1, g3]
  by_cases c2 : y = 2
  · subst c2
    obtain ⟨a4, s4, t4, w1, w2, w3, e4⟩ := anyTerm_eq hb a3 s3 (by omega) (by omega)
    refine ⟨a4, s4, u.set i (u[i].1, t4), by omega, by omega, set_sz hu hp.1 w3, ?_⟩
    simp -implicitDefEqProofs only [evs, Nat.reduceAdd, reduceIte, e1, List.getElem?_cons_zero, List.getElem?_cons_succ, hR_4, hR3, hz', e2, i1, i2, e3, c0, c1, e4, g1, g2]
  by_cases c3 : y = 3
  · subst c3
    obtain ⟨w, hw, e4⟩ := num_eq 1 (by decide)
    have e4 : G 41 [vi 1] = some (sv w, []) := e4
    have hf : pFit (u.length + 1) 56 = true := pF56 (by omega)
    have k1 : ck ((0 : Int) + 1) = some (vi 1) := ck_le (by decide) (by decide)
    have l0 : ((0 : Int) < 9) = True := by simp
    have ha : rApp (u.map bc) [[sv ([90] ++ w), sv [97], A.sl 2 []]] = (u ++ [([90] ++ w, T.mk [97] [])]).map bc := by rw [List.map_append]; rfl
    obtain ⟨u', z1, z2⟩ := many_bind a3 s3 8 (by decide) (u ++ [([90] ++ w, T.mk [97] [])]) (by rw [List.length_append, List.length_singleton]; omega) ⟨by rw [List.length_append, List.length_singleton]; omega, fun p hp => by
      rcases List.mem_append.1 hp with h | h
      · exact hu.2 p h
      · rw [List.mem_singleton.1 h]; exact ⟨by show ([90] ++ w).length ≤ 1000; rw [List.length_append, List.length_singleton]; omega, by simp [tsz, tszL]⟩⟩
    have z2 : L14c0_1 (vi 1) (bts code) (vi a3) (vu s3) [] ((u ++ [([90] ++ w, T.mk [97] [])]).map bc) = some (.top, [bts code, vi a3, vu s3, sb u']) := z2
    have z3 : L14c0_0 (vi 0) (bts code) (vi a3) (vu s3) (u.map bc) [] = some (.top, [bts code, vi a3, vu s3, sb u']) := by
      rw [l14c0_0]
      simp -implicitDefEqProofs only [evs, Nat.reduceAdd, reduceIte, l0, k1, e4, sadd90 hw, hf, ha, z2]
    refine ⟨a3, s3, u', by omega, by omega, z1, ?_⟩
    simp -implicitDefEqProofs only [evs, Nat.reduceAdd, reduceIte, e1, List.getElem?_cons_zero, List.getElem?_cons_succ, hR_4, hR3, hz', e2, i1, i2, e3, c0, c1, c2, z3]
  by_cases c4 : y = 4
  · subst c4
    obtain ⟨a4, s4, d, w1, w2, d0, d1, e4⟩ := pick_eq hb 4 (by decide) (by decide) a3 s3 (by omega) (by omega)
    obtain ⟨k, hk⟩ : ∃ k : Nat, 5 + d = (k : Nat) := ⟨(5 + d).toNat, by omega⟩
    have k1 : ck (5 + d) = some (vi (k : Nat)) := by rw [hk]; exact ck_le (by omega) (by omega)
    obtain ⟨a5, s5, t5, b1, b2, b3, e5⟩ := tower_eq hb k (by omega) a4 s4 (by omega) (by omega)
    refine ⟨a5, s5, u.set i (u[i].1, t5), by omega, by omega, set_sz hu hp.1 (by omega), ?_⟩
    simp -implicitDefEqProofs only [evs, Nat.reduceAdd, reduceIte, e1, List.getElem?_cons_zero, List.getElem?_cons_succ, hR_4, hR3, hz', e2, i1, i2, e3, c0, c1, c2, c3, e4, k1, e5, g1, g2]
  · refine ⟨a3, s3, u.set i (u[i].1, u[i].2), by omega, by omega, set_sz hu hp.1 hp.2, ?_⟩
    simp -implicitDefEqProofs only [evs, Nat.reduceAdd, reduceIte, e1, List.getElem?_cons_zero, List.getElem?_cons_succ, hR_4, hR3, hz', e2, i1, i2, e3, c0, c1, c2, c3, c4, g1, g2]
theorem drawAS_eq : ∃ u t, Sz 1000 u ∧ G 6 [bts code] = some (.tup [sb u, tm t], []) := by
  obtain ⟨a1, s1, u, q1, q2, q3, e1⟩ := anySubst_eq hb 0 0 (by decide) (by decide)
  obtain ⟨a2, s2, b, r1, r2, e2⟩ := one_eq hb 10 (by decide) (by decide) a1 s1 (by omega) (by omega)
  rw [g6]
  cases b with
  | true =>
    obtain ⟨a3, s3, t3, v1, v2, v3, e3⟩ := grown_eq hb 3 (by decide) 3 (by decide) (by decide) a2 s2 (by omega) (by omega)
    obtain ⟨a4, s4, t4, w1, w2, w3, e4⟩ := grown_eq hb 3 (by decide) 3 (by decide) (by decide) a3 s3 (by omega) (by omega)
    obtain ⟨a5, s5, t5, z1, z2, z3, e5⟩ := tower_eq hb 4 (by decide) a4 s4 (by omega) (by omega)
    have e5 : C17_0 (vi 4) (bts code) (vi a4) (vu s4) = some (.top, [bts code, vi a5, vu s5, sv t5.name, tms t5.args]) := e5
    refine ⟨u, .mk [103] [.mk [103] [t3, t4], t5], q3, ?_⟩
    simp -implicitDefEqProofs only [evs, Nat.reduceAdd, reduceIte, e1, e2, e3, e4, e5, List.getElem?_cons_zero, List.getElem?_cons_succ, hR_4]
    rw [← tms2 t3 t4]
    show _ = some (A.tup [sb u, A.agg [sv [103], .sl 2 [tcells (.mk [103] [t3, t4]), tcells t5]]], [])
    rw [tcells_eq (.mk [103] [t3, t4]), tcells_eq t5]
    rfl
  | false =>
    obtain ⟨a3, s3, t3, v1, v2, v3, e3⟩ := expression_eq hb a2 s2 (by omega) (by omega)
    refine ⟨u, t3, q3, ?_⟩
    simp -implicitDefEqProofs only [evs, Nat.reduceAdd, reduceIte, e1, e2, e3, List.getElem?_cons_zero, List.getElem?_cons_succ, hR_4]
end
end Go.Proofs.YtbikhinddomhpaaGreat
