/- ResolveOn of both sides, and its law. -/
import Derived.Test.YtjclanocnkankaaPt
namespace Go.Proofs.Ytjclanocnkankaa
open Go Go.RowKit Go.Proofs.Ytjclanocnkankaa.Abs

set_option linter.unusedSimpArgs false
set_option linter.unusedVariables false
set_option maxHeartbeats 1000000

theorem isPropVariable_eq (v : Int) : G 32 [vi v] = some (vb (decide (1 ≤ v ∧ v ≤ 12)), []) := by
  have e1 := within_eq v 1 12
  rw [g32]
  simp -implicitDefEqProofs only [evs, Nat.reduceAdd, reduceIte, e1]

def resO : Option (List Int) → List A
  | some r => [vb true, ints (puts [] r)]
  | none => [vb false, .sl 1 []]
theorem gather_loop (v : Int) (hv : (v.natAbs : Int) ≤ 12) (L : List Int) (hL : ∀ x ∈ L, 1 ≤ (x.natAbs : Int) ∧ (x.natAbs : Int) ≤ 12) (hl : L.length ≤ 1048576) : ∀ (rest pre out : List Int), L = pre ++ rest → diffv out → (∀ x ∈ out, 1 ≤ (x.natAbs : Int) ∧ (x.natAbs : Int) ≤ 12) →
    L17c0_1 (vi v) (vi (L.length : Nat)) (vi (pre.length : Nat)) (out.map ci) (L.map ci) = some (.top, resO (gather v rest out))
  | [], pre, out, hp, hd, hs => by
    have h : ¬ ((pre.length : Nat) : Int) < ((L.length : Nat) : Int) := by rw [hp]; simp
    have e1 := sortFunc_eq out (diffv_len hd hs) (fun x hx => (hs x hx).2) hd
    rw [l17c0_1, gather]
    simp -implicitDefEqProofs only [evs, Nat.reduceAdd, reduceIte, h, e1, resO]
  | x :: rest, pre, out, hp, hd, hs => by
    have hx := hL x (by rw [hp]; simp)
    have h1 : ((pre.length : Nat) : Int) < ((L.length : Nat) : Int) := by rw [hp]; exact mid_lt pre rest x
    have h2 : pIx L.length (vi (pre.length : Nat)) = some pre.length := by rw [hp, ← List.length_map (f := ci)]; exact mid_ix (f := ci) pre rest x
    have h3 : pRowP (L.map ci) pre.length 0 = some (vi x) := by
      have := mid_get (f := ci) pre rest x
      unfold rGet at this
      unfold pRowP
      rw [hp, this]; rfl
    have h5 := add_one (i := pre.length) (n := L.length) (by omega) (by omega)
    have ol := diffv_len hd hs
    have c1 := contains_eq out x (by omega)
    have c2 := contains_eq out (-x) (by omega)
    have n1 := wneg_of (x := v) (by omega) (by omega)
    have n2 := wneg_of (x := x) (by omega) (by omega)
    have hf : pFit (out.length + 1) 8 = true := pFit_8 (by omega)
    have ih := fun o => gather_loop v hv L hL hl rest (pre ++ [x]) o (by rw [hp]; simp)
    have q : (pre ++ [x]).length = pre.length + 1 := by simp
    rw [q] at ih
    rw [l17c0_1, gather]
    by_cases a1 : x = v
    · have a1' : (x = v) = True := eq_true a1
      rw [if_pos (Or.inl a1)]
      simp -implicitDefEqProofs only [evs, Nat.reduceAdd, reduceIte, h1, h2, h3, a1', h5, ih out hd hs]
    by_cases a2 : x = -v
    · have a2' : (x = -v) = True := eq_true a2
      rw [if_pos (Or.inr (Or.inl a2))]
      simp -implicitDefEqProofs only [evs, Nat.reduceAdd, reduceIte, h1, h2, h3, a1, pUn_neg, n1, a2', h5, ih out hd hs]
    by_cases a3 : x ∈ out
    · have a3' : hasI out x = true := hasI_iff.2 a3
      rw [if_pos (Or.inr (Or.inr a3))]
      simp -implicitDefEqProofs only [evs, Nat.reduceAdd, reduceIte, h1, h2, h3, a1, pUn_neg, n1, a2, c1, a3', h5, ih out hd hs]
    have a3' : hasI out x = false := by rw [← Bool.not_eq_true, hasI_iff]; exact a3
    rw [if_neg (fun h => h.elim a1 fun h => h.elim a2 a3)]
    by_cases a4 : -x ∈ out
    · have a4' : hasI out (-x) = true := hasI_iff.2 a4
      rw [if_pos a4]
      simp -implicitDefEqProofs only [evs, Nat.reduceAdd, reduceIte, h1, h2, h3, a1, pUn_neg, n1, a2, c1, a3', n2, c2, a4', resO]
    · have a4' : hasI out (-x) = false := by rw [← Bool.not_eq_true, hasI_iff]; exact a4
      rw [if_neg a4]
      have hd' : diffv (out ++ [x]) := diffv_snoc.2 ⟨hd, fun c hc e => by
        rcases Int.natAbs_eq_natAbs_iff.1 e with e | e
        · subst e; exact a3 hc
        · subst e; exact a4 hc⟩
      have hs' : ∀ y ∈ out ++ [x], 1 ≤ (y.natAbs : Int) ∧ (y.natAbs : Int) ≤ 12 := fun y hy => by
        rcases List.mem_append.1 hy with hy | hy
        · exact hs y hy
        · simp at hy; subst hy; exact hx
      simp -implicitDefEqProofs only [evs, Nat.reduceAdd, reduceIte, h1, h2, h3, a1, pUn_neg, n1, a2, c1, a3', n2, c2, a4', hf, rApp_ci, h5, ih (out ++ [x]) hd' hs']

def resV (a b : List Int) (v : Int) : Bool := isPropC a && isPropC b && decide (1 ≤ v ∧ v ≤ 12) && hasI a v && hasI b (-v)
def resR (a b : List Int) (v : Int) : List A := if resV a b v then resO (gather v (a ++ b) []) else [vb false, .sl 1 []]

theorem impl_resolve (a b : List Int) (v : Int) (ha : a.length ≤ 9223372036854775807) (hb : b.length ≤ 9223372036854775807) : C17_0 (ints a) (ints b) (vi v) = some (.top, resR a b v) := by
  have e1 := isPropClause_eq a ha
  have e2 := isPropClause_eq b hb
  have e3 := isPropVariable_eq v
  have e4 := contains_eq a v ha
  have e5 := contains_eq b (-v) hb
  rw [c17_0, resR, resV]
  cases h1 : isPropC a <;> rw [h1] at e1
  · simp -implicitDefEqProofs only [evs, Nat.reduceAdd, reduceIte, e1, Bool.false_and]
  cases h2 : isPropC b <;> rw [h2] at e2
  · simp -implicitDefEqProofs only [evs, Nat.reduceAdd, reduceIte, e1, e2, Bool.false_and, Bool.and_false]
  by_cases h3 : 1 ≤ v ∧ v ≤ 12
  · rw [decide_eq_true h3] at e3
    have n1 := wneg_of (x := v) (by omega) (by omega)
    rw [decide_eq_true h3]
    cases h4 : hasI a v <;> rw [h4] at e4
    · simp -implicitDefEqProofs only [evs, Nat.reduceAdd, reduceIte, e1, e2, e3, e4, Bool.false_and, Bool.and_false]
    cases h5 : hasI b (-v) <;> rw [h5] at e5
    · simp -implicitDefEqProofs only [evs, Nat.reduceAdd, reduceIte, e1, e2, e3, e4, pUn_neg, n1, e5, Bool.false_and, Bool.and_false]
    have la := propC_len h1
    have lb := propC_len h2
    have e6 := concatI_eq a b (by omega)
    have e7 := gather_loop v (by omega) (a ++ b) (fun x hx => by
      rcases List.mem_append.1 hx with hx | hx
      · exact propC_pos h1 x hx
      · exact propC_pos h2 x hx) (by simp; omega) (a ++ b) [] [] rfl trivial (fun x hx => by cases hx)
    have e8 : ∀ x0 x1 x2 r0 r1, L17c0_0 x0 x1 x2 r0 r1 = L17c0_1 x0 x1 x2 r1 r0 := fun x0 x1 x2 r0 r1 => by
      rw [l17c0_0, l17c0_1]
    simp only [List.length_nil, Int.natCast_zero, List.map_nil] at e7
    simp -implicitDefEqProofs only [evs, Nat.reduceAdd, reduceIte, e1, e2, e3, e4, pUn_neg, n1, e5, e6, e8, e7]
  · rw [decide_eq_false h3] at e3
    rw [decide_eq_false h3]
    simp -implicitDefEqProofs only [evs, Nat.reduceAdd, reduceIte, e1, e2, e3, Bool.false_and, Bool.and_false]

/-! ### The reference -/
theorem filter_loop (a b : List Int) (v : Int) (ha : a.length ≤ 1048576) : ∀ (rest pre out : List Int), a = pre ++ rest → out.length ≤ pre.length →
    L30c0_0 (ints a) (ints b) (vi v) (vi (pre.length : Nat)) (out.map ci) = L30c0_1 (ints b) (vi v) (vi 0) ((out ++ rest.filter fun x => decide (x ≠ v)).map ci)
  | [], pre, out, hp, hl => by
    have h : ¬ ((pre.length : Nat) : Int) < ((a.length : Nat) : Int) := by rw [hp]; simp
    rw [l30c0_0]
    simp -implicitDefEqProofs only [evs, Nat.reduceAdd, reduceIte, h, List.filter_nil, List.append_nil]
  | x :: rest, pre, out, hp, hl => by
    have h1 : ((pre.length : Nat) : Int) < ((a.length : Nat) : Int) := by rw [hp]; exact mid_lt pre rest x
    have h2 : pIndexAddr 1 (ints a) (vi (pre.length : Nat)) = some (.elt (ci x) 0) := by rw [hp]; exact mid_addr (f := ci) pre rest x
    have h5 := add_one (i := pre.length) (n := a.length) (by omega) (by omega)
    have hal : pre.length < a.length := by omega
    have hf : pFit (out.length + 1) 8 = true := pFit_8 (by omega)
    have q : (pre ++ [x]).length = pre.length + 1 := by simp
    rw [l30c0_0, List.filter_cons]
    by_cases hx : x = v
    · have ih := filter_loop a b v ha rest (pre ++ [x]) out (by rw [hp]; simp) (by simp; omega)
      rw [q] at ih
      have hx' : (x = v) = True := eq_true hx
      simp -implicitDefEqProofs only [evs, Nat.reduceAdd, reduceIte, h1, h2, hx', h5, ih, ne_eq, not_true_eq_false]
    · have ih := filter_loop a b v ha rest (pre ++ [x]) (out ++ [x]) (by rw [hp]; simp) (by simp; omega)
      rw [q, List.append_assoc, List.singleton_append] at ih
      simp -implicitDefEqProofs only [evs, Nat.reduceAdd, reduceIte, h1, h2, hx, hf, rApp_ci, h5, ih, ne_eq, not_false_eq_true]
def mrgO : Option (List Int) → List A
  | some r => [vb true, ints r]
  | none => [vb false, .sl 1 []]
theorem merge_loop (b : List Int) (v : Int) (hv : (v.natAbs : Int) ≤ 12) (hb : ∀ x ∈ b, (x.natAbs : Int) ≤ 12) (hl : b.length ≤ 1048) : ∀ (rest pre out : List Int), b = pre ++ rest → (∀ x ∈ out, (x.natAbs : Int) ≤ 12) → out.length + rest.length ≤ 100000 →
    L30c0_1 (ints b) (vi v) (vi (pre.length : Nat)) (out.map ci) = some (.top, mrgO (merge v rest out))
  | [], pre, out, hp, hs, hol => by
    have h : ¬ ((pre.length : Nat) : Int) < ((b.length : Nat) : Int) := by rw [hp]; simp
    rw [l30c0_1, merge]
    simp -implicitDefEqProofs only [evs, Nat.reduceAdd, reduceIte, h, mrgO]
  | x :: rest, pre, out, hp, hs, hol => by
    have hx := hb x (by rw [hp]; simp)
    simp only [List.length_cons] at hol
    have h1 : ((pre.length : Nat) : Int) < ((b.length : Nat) : Int) := by rw [hp]; exact mid_lt pre rest x
    have h2 : pIndexAddr 1 (ints b) (vi (pre.length : Nat)) = some (.elt (ci x) 0) := by rw [hp]; exact mid_addr (f := ci) pre rest x
    have h5 := add_one (i := pre.length) (n := b.length) (by omega) (by omega)
    have n1 := wneg_of (x := v) (by omega) (by omega)
    have n2 := wneg_of (x := x) (by omega) (by omega)
    have c1 := l1Has_eq out x (by omega)
    have c2 := l1Has_eq out (-x) (by omega)
    have ih := fun o => merge_loop b v hv hb hl rest (pre ++ [x]) o (by rw [hp]; simp)
    have q : (pre ++ [x]).length = pre.length + 1 := by simp
    rw [q] at ih
    rw [l30c0_1, merge]
    by_cases a1 : x = -v
    · have a1' : (x = -v) = True := eq_true a1
      rw [if_pos (Or.inl a1)]
      simp -implicitDefEqProofs only [evs, Nat.reduceAdd, reduceIte, h1, h2, pUn_neg, n1, a1', h5, ih out hs (by omega)]
    by_cases a3 : x ∈ out
    · have a3' : hasI out x = true := hasI_iff.2 a3
      rw [if_pos (Or.inr a3)]
      simp -implicitDefEqProofs only [evs, Nat.reduceAdd, reduceIte, h1, h2, pUn_neg, n1, a1, c1, a3', h5, ih out hs (by omega)]
    have a3' : hasI out x = false := by rw [← Bool.not_eq_true, hasI_iff]; exact a3
    rw [if_neg (fun h => h.elim a1 a3)]
    by_cases a4 : -x ∈ out
    · have a4' : hasI out (-x) = true := hasI_iff.2 a4
      rw [if_pos a4]
      simp -implicitDefEqProofs only [evs, Nat.reduceAdd, reduceIte, h1, h2, pUn_neg, n1, a1, c1, a3', n2, c2, a4', mrgO]
    · have a4' : hasI out (-x) = false := by rw [← Bool.not_eq_true, hasI_iff]; exact a4
      rw [if_neg a4]
      have e1 := l15Put_eq out x (by omega) hs hx
      have hs' : ∀ y ∈ put out x, (y.natAbs : Int) ≤ 12 := fun y hy => by
        rcases put_mem.1 hy with hy | rfl
        · exact hs y hy
        · exact hx
      simp -implicitDefEqProofs only [evs, Nat.reduceAdd, reduceIte, h1, h2, pUn_neg, n1, a1, c1, a3', n2, c2, a4', e1, flatR_ints, h5, ih (put out x) hs' (by rw [put_length]; omega)]

theorem spec_resolve (a b : List Int) (v : Int) (ha : a.length ≤ 9223372036854775807 ∧ ∀ x ∈ a, I64 x) (hb : b.length ≤ 9223372036854775807 ∧ ∀ x ∈ b, I64 x) : C15_0 (ints a) (ints b) (vi v) = some (.top, resR a b v) := by
  have e1 := l15Clause_eq a ha.1 ha.2
  have e2 := l15Clause_eq b hb.1 hb.2
  have e3 := l1In_eq v 1 12
  have e4 := l1Has_eq a v ha.1
  have e5 := l1Has_eq b (-v) hb.1
  rw [c15_0, resR, resV]
  cases h1 : isPropC a <;> rw [h1] at e1
  · simp -implicitDefEqProofs only [evs, Nat.reduceAdd, reduceIte, e1, Bool.false_and]
  cases h2 : isPropC b <;> rw [h2] at e2
  · simp -implicitDefEqProofs only [evs, Nat.reduceAdd, reduceIte, e1, e2, Bool.false_and, Bool.and_false]
  by_cases h3 : 1 ≤ v ∧ v ≤ 12
  · rw [decide_eq_true h3] at e3
    have n1 := wneg_of (x := v) (by omega) (by omega)
    rw [decide_eq_true h3]
    have core : C30_0 (ints a) (ints b) (vi v) = some (.top, if (hasI a v && hasI b (-v)) = true then resO (gather v (a ++ b) []) else [vb false, .sl 1 []]) := by
      rw [c30_0]
      cases h4 : hasI a v <;> rw [h4] at e4
      · simp -implicitDefEqProofs only [evs, Nat.reduceAdd, reduceIte, e4, Bool.false_and]
      cases h5 : hasI b (-v) <;> rw [h5] at e5
      · simp -implicitDefEqProofs only [evs, Nat.reduceAdd, reduceIte, e4, pUn_neg, n1, e5, Bool.and_false]
      have la := propC_len h1
      have lb := propC_len h2
      have hva := hasI_iff.1 h4
      have hvb := hasI_iff.1 h5
      have na : ∀ x ∈ a, x ≠ -v := fun x hx e => by
        have := propFrom_one h1 v hva x hx (by rw [e]; simp)
        omega
      have nb : ∀ x ∈ b, x ≠ v := fun x hx e => by
        have := propFrom_one h2 (-v) hvb x hx (by rw [e]; simp)
        omega
      have g1 := gather_first (v := v) (l := a) (acc := []) (by simpa using propFrom_incr h1) na
      rw [List.nil_append] at g1
      have hff : incr (a.filter fun x => decide (x ≠ v)) := propFrom_incr (propFrom_filter _ h1)
      have g2 : puts [] (a.filter fun x => decide (x ≠ v)) = a.filter fun x => decide (x ≠ v) := by
        have := puts_self (acc := []) (l := a.filter fun x => decide (x ≠ v)) (by simpa using hff)
        simpa using this
      have g3 := merge_gather (v := v) (l := b) (out := a.filter fun x => decide (x ≠ v)) nb
      rw [g2] at g3
      have hlf : (a.filter fun x => decide (x ≠ v)).length ≤ a.length := List.length_filter_le _ _
      have m1 := filter_loop a b v (by omega) a [] [] rfl (Nat.le_refl _)
      have m2 := merge_loop b v (by omega) (fun x hx => (propC_pos h2 x hx).2) (by omega) b [] (a.filter fun x => decide (x ≠ v)) rfl (fun x hx => (propC_pos h1 x (List.mem_filter.1 hx).1).2) (by omega)
      rw [g3] at m2
      simp only [List.length_nil, Int.natCast_zero, List.map_nil, List.nil_append] at m1 m2
      rw [m2] at m1
      have hg : mrgO ((gather v b (a.filter fun x => decide (x ≠ v))).map (puts [])) = resO (gather v (a ++ b) []) := by
        rw [gather_app, g1, Option.bind_some]
        cases gather v b (a.filter fun x => decide (x ≠ v)) <;> rfl
      rw [hg] at m1
      simp -implicitDefEqProofs only [evs, Nat.reduceAdd, reduceIte, e4, pUn_neg, n1, e5, m1]
    have sh : ∀ o, ∃ (f : Bool) (r : List Int), resO o = [vb f, ints r] := fun o => by
      cases o with
      | none => exact ⟨false, [], rfl⟩
      | some r => exact ⟨true, puts [] r, rfl⟩
    cases h45 : (hasI a v && hasI b (-v)) <;> rw [h45] at core
    · simp only [Bool.false_eq_true, if_false] at core
      rw [Bool.and_assoc, h45]
      simp -implicitDefEqProofs only [evs, Nat.reduceAdd, reduceIte, e1, e2, e3, core, List.getElem?_cons_zero, Bool.true_and]
    · simp only [if_true] at core
      rw [Bool.and_assoc, h45]
      obtain ⟨f, r, hfr⟩ := sh (gather v (a ++ b) [])
      rw [hfr] at core ⊢
      simp -implicitDefEqProofs only [evs, Nat.reduceAdd, reduceIte, e1, e2, e3, core, List.getElem?_cons_zero, Bool.true_and]
  · rw [decide_eq_false h3] at e3
    rw [decide_eq_false h3]
    simp -implicitDefEqProofs only [evs, Nat.reduceAdd, reduceIte, e1, e2, e3, Bool.false_and, Bool.and_false]

theorem resR_shape (a b : List Int) (v : Int) : ∃ (f : Bool) (m : List Int), m.length ≤ 12 ∧ resR a b v = [vb f, ints m] := by
  unfold resR
  cases h : resV a b v
  · exact ⟨false, [], by simp, rfl⟩
  · unfold resV at h
    simp only [Bool.and_eq_true] at h
    cases hg : gather v (a ++ b) [] with
    | none => exact ⟨false, [], by simp, rfl⟩
    | some r =>
      refine ⟨true, puts [] r, ?_, rfl⟩
      rw [puts_length]
      have := diffv_len (gather_diffv hg trivial) fun x hx => by
        rcases gather_mem hg x hx with hx | hx
        · cases hx
        · rcases List.mem_append.1 hx with hx | hx
          · exact propC_pos h.1.1.1.1 x hx
          · exact propC_pos h.1.1.1.2 x hx
      simpa using this

theorem law_resolveOn (a b : List Int) (v : Int) (ha : (∀ x ∈ a, I64 x) ∧ a.length ≤ 9223372036854775807) (hb : (∀ x ∈ b, I64 x) ∧ b.length ≤ 9223372036854775807) : G 4 [ints a, ints b, vi v] = some (vb true, []) := by
  have bound : ∀ n : Nat, pBin .shl false (vi 1) (vi 20) = some (vi 1048576) := fun _ => by
    have := pBin_shl1 20 (by decide)
    exact this
  rw [g4]
  by_cases h1 : (1048576 : Int) < ((a.length : Nat) : Int)
  · simp -implicitDefEqProofs only [evs, Nat.reduceAdd, reduceIte, h1]
  by_cases h2 : (1048576 : Int) < ((b.length : Nat) : Int)
  · simp -implicitDefEqProofs only [evs, Nat.reduceAdd, reduceIte, h1, h2]
  have a1 := to_ints' a (by omega)
  have a1' := to_ints' b (by omega)
  have a2 := spec_resolve a b v ⟨ha.2, ha.1⟩ ⟨hb.2, hb.1⟩
  have a3 := impl_resolve a b v ha.2 hb.2
  have a4 := eq_ints' a ha.2
  have a4' := eq_ints' b hb.2
  have a5 := markIntS_eq a 1 (by decide) (by omega)
  have a5' := markIntS_eq b (1 + (a.length : Nat)) (by omega) (by omega)
  obtain ⟨f, m, hm, hR⟩ := resR_shape a b v
  rw [hR] at a2 a3
  have a6 := eq_ints' m (by omega)
  have a7 := markIntS_eq m 1 (by decide) (by omega)
  have a8 := heldIntS_eq m.length 1 (by decide) (by omega)
  have n1 : ¬ (1 + ((a.length : Nat) : Int) + ((b.length : Nat) : Int)) < 0 := by omega
  have n2 : ¬ (1 + ((m.length : Nat) : Int)) < 0 := by omega
  simp -implicitDefEqProofs only [evs, Nat.reduceAdd, reduceIte, h1, h2, a1, a1', a2, a3, flatA_vb, flatR_ints, List.getElem?_cons_zero, List.getElem?_cons_succ, a4, a4', a5, a5', a6, n1, valR_ints, a7, a8, n2]
end Go.Proofs.Ytjclanocnkankaa
