/- PropagateUnits of both sides, and its law. -/
import Derived.Test.YtjclanocnkankaaPt
namespace Go.Proofs.Ytjclanocnkankaa
open Go Go.RowKit Go.Proofs.Ytjclanocnkankaa.Abs

set_option linter.unusedSimpArgs false
set_option linter.unusedVariables false
set_option maxHeartbeats 1000000

theorem unit_eq (c out : List Int) (hc : Sm c) (hl : c.length ≤ 1048576) (ho : out.length ≤ 9223372036854775807) : G 42 [ints c, .elt [ints out] 0] = some (vb (unitB out c), []) := by
  have e1 := isSatisfied_eq c out hc.1 ho
  have e2 := openLiterals_eq c out hc hl ho
  rw [g42, unitB]
  cases h : sat out c <;> rw [h] at e1
  · have e3 : decide ((((openL out c).length : Nat) : Int) ≤ 1) = decide ((openL out c).length ≤ 1) := decide_eq_decide.2 (by omega)
    simp -implicitDefEqProofs only [evs, Nat.reduceAdd, reduceIte, e1, e2, flatR_ints, e3, Bool.true_and]
  · simp -implicitDefEqProofs only [evs, Nat.reduceAdd, reduceIte, e1, Bool.false_and]

theorem fin_tup2 (a b : Int) : fin true (.tup [vi a, vi b], []) = some (.tup [vi a, vi b]) := rfl
theorem put_puts {out : List Int} (h : incr out) (x : Int) : puts [] (out ++ [x]) = put out x := by
  have e : puts [] out = out := by
    have := puts_self (acc := []) (l := out) (by simpa using h)
    simpa using this
  show (out ++ [x]).foldl put [] = _
  rw [List.foldl_append]
  show put (puts [] out) x = _
  rw [e]
theorem put_valid {out : List Int} (h : isPropC out = true) {x : Int} (h1 : 1 ≤ (x.natAbs : Int)) (h2 : (x.natAbs : Int) ≤ 12) (h3 : ∀ y ∈ out, y.natAbs ≠ x.natAbs) : isPropC (put out x) = true := put_prop h (by omega) h2 h3

theorem pu_len (set : List (List Int)) : ∀ (n : Nat) (out : List Int), (pu set n out).1.length ≤ out.length + n
  | 0, out => by
    rw [pu]
    split
    · exact Nat.le_refl _
    · split <;> first | exact Nat.le_refl _ | rename_i h; cases h
  | n + 1, out => by
    rw [pu]
    split
    · dsimp only; omega
    · split
      · dsimp only; omega
      · rename_i h; cases h
      · rename_i x _ m _ h
        cases h
        have := pu_len set n (put out x)
        rw [put_length] at this
        omega

theorem impl_loop {set : List (List Int)} (hv : isClauses set = true) (hl : set.length ≤ 9223372036854775807) : ∀ (n : Nat) (out : List Int), isPropC out = true → 12 ≤ out.length + n →
    L19c0_0 (intss set) (out.map ci) = some (.top, [vi (pu set n out).2, vb true, ints (pu set n out).1]) := by
  have hcv : ∀ c ∈ set, isPropC c = true := by
    unfold isClauses at hv
    rw [Bool.and_eq_true, List.all_eq_true] at hv
    exact hv.2
  have hcl : ∀ c ∈ set, c.length ≤ 12 := fun c hc => propC_len (hcv c hc)
  have hsm : ∀ c ∈ set, Sm c := sm_of_valid hv fun c hc => by have := hcl c hc; omega
  have step : ∀ (out : List Int), isPropC out = true → L19c0_0 (intss set) (out.map ci) = (match set.findIdx? (unitB out) with
      | none => some (.top, [vi (-1), vb true, ints out])
      | some i => match openL out (set.getD i []) with
        | [] => some (.top, [vi (i : Nat), vb true, ints out])
        | x :: _ => L19c0_0 (intss set) ((put out x).map ci)) := by
    intro out ho
    have hol := propC_len ho
    have e1 := indexFuncL (f := 42) (caps := [.elt [ints out] 0]) rfl (unitB out) set hl (fun c hc => unit_eq c out (hsm c hc) (by have := hcl c hc; omega) (by omega))
    unfold ixP at e1
    rw [l19c0_0]
    cases hf : set.findIdx? (unitB out) with
    | none =>
      rw [hf] at e1
      simp -implicitDefEqProofs only [evs, Nat.reduceAdd, reduceIte, e1]
    | some i =>
      rw [hf] at e1
      obtain ⟨hi, hg, hu⟩ := getD_mem hf
      dsimp only
      rw [hg]
      have hm := List.getElem_mem hi
      have e2 := openLiterals_eq set[i] out (hsm _ hm) (by have := hcl _ hm; omega) (by omega)
      have h0 : ¬ ((i : Nat) : Int) < 0 := by omega
      dsimp only at e1 ⊢
      cases hop : openL out set[i] with
      | nil =>
        rw [hop] at e2
        simp -implicitDefEqProofs only [evs, Nat.reduceAdd, reduceIte, e1, h0, pIndexAddr_map hi, e2, flatR_ints, Int.natCast_zero]
      | cons x l =>
        rw [hop] at e2
        obtain ⟨x1, x2, x3⟩ := open_new (fun y hy => propC_pos (hcv _ hm) y hy) hu hop
        have hne : ¬ ((l.length + 1 : Nat) : Int) = 0 := by omega
        have p0 : pIx (l.length + 1) (vi 0) = some 0 := pIx_lt (i := 0) (by omega)
        have p1 : pRowP ((x :: l).map ci) 0 0 = some (vi x) := rfl
        have hf8 : pFit (out.length + 1) 8 = true := pFit_8 (by omega)
        have hpv := put_valid ho x1 x2 x3
        have hpl := propC_len hpv
        rw [put_length] at hpl
        have e3 := sortFunc_eq (out ++ [x]) (by simp; omega) (fun y hy => by
          rcases List.mem_append.1 hy with hy | hy
          · exact (propC_pos ho y hy).2
          · simp at hy; subst hy; exact x2) (diffv_snoc.2 ⟨incr_diffv (propFrom_incr ho), x3⟩)
        rw [put_puts (propFrom_incr ho)] at e3
        simp -implicitDefEqProofs only [evs, Nat.reduceAdd, reduceIte, e1, h0, pIndexAddr_map hi, e2, flatR_ints, hne, p0, p1, hf8, rApp_ci, e3]
  intro n
  induction n with
  | zero =>
    intro out ho hn
    have hst := step out ho
    rw [hst, pu]
    cases hf : set.findIdx? (unitB out) with
    | none => rfl
    | some i =>
      obtain ⟨hi, hg, hu⟩ := getD_mem hf
      dsimp only
      rw [hg]
      cases hop : openL out set[i] with
      | nil => rfl
      | cons x l =>
        exfalso
        obtain ⟨x1, x2, x3⟩ := open_new (fun y hy => propC_pos (hcv _ (List.getElem_mem hi)) y hy) hu hop
        have hpl := propC_len (put_valid ho x1 x2 x3)
        rw [put_length] at hpl
        omega
  | succ n ih =>
    intro out ho hn
    have hst := step out ho
    rw [hst, pu]
    cases hf : set.findIdx? (unitB out) with
    | none => rfl
    | some i =>
      obtain ⟨hi, hg, hu⟩ := getD_mem hf
      dsimp only
      rw [hg]
      cases hop : openL out set[i] with
      | nil => rfl
      | cons x l =>
        obtain ⟨x1, x2, x3⟩ := open_new (fun y hy => propC_pos (hcv _ (List.getElem_mem hi)) y hy) hu hop
        exact ih (put out x) (put_valid ho x1 x2 x3) (by rw [put_length]; omega)

theorem spec_loop {set : List (List Int)} (hv : isClauses set = true) (hl : set.length ≤ 9223372036854775807) : ∀ (n : Nat) (out : List Int), isPropC out = true → 12 ≤ out.length + n →
    L18c0_0 (intss set) (out.map ci) = some (.top, [vi (pu set n out).2, vb true, ints (pu set n out).1]) := by
  have hcv : ∀ c ∈ set, isPropC c = true := by
    unfold isClauses at hv
    rw [Bool.and_eq_true, List.all_eq_true] at hv
    exact hv.2
  have hcl : ∀ c ∈ set, c.length ≤ 12 := fun c hc => propC_len (hcv c hc)
  have hsm : ∀ c ∈ set, Sm c := sm_of_valid hv fun c hc => by have := hcl c hc; omega
  have leave : ∀ (out : List Int), isPropC out = true → ∀ (x : Int) (k : Nat), x ≠ 0 → (x.natAbs : Int) ≤ 12 → L18c0_1 (intss set) (vi x) (vi (k : Nat)) (out.map ci) = L18c0_0 (intss set) ((put out x).map ci) := by
    intro out ho x k hx hs
    have e1 := l15Put_eq out x (by have := propC_len ho; omega) (fun y hy => (propC_pos ho y hy).2) hs
    rw [l18c0_1]
    by_cases hk : ((k : Nat) : Int) < ((set.length : Nat) : Int)
    · simp -implicitDefEqProofs only [evs, Nat.reduceAdd, reduceIte, hk, hx, e1, flatR_ints]
    · simp -implicitDefEqProofs only [evs, Nat.reduceAdd, reduceIte, hk, hx, e1, flatR_ints]
  have step : ∀ (out : List Int), isPropC out = true → L18c0_0 (intss set) (out.map ci) = (match set.findIdx? (unitB out) with
      | none => some (.top, [vi (-1), vb true, ints out])
      | some i => match openL out (set.getD i []) with
        | [] => some (.top, [vi (i : Nat), vb true, ints out])
        | x :: _ => L18c0_0 (intss set) ((put out x).map ci)) := by
    intro out ho
    have hol := propC_len ho
    have key := upto (P := fun i => L18c0_1 (intss set) (vi 0) (vi (i : Nat)) (out.map ci) = (match (set.drop i).findIdx? (unitB out) with
      | none => some (.top, [vi (-1), vb true, ints out])
      | some j => match openL out (set.getD (i + j) []) with
        | [] => some (.top, [vi ((i + j : Nat) : Int), vb true, ints out])
        | x :: _ => L18c0_0 (intss set) ((put out x).map ci))) (n := set.length) ?_ ?_ 0 (Nat.zero_le _)
    · rw [l18c0_0]
      simpa only [Int.natCast_zero, List.drop_zero, Nat.zero_add] using key
    · rw [l18c0_1, List.drop_length]
      simp -implicitDefEqProofs only [evs, Nat.reduceAdd, reduceIte, List.findIdx?_nil]
    · intro i hi ih
      have hm := List.getElem_mem hi
      have hlt : ((i : Nat) : Int) < ((set.length : Nat) : Int) := by omega
      have h5 := add_one hi hl
      have e1 := l15Status_eq set[i] out (hsm _ hm) (by omega)
      rw [status_open out set[i] 0 0 (Int.le_refl _)] at e1
      have hgd : set.getD (i + 0) [] = set[i] := by simp [List.getD_eq_getElem?_getD, hi]
      rw [l18c0_1, drop_cons hi, List.findIdx?_cons]
      have next : unitB out set[i] = false → L18c0_1 (intss set) (vi 0) (vi ((i + 1 : Nat) : Int)) (out.map ci) = (match (if unitB out set[i] = true then some 0 else ((set.drop (i + 1)).findIdx? (unitB out)).map (· + 1)) with
        | none => some (.top, [vi (-1), vb true, ints out])
        | some j => match openL out (set.getD (i + j) []) with
          | [] => some (.top, [vi ((i + j : Nat) : Int), vb true, ints out])
          | x :: _ => L18c0_0 (intss set) ((put out x).map ci)) := by
        intro hu
        rw [hu, if_neg Bool.false_ne_true, ih]
        cases (set.drop (i + 1)).findIdx? (unitB out) with
        | none => rfl
        | some j =>
          simp only [Option.map_some]
          rw [show i + 1 + j = i + (j + 1) by omega]
      cases hs : sat out set[i] with
      | true =>
        rw [hs, if_pos rfl] at e1
        have hu : unitB out set[i] = false := by simp [unitB, hs]
        rw [← next hu]
        simp -implicitDefEqProofs only [evs, Nat.reduceAdd, reduceIte, hlt, pIndexAddr_map hi, e1, fin_tup2, h5]
        rfl
      | false =>
        rw [hs, if_neg Bool.false_ne_true, Int.zero_add] at e1
        cases hop : openL out set[i] with
        | nil =>
          rw [hop] at e1
          have hu : unitB out set[i] = true := by simp [unitB, hs, hop]
          rw [hu, if_pos rfl]
          dsimp only
          rw [hgd, hop]
          simp -implicitDefEqProofs only [evs, Nat.reduceAdd, reduceIte, hlt, pIndexAddr_map hi, e1, fin_tup2, Int.natCast_zero, Nat.add_zero]
        | cons x l =>
          have hne : ¬ ((l.length + 1 : Nat) : Int) = 0 := by omega
          cases l with
          | nil =>
            rw [hop] at e1
            have hu : unitB out set[i] = true := by simp [unitB, hs, hop]
            obtain ⟨x1, x2, x3⟩ := open_new (fun y hy => propC_pos (hcv _ hm) y hy) hu hop
            rw [hu, if_pos rfl]
            dsimp only
            rw [hgd, hop]
            dsimp only
            rw [← leave out ho x (i + 1) (by omega) x2]
            have e1' : G 38 [ints set[i], ints out] = some (.tup [vi 1, vi x], []) := e1
            simp -implicitDefEqProofs only [evs, Nat.reduceAdd, reduceIte, hlt, pIndexAddr_map hi, e1', fin_tup2, h5]
            rfl
          | cons y l =>
            rw [hop] at e1
            have hu : unitB out set[i] = false := by simp [unitB, hs, hop]
            have h2 : ¬ (((x :: y :: l).length : Nat) : Int) = 0 := by simp only [List.length_cons]; omega
            have h3 : ¬ (((x :: y :: l).length : Nat) : Int) = 1 := by simp only [List.length_cons]; omega
            rw [← next hu]
            generalize (x :: y :: l).getLastD 0 = o at e1
            generalize (((x :: y :: l).length : Nat) : Int) = z at *
            simp -implicitDefEqProofs only [evs, Nat.reduceAdd, reduceIte, hlt, pIndexAddr_map hi, e1, fin_tup2, h2, h3, h5]
  intro n
  induction n with
  | zero =>
    intro out ho hn
    have hst := step out ho
    rw [hst, pu]
    cases hf : set.findIdx? (unitB out) with
    | none => rfl
    | some i =>
      obtain ⟨hi, hg, hu⟩ := getD_mem hf
      dsimp only
      rw [hg]
      cases hop : openL out set[i] with
      | nil => rfl
      | cons x l =>
        exfalso
        obtain ⟨x1, x2, x3⟩ := open_new (fun y hy => propC_pos (hcv _ (List.getElem_mem hi)) y hy) hu hop
        have hpl := propC_len (put_valid ho x1 x2 x3)
        rw [put_length] at hpl
        omega
  | succ n ih =>
    intro out ho hn
    have hst := step out ho
    rw [hst, pu]
    cases hf : set.findIdx? (unitB out) with
    | none => rfl
    | some i =>
      obtain ⟨hi, hg, hu⟩ := getD_mem hf
      dsimp only
      rw [hg]
      cases hop : openL out set[i] with
      | nil => rfl
      | cons x l =>
        obtain ⟨x1, x2, x3⟩ := open_new (fun y hy => propC_pos (hcv _ (List.getElem_mem hi)) y hy) hu hop
        exact ih (put out x) (put_valid ho x1 x2 x3) (by rw [put_length]; omega)

def puR (set : List (List Int)) (a : List Int) : List A := if isClauses set && isPropC a then [vi (pu set 12 a).2, vb true, ints (pu set 12 a).1] else [vi 0, vb false, .sl 1 []]
theorem impl_pu (set : List (List Int)) (a : List Int) (hl : set.length ≤ 9223372036854775807) (hc : ∀ c ∈ set, c.length ≤ 9223372036854775807) (ha : a.length ≤ 9223372036854775807) : C19_0 (intss set) (ints a) = some (.top, puR set a) := by
  have e1 := isValidClauses_eq set hl hc
  have e2 := isPropClause_eq a ha
  rw [c19_0, puR]
  cases h1 : isClauses set <;> rw [h1] at e1
  · simp -implicitDefEqProofs only [evs, Nat.reduceAdd, reduceIte, e1, Bool.false_and]
  cases h2 : isPropC a <;> rw [h2] at e2
  · simp -implicitDefEqProofs only [evs, Nat.reduceAdd, reduceIte, e1, e2, Bool.and_false]
  have e3 := clone_ints a (by have := propC_len h2; omega)
  have e4 := impl_loop h1 hl 12 a h2 (by omega)
  simp -implicitDefEqProofs only [evs, Nat.reduceAdd, reduceIte, e1, e2, e3, e4]
theorem spec_pu (set : List (List Int)) (a : List Int) (hl : set.length ≤ 9223372036854775807) (hc : ∀ c ∈ set, c.length ≤ 9223372036854775807 ∧ ∀ x ∈ c, I64 x) (ha : a.length ≤ 9223372036854775807 ∧ ∀ x ∈ a, I64 x) : C18_0 (intss set) (ints a) = some (.top, puR set a) := by
  have e1 := l15Set_eq set hl hc
  have e2 := l15Clause_eq a ha.1 ha.2
  rw [c18_0, puR]
  cases h1 : isClauses set <;> rw [h1] at e1
  · simp -implicitDefEqProofs only [evs, Nat.reduceAdd, reduceIte, e1, Bool.false_and]
  cases h2 : isPropC a <;> rw [h2] at e2
  · simp -implicitDefEqProofs only [evs, Nat.reduceAdd, reduceIte, e1, e2, Bool.and_false]
  have e3 := l1Own_eq a (by have := propC_len h2; omega)
  have e4 := spec_loop h1 hl 12 a h2 (by omega)
  simp -implicitDefEqProofs only [evs, Nat.reduceAdd, reduceIte, e1, e2, e3, e4]
theorem puR_shape (set : List (List Int)) (a : List Int) : ∃ (z : Int) (ok : Bool) (m : List Int), m.length ≤ 24 ∧ puR set a = [vi z, vb ok, ints m] := by
  unfold puR
  cases h : (isClauses set && isPropC a)
  · exact ⟨0, false, [], by simp, rfl⟩
  · rw [Bool.and_eq_true] at h
    have := propC_len h.2
    exact ⟨_, true, _, by have := pu_len set 12 a; omega, rfl⟩

theorem law_propagateUnits (set : List (List Int)) (a : List Int) (hl : set.length ≤ 9223372036854775807) (hc : ∀ c ∈ set, c.length ≤ 9223372036854775807 ∧ ∀ x ∈ c, I64 x) (ha : (∀ x ∈ a, I64 x) ∧ a.length ≤ 9223372036854775807) : G 5 [intss set, ints a] = some (vb true, []) := by
  have e1 := sz_intss set hl (fun c h => (hc c h).1) 1048576 (by decide) (by decide)
  rw [g5]
  by_cases h0 : (1048576 : Int) < ((a.length : Nat) : Int)
  · simp -implicitDefEqProofs only [evs, Nat.reduceAdd, reduceIte, h0]
  by_cases h1 : left1 1048576 ((set.length + lensL set : Nat) : Int) < 0
  · simp -implicitDefEqProofs only [evs, Nat.reduceAdd, reduceIte, h0, e1, h1]
  obtain ⟨_, _, b3⟩ := left1_sz' (by decide) (by decide) h1
  have a1 := to_intss set (by omega) (fun c h => by have := lensL_mem h; omega)
  have a1' := to_ints' a (by omega)
  have a2 := spec_pu set a hl hc ⟨ha.2, ha.1⟩
  have a3 := impl_pu set a hl (fun c h => (hc c h).1) ha.2
  have a4 := eq_intss set hl (fun c h => (hc c h).1)
  have a4' := eq_ints' a ha.2
  obtain ⟨X, a5⟩ := markIntSS_eq set 1 (by decide) (by omega) hl
  have a5' := markIntS_eq a (1 + (lensL set : Nat)) (by omega) (by omega)
  obtain ⟨z, ok, m, hm, hR⟩ := puR_shape set a
  rw [hR] at a2 a3
  have a6 := eq_ints' m (by omega)
  have a7 := markIntS_eq m 1 (by decide) (by omega)
  have a8 := heldIntS_eq m.length 1 (by decide) (by omega)
  have n1 : ¬ (1 + ((lensL set : Nat) : Int) + ((a.length : Nat) : Int)) < 0 := by omega
  have n2 : ¬ (1 + ((m.length : Nat) : Int)) < 0 := by omega
  simp -implicitDefEqProofs only [evs, Nat.reduceAdd, reduceIte, h0, e1, h1, a1, a1', a2, a3, flatA_vb, flatA_vi, flatR_ints, List.getElem?_cons_zero, List.getElem?_cons_succ, a4, a4', a5, a5', a6, n1, valR_ints, a7, a8, n2]
end Go.Proofs.Ytjclanocnkankaa
