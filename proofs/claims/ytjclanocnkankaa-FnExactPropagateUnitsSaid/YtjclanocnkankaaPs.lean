/- WHAT THE LAWS ON PROPOSITIONAL CLAUSES SHARE: sizes, copies, marks, comparisons; FirstModel. -/
import Derived.Test.YtjclanocnkankaaPr
namespace Go.Proofs.Ytjclanocnkankaa
open Go Go.RowKit Go.Proofs.Ytjclanocnkankaa.Abs

set_option linter.unusedSimpArgs false
set_option linter.unusedVariables false
set_option maxHeartbeats 1000000

theorem sz_ints' (l : List Int) (hl : l.length ≤ 9223372036854775807) (left : Int) (h0 : 0 ≤ left) (h1 : left ≤ 1048576) : G 20 [ints l, vi left] = some (vi (left1 left ((l.length : Nat) : Int)), []) := by
  have hk := ck_sub h0 (Int.le_trans h1 (by decide)) hl
  rw [g20]
  simp -implicitDefEqProofs only [evs, Nat.reduceAdd, reduceIte, hk]
  by_cases hc : left - l.length < 0
  · simp -implicitDefEqProofs only [evs, Nat.reduceAdd, reduceIte, hc]
    rw [left1_neg (by omega)]
  · simp -implicitDefEqProofs only [evs, Nat.reduceAdd, reduceIte, hc]
    rw [left1_pos (by omega)]
def lensL : List (List Int) → Nat
  | [] => 0
  | c :: cs => c.length + lensL cs
theorem lensL_mem : ∀ {set : List (List Int)} {c : List Int}, c ∈ set → c.length ≤ lensL set
  | [], _, h => by cases h
  | d :: ds, c, h => by
    simp only [lensL]
    rcases List.mem_cons.1 h with rfl | h
    · omega
    · have := lensL_mem h; omega
theorem sz_intss (set : List (List Int)) (hl : set.length ≤ 9223372036854775807) (hs : ∀ c ∈ set, c.length ≤ 9223372036854775807) (left : Int) (h0 : 0 ≤ left) (h1 : left ≤ 1048576) : G 6 [intss set, vi left] = some (vi (left1 left ((set.length + lensL set : Nat) : Int)), []) := by
  have loop : ∀ (a : Int), 0 ≤ a → a ≤ 1048576 → L6_0 (intss set) (vi a) (vi 0) = some (vi (left1 a (lensL set)), []) := by
    have key := (upto (P := fun i => ∀ a : Int, 0 ≤ a → a ≤ 1048576 → L6_0 (intss set) (vi a) (vi i) = some (vi (left1 a (lensL (set.drop i))), [])) (n := set.length) ?_ ?_ 0 (Nat.zero_le _))
    · simp only [List.drop_zero, Int.natCast_zero] at key
      exact key
    · intro b hb hb'
      rw [l6_0, List.drop_length]
      simp -implicitDefEqProofs only [evs, Nat.reduceAdd, reduceIte, lensL]
      rw [left1_zero hb]
    · intro i hi ih' b hb hb'
      have e1 := sz_ints' set[i] (hs _ (List.getElem_mem _)) b hb hb'
      rw [l6_0, drop_cons hi]
      simp -implicitDefEqProofs only [evs, Nat.reduceAdd, reduceIte, hi, Int.ofNat_lt, pIndexAddr_map hi, e1, add_one hi hl, lensL]
      by_cases hc : b < (set[i].length : Nat)
      · rw [left1_neg hc, left1_neg (by omega)]
        rfl
      · have hp := left1_pos (Int.not_lt.1 hc)
        have ih' := ih' (left1 b (set[i].length : Nat)) (by omega) (by omega)
        have hn : ¬ left1 b ((set[i].length : Nat) : Int) < 0 := by omega
        simp -implicitDefEqProofs only [evs, Nat.reduceAdd, reduceIte, hn, ih']
        rw [left1_add (Int.not_lt.1 hc), ← Int.natCast_add]
  have hk := ck_sub h0 (Int.le_trans h1 (by decide)) hl
  rw [g6]
  simp -implicitDefEqProofs only [evs, Nat.reduceAdd, reduceIte, hk]
  by_cases hc : left - set.length < 0
  · simp -implicitDefEqProofs only [evs, Nat.reduceAdd, reduceIte, hc]
    rw [left1_neg (by omega)]
  · have hl := loop (left - set.length) (by omega) (by omega)
    simp -implicitDefEqProofs only [evs, Nat.reduceAdd, reduceIte, hc, hl]
    rw [left1_sub, ← Int.natCast_add]
theorem left1_sz' {l : Int} {n : Nat} (h0 : 0 ≤ l) (h1 : l ≤ 1048576) (h : ¬ left1 l ((n : Nat) : Int) < 0) : 0 ≤ left1 l ((n : Nat) : Int) ∧ left1 l ((n : Nat) : Int) ≤ 1048576 ∧ n ≤ 1048576 := by
  have := left1_le l n h0 (by omega)
  refine ⟨by omega, by omega, ?_⟩
  by_cases hn : (n : Int) ≤ l
  · omega
  · rw [left1_neg (by omega)] at h; omega

/-! ### Copies -/
theorem to_ints' (l : List Int) (hl : l.length ≤ 1048576) : C16_0 (ints l) = some (.top, [.sl 65 (l.map ci)]) := by
  have key := (upto (P := fun i => L16c0_0 (ints l) (vi i) (part ci [vi 0] l i) = some (.top, [.sl 65 (l.map ci)])) (n := l.length) ?_ ?_ 0 (Nat.zero_le _))
  · rw [c16_0]
    have hm := pMake_8 hl
    simp only [Int.natCast_zero, ← part_zero] at key
    simp -implicitDefEqProofs only [evs, Nat.reduceAdd, reduceIte, hm, key]
  · rw [l16c0_0, part_end]
    simp -implicitDefEqProofs only [evs, Nat.reduceAdd, reduceIte]
  · intro i hi ih
    have h1 := part_length (f := ci) (z := [vi 0]) (Nat.le_of_lt hi)
    have h2 : pIx (part ci [vi 0] l i).length (vi i) = some i := pIx_lt (by omega)
    have h4 := part_set (f := ci) (z := [vi 0]) hi
    have h5 := add_one hi (Nat.le_trans hl (by decide))
    rw [l16c0_0]
    simp -implicitDefEqProofs only [evs, Nat.reduceAdd, reduceIte, hi, Int.ofNat_lt, pIndexAddr_map hi, h2, part_get hi, cOver_1, h4, h5, ih, isVal_vi]
theorem pMake_24 {n : Nat} (hn : n ≤ 1048576) : pMake 24 (vi n) (vi n) = some n := by
  show (if _ then _ else _) = _
  rw [if_pos (show FitM 24 n n from ⟨by omega, Int.le_refl _, by omega, by omega⟩), Int.toNat_natCast]
theorem to_intss (set : List (List Int)) (hl : set.length ≤ 1048576) (hc : ∀ c ∈ set, c.length ≤ 1048576) : C8_0 (intss set) = some (.top, [.sl 65 (set.map cil)]) := by
  have key := (upto (P := fun i => L8c0_0 (intss set) (vi i) (part cil [.sl 1 []] set i) = some (.top, [.sl 65 (set.map cil)])) (n := set.length) ?_ ?_ 0 (Nat.zero_le _))
  · rw [c8_0]
    have hm := pMake_24 hl
    simp only [Int.natCast_zero, ← part_zero] at key
    simp -implicitDefEqProofs only [evs, Nat.reduceAdd, reduceIte, hm, key]
  · rw [l8c0_0, part_end]
    simp -implicitDefEqProofs only [evs, Nat.reduceAdd, reduceIte]
  · intro i hi ih
    have h1 := part_length (f := cil) (z := [.sl 1 []]) (Nat.le_of_lt hi)
    have h2 : pIx (part cil [.sl 1 []] set i).length (vi i) = some i := pIx_lt (by omega)
    have h4 := part_set (f := cil) (z := [.sl 1 []]) hi
    have h5 := add_one hi (Nat.le_trans hl (by decide))
    have e1 := to_ints' set[i] (hc _ (List.getElem_mem hi))
    rw [l8c0_0]
    simp -implicitDefEqProofs only [evs, Nat.reduceAdd, reduceIte, hi, Int.ofNat_lt, pIndexAddr_map hi, h2, part_get hi, cOver_1, h4, h5, ih, e1]

/-! ### Marks -/
def iota (k : Int) : Nat → List Int
  | 0 => []
  | n + 1 => k :: iota (k + 1) n
theorem iota_length : ∀ (k : Int) (n : Nat), (iota k n).length = n
  | _, 0 => rfl
  | k, n + 1 => by simp [iota, iota_length (k + 1) n]
section
variable {α : Type} {f : α → List A} (M r : List α) (x : α)
theorem mid_get : rGet ((M ++ x :: r).map f) M.length = some (f x) := by
  unfold rGet
  rw [List.getElem?_map, List.getElem?_append_right (Nat.le_refl _)]
  simp
theorem mid_set (y : α) : rSet ((M ++ x :: r).map f) M.length (f y) = ((M ++ [y]) ++ r).map f := by
  unfold rSet
  simp only [List.map_append, List.map_cons, List.append_assoc, List.cons_append]
  rw [List.set_append_right _ _ (by simp)]
  simp
theorem mid_ix : pIx ((M ++ x :: r).map f).length (vi (M.length : Nat)) = some M.length := pIx_lt (by simp)
theorem mid_addr {k : Nat} : pIndexAddr k (.sl k ((M ++ x :: r).map f)) (vi (M.length : Nat)) = some (.elt (f x) 0) := by
  rw [pIndexAddr_map (by simp)]
  simp
theorem mid_lt : ((M.length : Nat) : Int) < (((M ++ x :: r).length : Nat) : Int) := by simp only [List.length_append, List.length_cons]; omega
end
theorem markIntS_loop : ∀ (r M : List Int) (k : Int), 0 ≤ k → k + r.length ≤ 4194304 → (M ++ r).length ≤ 9223372036854775807 → L13c0_0 (vi k) (vi (M.length : Nat)) ((M ++ r).map ci) = some (.top, [vi (k + (r.length : Nat)), .sl 65 ((M ++ iota k r.length).map ci)])
  | [], M, k, h0, hk, hl => by
    rw [l13c0_0, List.append_nil]
    simp -implicitDefEqProofs only [evs, Nat.reduceAdd, reduceIte, iota, List.append_nil, Int.natCast_zero, Int.add_zero]
  | x :: r, M, k, h0, hk, hl => by
    have h1 : ((M.length : Nat) : Int) < (((M ++ x :: r).length : Nat) : Int) := mid_lt M r x
    have h2 := mid_ix (f := ci) M r x
    have h3 := mid_get (f := ci) M r x
    have h4 := mid_set (f := ci) M r x k
    have ht : tVals (ci x) 0 1 = true := rfl
    have e1 : ck (k + 1) = some (vi (k + 1)) := ck_le (by omega) (by simp only [List.length_cons] at hk; omega)
    have h5 := add_one (i := M.length) (n := (M ++ x :: r).length) (by simp) hl
    have ih := markIntS_loop r (M ++ [k]) (k + 1) (by omega) (by simp only [List.length_cons] at hk; omega) (by simp at hl ⊢; omega)
    have q : (M ++ [k]).length = M.length + 1 := by simp
    have q2 : M ++ [k] ++ iota (k + 1) r.length = M ++ iota k (r.length + 1) := by simp [iota]
    rw [q, q2, show k + 1 + ((r.length : Nat) : Int) = k + ((r.length + 1 : Nat) : Int) by omega] at ih
    generalize hN : (M ++ x :: r).length = N at *
    rw [List.length_map, hN] at h2
    rw [l13c0_0, List.length_cons]
    simp -implicitDefEqProofs only [evs, Nat.reduceAdd, reduceIte, hN, h1, h2, h3, ht, isVal_vi, cOver_1, h4, e1, h5, ih]
theorem markIntS_eq (l : List Int) (k : Int) (h0 : 0 ≤ k) (hk : k + l.length ≤ 4194304) : C13_0 (vi k) (l.map ci) = some (.top, [vi (k + (l.length : Nat)), .sl 65 ((iota k l.length).map ci)]) := by
  have := markIntS_loop l [] k h0 hk (by simp; omega)
  rw [c13_0]
  exact this
theorem isSlA_ints (l : List Int) : isSlA (ints l) = true := rfl
theorem markIntSS_loop : ∀ (r M : List (List Int)) (k : Int), 0 ≤ k → k + lensL r ≤ 4194304 → (M ++ r).length ≤ 9223372036854775807 → ∃ X, L12c0_0 (vi k) (vi (M.length : Nat)) ((M ++ r).map cil) = some (.top, [vi (k + (lensL r : Nat)), .sl 65 X])
  | [], M, k, h0, hk, hl => by
    refine ⟨M.map cil, ?_⟩
    rw [l12c0_0, List.append_nil]
    simp -implicitDefEqProofs only [evs, Nat.reduceAdd, reduceIte, lensL, Int.natCast_zero, Int.add_zero]
  | x :: r, M, k, h0, hk, hl => by
    have h1 : ((M.length : Nat) : Int) < (((M ++ x :: r).length : Nat) : Int) := mid_lt M r x
    have h2 := mid_ix (f := cil) M r x
    have h3 := mid_get (f := cil) M r x
    have h4 := mid_set (f := cil) M r x (iota k x.length)
    simp only [lensL] at hk
    have e1 := markIntS_eq x k h0 (by omega)
    have h5 := add_one (i := M.length) (n := (M ++ x :: r).length) (by simp) hl
    obtain ⟨X, ih⟩ := markIntSS_loop r (M ++ [iota k x.length]) (k + (x.length : Nat)) (by omega) (by omega) (by simp at hl ⊢; omega)
    have q : (M ++ [iota k x.length]).length = M.length + 1 := by simp
    rw [q, show k + ((x.length : Nat) : Int) + ((lensL r : Nat) : Int) = k + ((x.length + lensL r : Nat) : Int) by omega] at ih
    refine ⟨X, ?_⟩
    generalize hN : (M ++ x :: r).length = N at *
    rw [List.length_map, hN] at h2
    rw [l12c0_0]
    simp -implicitDefEqProofs only [evs, Nat.reduceAdd, reduceIte, hN, h1, h2, h3, isSlA_ints, e1, List.getElem?_cons_zero, cOver_1, h4, h5, ih, lensL]
theorem markIntSS_eq (set : List (List Int)) (k : Int) (h0 : 0 ≤ k) (hk : k + lensL set ≤ 4194304) (hl : set.length ≤ 9223372036854775807) : ∃ X, C12_0 (vi k) (set.map cil) = some (.top, [vi (k + (lensL set : Nat)), .sl 65 X]) := by
  obtain ⟨X, h⟩ := markIntSS_loop set [] k h0 hk (by simpa using hl)
  refine ⟨X, ?_⟩
  rw [c12_0]
  exact h
theorem heldIntS_loop : ∀ (n : Nat) (M : List Int) (k : Int), 0 ≤ k → k + n ≤ 4194304 → M.length + n ≤ 9223372036854775807 → L14_0 (ints (M ++ iota k n)) (vi k) (vi (M.length : Nat)) = some (vi (k + (n : Nat)), [])
  | 0, M, k, h0, hk, hl => by
    rw [l14_0]
    simp -implicitDefEqProofs only [evs, Nat.reduceAdd, reduceIte, iota, List.append_nil, Int.natCast_zero, Int.add_zero]
  | n + 1, M, k, h0, hk, hl => by
    rw [iota]
    have h1 : ((M.length : Nat) : Int) < (((M ++ k :: iota (k + 1) n).length : Nat) : Int) := mid_lt M _ k
    have h2 := mid_addr (f := ci) (k := 1) M (iota (k + 1) n) k
    have e1 : ck (k + 1) = some (vi (k + 1)) := ck_le (by omega) (by omega)
    have h5 := add_one (i := M.length) (n := (M ++ k :: iota (k + 1) n).length) (by simp) (by simp [iota_length]; omega)
    have ih := heldIntS_loop n (M ++ [k]) (k + 1) (by omega) (by omega) (by simp; omega)
    have q : (M ++ [k]).length = M.length + 1 := by simp
    rw [q, List.append_assoc, List.singleton_append, show k + 1 + ((n : Nat) : Int) = k + ((n + 1 : Nat) : Int) by omega] at ih
    rw [l14_0]
    simp -implicitDefEqProofs only [evs, Nat.reduceAdd, reduceIte, h1, h2, e1, h5, ih]
theorem heldIntS_eq (n : Nat) (k : Int) (h0 : 0 ≤ k) (hk : k + n ≤ 4194304) : G 14 [ints (iota k n), vi k] = some (vi (k + (n : Nat)), []) := by
  have := heldIntS_loop n [] k h0 hk (by simp; omega)
  rw [g14]
  exact this

/-! ### Comparisons -/
theorem eq_ints' (l : List Int) (hl : l.length ≤ 9223372036854775807) : G 10 [ints l, ints l] = some (vb true, []) := by
  have key := (upto (P := fun i => L10_0 (ints l) (ints l) (vi i) = some (vb true, [])) (n := l.length) ?_ ?_ 0 (Nat.zero_le _))
  · rw [g10]
    simp only [Int.natCast_zero] at key
    simp -implicitDefEqProofs only [evs, Nat.reduceAdd, reduceIte, key]
  · rw [l10_0]
    simp -implicitDefEqProofs only [evs, Nat.reduceAdd, reduceIte]
  · intro i hi ih
    have h5 := add_one hi hl
    rw [l10_0]
    simp -implicitDefEqProofs only [evs, Nat.reduceAdd, reduceIte, hi, Int.ofNat_lt, pIndexAddr_map hi, h5, ih]
theorem eq_intss (set : List (List Int)) (hl : set.length ≤ 9223372036854775807) (hc : ∀ c ∈ set, c.length ≤ 9223372036854775807) : G 11 [intss set, intss set] = some (vb true, []) := by
  have key := (upto (P := fun i => L11_0 (intss set) (intss set) (vi i) = some (vb true, [])) (n := set.length) ?_ ?_ 0 (Nat.zero_le _))
  · rw [g11]
    simp only [Int.natCast_zero] at key
    simp -implicitDefEqProofs only [evs, Nat.reduceAdd, reduceIte, key]
  · rw [l11_0]
    simp -implicitDefEqProofs only [evs, Nat.reduceAdd, reduceIte]
  · intro i hi ih
    have h5 := add_one hi hl
    have e1 := eq_ints' set[i] (hc _ (List.getElem_mem hi))
    rw [l11_0]
    simp -implicitDefEqProofs only [evs, Nat.reduceAdd, reduceIte, hi, Int.ofNat_lt, pIndexAddr_map hi, e1, h5, ih]

/-! ### FirstModel -/
theorem firstFrom_len {set : List (List Int)} {n : Nat} : ∀ {d k : Nat} {m : List Int}, firstFrom set n d k = some m → m.length = n
  | 0, _, _, h => by cases h
  | d + 1, k, m, h => by
    rw [firstFrom] at h
    split at h
    · cases h; rw [assignGo_length]; simp
    · exact firstFrom_len h
theorem firstR_shape (set : List (List Int)) : ∃ (f ok : Bool) (m : List Int), m.length ≤ 12 ∧ firstR set = [vb f, vb ok, ints m] := by
  unfold firstR
  cases h : isClauses set
  · exact ⟨false, false, [], by simp, rfl⟩
  · obtain ⟨g0, g1, _⟩ := greatest_bounds h
    cases hf : firstFrom set (greatestOf 0 set).toNat (2 ^ (greatestOf 0 set).toNat) 0 with
    | none => exact ⟨false, true, [], by simp, rfl⟩
    | some m => exact ⟨true, true, m, by have := firstFrom_len hf; omega, rfl⟩

theorem law_firstModel (set : List (List Int)) (hl : set.length ≤ 9223372036854775807) (hc : ∀ c ∈ set, c.length ≤ 9223372036854775807 ∧ ∀ x ∈ c, I64 x) : G 3 [intss set] = some (vb true, []) := by
  have e1 := sz_intss set hl (fun c h => (hc c h).1) 1048576 (by decide) (by decide)
  rw [g3]
  by_cases h1 : left1 1048576 ((set.length + lensL set : Nat) : Int) < 0
  · simp -implicitDefEqProofs only [evs, Nat.reduceAdd, reduceIte, e1, h1]
  obtain ⟨_, _, b3⟩ := left1_sz' (by decide) (by decide) h1
  have a1 := to_intss set (by omega) (fun c h => by have := lensL_mem h; omega)
  have a2 := spec_first set hl hc
  have a3 := impl_first set hl (fun c h => (hc c h).1)
  have a4 := eq_intss set hl (fun c h => (hc c h).1)
  obtain ⟨X, a5⟩ := markIntSS_eq set 1 (by decide) (by omega) hl
  obtain ⟨f, ok, m, hm, hR⟩ := firstR_shape set
  rw [hR] at a2 a3
  have a6 := eq_ints' m (by omega)
  have a7 := markIntS_eq m 1 (by decide) (by omega)
  have a8 := heldIntS_eq m.length 1 (by decide) (by omega)
  have n1 : ¬ (1 + ((lensL set : Nat) : Int)) < 0 := by omega
  have n2 : ¬ (1 + ((m.length : Nat) : Int)) < 0 := by omega
  simp -implicitDefEqProofs only [evs, Nat.reduceAdd, reduceIte, e1, h1, a1, a2, a3, flatA_vb, flatR_ints, List.getElem?_cons_zero, List.getElem?_cons_succ, a4, a5, a6, n1, valR_ints, a7, a8, n2]
end Go.Proofs.Ytjclanocnkankaa
