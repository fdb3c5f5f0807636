/- PROPOSITIONAL CLAUSES: what the program's and the reference's functions come to. -/
import Derived.Test.YtjclanocnkankaaPp
import Derived.Test.YtjclanocnkankaaQa
namespace Go.Proofs.Ytjclanocnkankaa
open Go Go.RowKit Go.Proofs.Ytjclanocnkankaa.Abs

set_option linter.unusedSimpArgs false
set_option linter.unusedVariables false
set_option maxHeartbeats 1000000

abbrev cil (c : List Int) : List A := [ints c]
abbrev intss (xss : List (List Int)) : A := .sl 1 (xss.map cil)

def wneg (x : Int) : Int := IntKind.i64.wrap (0 - x)
theorem pUn_neg (x : Int) : pUn .neg (vi x) = some (vi (wneg x)) := rfl
theorem wneg_of {x : Int} (h1 : -9223372036854775807 ≤ x) (h2 : x ≤ 9223372036854775807) : wneg x = -x := by
  unfold wneg
  rw [Int.zero_sub]
  exact wrap_I64 ⟨by omega, by omega⟩
theorem wneg_min : wneg (-9223372036854775808) = -9223372036854775808 := by decide
def ixP {α : Type} (p : α → Bool) (ts : List α) : Int := match ts.findIdx? p with | some i => (i : Nat) | none => -1
theorem ixP_any {α : Type} (p : α → Bool) (ts : List α) : decide (0 ≤ ixP p ts) = ts.any p := by
  unfold ixP
  cases h : ts.findIdx? p with
  | none =>
    rw [List.findIdx?_eq_none_iff] at h
    symm
    simpa using h
  | some i =>
    rw [List.findIdx?_eq_some_iff_getElem] at h
    obtain ⟨h1, h2, _⟩ := h
    have : ts.any p = true := List.any_eq_true.2 ⟨_, List.getElem_mem h1, h2⟩
    rw [this]
    dsimp only
    exact decide_eq_true (by omega)
theorem pFit_8 {n : Nat} (h : n ≤ 4194304) : pFit n 8 = true := by
  unfold pFit
  exact decide_eq_true ⟨by omega, by omega⟩
theorem flatR_ints (l : List Int) : flatR (l.map ci) = true := by
  unfold flatR
  simp [flatA]
theorem valR_ints (l : List Int) : valR (l.map ci) = true := by
  unfold valR
  rw [List.all_eq_true]
  intro a ha
  obtain ⟨x, hx, ha⟩ := List.mem_flatten.1 ha
  obtain ⟨n, _, rfl⟩ := List.mem_map.1 hx
  simp at ha
  subst ha
  rfl
theorem flatA_vb (b : Bool) : flatA (vb b) = true := rfl
theorem flatA_vi (n : Int) : flatA (vi n) = true := rfl
theorem isVal_vi (n : Int) : isVal (vi n) = true := rfl
theorem rApp_ci (a : List Int) (x : Int) : rApp (a.map ci) [[vi x]] = (a ++ [x]).map ci := by simp [rApp]
theorem rApp_ints (a b : List Int) : rApp (a.map ci) (b.map ci) = (a ++ b).map ci := by simp [rApp]
theorem pIx_ci {l : List Int} {i : Nat} (h : i < l.length) : pIx (l.map ci).length (vi (i : Nat)) = some i := pIx_lt (by simpa using h)
theorem pRowP_ci {l : List Int} {i : Nat} (h : i < l.length) : pRowP (l.map ci) i 0 = some (vi l[i]) := by
  unfold pRowP
  simp [h]

/-! ### Small parts -/
theorem within_eq (n a b : Int) : G 53 [vi n, vi a, vi b] = some (vb (decide (a ≤ n ∧ n ≤ b)), []) := by
  rw [g53]
  by_cases h1 : a ≤ n <;> simp -implicitDefEqProofs only [evs, Nat.reduceAdd, reduceIte, h1, true_and, false_and]
theorem l1In_eq (n a b : Int) : G 29 [vi n, vi a, vi b] = some (vb (decide (a ≤ n ∧ n ≤ b)), []) := by
  rw [g29]
  by_cases h1 : a ≤ n <;> simp -implicitDefEqProofs only [evs, Nat.reduceAdd, reduceIte, h1, true_and, false_and]
theorem absolute_eq (n : Int) (h1 : -9223372036854775807 ≤ n) (h2 : n ≤ 9223372036854775807) : G 50 [vi n] = some (vi (n.natAbs : Nat), []) := by
  rw [g50]
  have e := wneg_of h1 h2
  simp -implicitDefEqProofs only [evs, Nat.reduceAdd, reduceIte, pUn_neg, e]
  congr 5
  split <;> omega
def sAbs (n : Int) : Int := if n < 0 then wneg n else n
theorem sAbs_of {n : Int} (h1 : -9223372036854775807 ≤ n) (h2 : n ≤ 9223372036854775807) : sAbs n = (n.natAbs : Nat) := by
  unfold sAbs
  rw [wneg_of h1 h2]
  split <;> omega
theorem sAbs_big {n : Int} (h : I64 n) (hb : 12 < (n.natAbs : Int)) : ¬ (1 ≤ sAbs n ∧ sAbs n ≤ 12) := by
  unfold I64 at h
  by_cases hm : n = -9223372036854775808
  · subst hm
    unfold sAbs
    rw [wneg_min]
    decide
  · rw [sAbs_of (by omega) (by omega)]
    omega
theorem l15Abs_eq (n : Int) : G 47 [vi n] = some (vi (sAbs n), []) := by
  rw [g47]
  unfold sAbs
  by_cases h : n < 0 <;> simp -implicitDefEqProofs only [evs, Nat.reduceAdd, reduceIte, h, pUn_neg]

def prevA (c : List Int) : Nat → Int
  | 0 => 0
  | k + 1 => ((c.getD k 0).natAbs : Nat)

theorem isPropClause_eq (c : List Int) (hl : c.length ≤ 9223372036854775807) : G 31 [ints c] = some (vb (isPropC c), []) := by
  have key := upto (P := fun i => (∀ j (h : j < c.length), j < i → (c[j].natAbs : Int) ≤ 12) → L31_0 (ints c) (ints c) (vi (c.length : Nat)) (vi (i : Nat)) = some (vb (propFrom (prevA c i) (c.drop i)), [])) (n := c.length) ?_ ?_ 0 (Nat.zero_le _) (fun j _ h => by omega)
  · rw [g31]
    simp only [Int.natCast_zero, List.drop_zero] at key
    simp -implicitDefEqProofs only [evs, Nat.reduceAdd, reduceIte, key]
    rfl
  · intro _
    rw [l31_0, List.drop_length]
    simp -implicitDefEqProofs only [evs, Nat.reduceAdd, reduceIte, propFrom]
  · intro i hi ih hs
    have h5 := add_one hi hl
    have hlt : ((i : Nat) : Int) < ((c.length : Nat) : Int) := by omega
    have ew := within_eq c[i] (-12) 12
    rw [l31_0, drop_cons hi, propFrom]
    by_cases h0 : c[i] = 0
    · have hp : decide (prevA c i < ((c[i].natAbs : Nat) : Int)) = false := decide_eq_false (by rw [h0]; unfold prevA; split <;> simp)
      simp -implicitDefEqProofs only [evs, Nat.reduceAdd, reduceIte, hlt, pIndexAddr_map hi, h0, hp, Bool.false_and]
      simp
      intro h
      unfold prevA at h
      split at h <;> omega
    by_cases h1 : -12 ≤ c[i] ∧ c[i] ≤ 12
    · rw [decide_eq_true h1] at ew
      have ih := ih fun j hj hji => by
        by_cases hj' : j = i
        · subst hj'; omega
        · exact hs j hj (by omega)
      have hd : decide (((c[i].natAbs : Nat) : Int) ≤ 12) = true := decide_eq_true (by omega)
      have e2 := absolute_eq c[i] (by omega) (by omega)
      have hpv : prevA c (i + 1) = ((c[i].natAbs : Nat) : Int) := by simp [prevA, List.getD_eq_getElem?_getD, hi]
      rw [hpv] at ih
      cases i with
      | zero =>
        have hp : decide (prevA c 0 < ((c[0].natAbs : Nat) : Int)) = true := decide_eq_true (by simp only [prevA]; omega)
        simp only [Int.natCast_zero] at hlt h5 ⊢
        have p0 : pIndexAddr 1 (ints c) (vi 0) = some (.elt (ci c[0]) 0) := pIndexAddr_map hi
        simp -implicitDefEqProofs only [evs, Nat.reduceAdd, reduceIte, hlt, p0, h0, ew, hp, hd, h5, ih, Bool.true_and]
      | succ k =>
        have hk : k < c.length := by omega
        have hgt : (0 : Int) < ((k + 1 : Nat) : Int) := by omega
        have hsub : ck (((k + 1 : Nat) : Int) - 1) = some (vi (k : Nat)) := by rw [show ((k + 1 : Nat) : Int) - 1 = (k : Nat) by omega]; exact ck_le (by omega) (by omega)
        have hsk := hs k hk (by omega)
        have e3 := absolute_eq c[k] (by omega) (by omega)
        have hpk : prevA c (k + 1) = ((c[k].natAbs : Nat) : Int) := by simp [prevA, List.getD_eq_getElem?_getD, hk]
        rw [hpk]
        by_cases hc : ((c[k].natAbs : Nat) : Int) < ((c[k + 1].natAbs : Nat) : Int)
        · have hn : ¬ ((c[k + 1].natAbs : Nat) : Int) ≤ ((c[k].natAbs : Nat) : Int) := by omega
          simp -implicitDefEqProofs only [evs, Nat.reduceAdd, reduceIte, hlt, pIndexAddr_map hi, pIndexAddr_map hk, h0, ew, hgt, hsub, e2, e3, hc, hn, hd, h5, ih, Bool.true_and]
        · have hn : ((c[k + 1].natAbs : Nat) : Int) ≤ ((c[k].natAbs : Nat) : Int) := by omega
          simp -implicitDefEqProofs only [evs, Nat.reduceAdd, reduceIte, hlt, pIndexAddr_map hi, pIndexAddr_map hk, h0, ew, hgt, hsub, e2, e3, hc, hn, hd, Bool.false_and]
    · rw [decide_eq_false h1] at ew
      have hd : decide (((c[i].natAbs : Nat) : Int) ≤ 12) = false := decide_eq_false (by omega)
      simp -implicitDefEqProofs only [evs, Nat.reduceAdd, reduceIte, hlt, pIndexAddr_map hi, h0, ew, hd, Bool.and_false, Bool.false_and]

theorem l15Clause_eq (c : List Int) (hl : c.length ≤ 9223372036854775807) (hI : ∀ x ∈ c, I64 x) : G 28 [ints c] = some (vb (isPropC c), []) := by
  have key := upto (P := fun i => (∀ j (h : j < c.length), j < i → (c[j].natAbs : Int) ≤ 12) → L28_0 (ints c) (vi (i : Nat)) = some (vb (propFrom (prevA c i) (c.drop i)), [])) (n := c.length) ?_ ?_ 0 (Nat.zero_le _) (fun j _ h => by omega)
  · rw [g28]
    simp only [Int.natCast_zero, List.drop_zero] at key
    exact key
  · intro _
    rw [l28_0, List.drop_length]
    simp -implicitDefEqProofs only [evs, Nat.reduceAdd, reduceIte, propFrom]
  · intro i hi ih hs
    have h5 := add_one hi hl
    have hlt : ((i : Nat) : Int) < ((c.length : Nat) : Int) := by omega
    have ea := l15Abs_eq c[i]
    have ew := l1In_eq (sAbs c[i]) 1 12
    rw [l28_0, drop_cons hi, propFrom]
    by_cases h1 : 1 ≤ sAbs c[i] ∧ sAbs c[i] ≤ 12
    · rw [decide_eq_true h1] at ew
      have hsm : ((c[i].natAbs : Nat) : Int) ≤ 12 := Int.not_lt.1 fun h => sAbs_big (hI _ (List.getElem_mem hi)) h h1
      have hsa := sAbs_of (n := c[i]) (by omega) (by omega)
      have ih := ih fun j hj hji => by
        by_cases hj' : j = i
        · subst hj'; omega
        · exact hs j hj (by omega)
      have hd : decide (((c[i].natAbs : Nat) : Int) ≤ 12) = true := decide_eq_true (by omega)
      have hpv : prevA c (i + 1) = ((c[i].natAbs : Nat) : Int) := by simp [prevA, List.getD_eq_getElem?_getD, hi]
      rw [hpv] at ih
      cases i with
      | zero =>
        have hp : decide (prevA c 0 < ((c[0].natAbs : Nat) : Int)) = true := decide_eq_true (by simp only [prevA]; omega)
        have p0 : pIndexAddr 1 (ints c) (vi 0) = some (.elt (ci c[0]) 0) := pIndexAddr_map hi
        simp only [Int.natCast_zero] at hlt h5 ⊢
        simp -implicitDefEqProofs only [evs, Nat.reduceAdd, reduceIte, hlt, p0, ea, ew, hp, hd, h5, ih, Bool.true_and]
      | succ k =>
        have hk : k < c.length := by omega
        have hgt : (0 : Int) < ((k + 1 : Nat) : Int) := by omega
        have hsub : ck (((k + 1 : Nat) : Int) - 1) = some (vi (k : Nat)) := by rw [show ((k + 1 : Nat) : Int) - 1 = (k : Nat) by omega]; exact ck_le (by omega) (by omega)
        have hsk := hs k hk (by omega)
        have e3 := l15Abs_eq c[k]
        rw [sAbs_of (by omega) (by omega)] at e3
        rw [hsa] at ea ew
        have hpk : prevA c (k + 1) = ((c[k].natAbs : Nat) : Int) := by simp [prevA, List.getD_eq_getElem?_getD, hk]
        rw [hpk]
        by_cases hc : ((c[k].natAbs : Nat) : Int) < ((c[k + 1].natAbs : Nat) : Int)
        · have hn : ¬ ((c[k + 1].natAbs : Nat) : Int) ≤ ((c[k].natAbs : Nat) : Int) := by omega
          simp -implicitDefEqProofs only [evs, Nat.reduceAdd, reduceIte, hlt, pIndexAddr_map hi, pIndexAddr_map hk, ea, ew, hgt, hsub, e3, hc, hn, hd, h5, ih, Bool.true_and]
        · have hn : ((c[k + 1].natAbs : Nat) : Int) ≤ ((c[k].natAbs : Nat) : Int) := by omega
          simp -implicitDefEqProofs only [evs, Nat.reduceAdd, reduceIte, hlt, pIndexAddr_map hi, pIndexAddr_map hk, ea, ew, hgt, hsub, e3, hc, hn, hd, Bool.false_and]
    · rw [decide_eq_false h1] at ew
      have hf : (decide (prevA c i < ((c[i].natAbs : Nat) : Int)) && decide (((c[i].natAbs : Nat) : Int) ≤ 12)) = false := by
        by_cases hb : ((c[i].natAbs : Nat) : Int) ≤ 12
        · rw [sAbs_of (by omega) (by omega)] at h1
          rw [decide_eq_false (by unfold prevA; split <;> omega), Bool.false_and]
        · rw [decide_eq_false hb, Bool.and_false]
      simp -implicitDefEqProofs only [evs, Nat.reduceAdd, reduceIte, hlt, pIndexAddr_map hi, ea, ew, hf, Bool.false_and]
end Go.Proofs.Ytjclanocnkankaa
