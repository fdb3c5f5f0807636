/- PROPOSITIONAL CLAUSE SETS: searches, models; FirstModel of both sides. -/
import Derived.Test.YtjclanocnkankaaPq
import Derived.Test.YtjclanocnkankaaLg
namespace Go.Proofs.Ytjclanocnkankaa
open Go Go.RowKit Go.Proofs.Ytjclanocnkankaa.Abs

set_option linter.unusedSimpArgs false
set_option linter.unusedVariables false
set_option maxHeartbeats 1000000

/-! ### Searches -/
theorem indexFuncI {f : FuncId} {caps : List A} (hsig : K.pureF f = true) (p : Int → Bool) (ts : List Int) (hl : ts.length ≤ 9223372036854775807) (h : ∀ t ∈ ts, G f (vi t :: caps) = some (vb (p t), [])) :
    G 74 [ints ts, .fn f caps] = some (vi (ixP p ts), []) := by
  have key := upto (P := fun i => L74_0 (ints ts) (.fn f caps) (vi (ts.length : Nat)) (vi i) = some (vi (match (ts.drop i).findIdx? p with | some j => ((i + j : Nat) : Int) | none => -1), [])) (n := ts.length) ?_ ?_ 0 (Nat.zero_le _)
  · simp only [Int.natCast_zero, List.drop_zero, Nat.zero_add] at key
    rw [g74]
    simp -implicitDefEqProofs only [evs, Nat.reduceAdd, reduceIte, key, ixP]
    rfl
  · rw [l74_0]
    simp -implicitDefEqProofs only [evs, Nat.reduceAdd, reduceIte, List.drop_length, List.findIdx?_nil]
  · intro i hi ih
    have hlt : (i : Int) < ((ts.length : Nat) : Int) := by omega
    have h5 := add_one hi hl
    have e1 := h ts[i] (List.getElem_mem _)
    rw [l74_0, drop_cons hi, List.findIdx?_cons]
    cases hp : p ts[i] <;> rw [hp] at e1
    · simp -implicitDefEqProofs only [evs, Nat.reduceAdd, reduceIte, hlt, pIndexAddr_map hi, callc_fn hsig, List.cons_append, List.nil_append, e1, h5, ih]
      cases hq : (ts.drop (i + 1)).findIdx? p with
      | none => rfl
      | some j =>
        simp only [Option.map_some]
        rw [show i + 1 + j = i + (j + 1) by omega]
    · simp -implicitDefEqProofs only [evs, Nat.reduceAdd, reduceIte, hlt, pIndexAddr_map hi, callc_fn hsig, List.cons_append, List.nil_append, e1]
      rfl
theorem indexFuncL {f : FuncId} {caps : List A} (hsig : K.pureF f = true) (p : List Int → Bool) (ts : List (List Int)) (hl : ts.length ≤ 9223372036854775807) (h : ∀ t ∈ ts, G f (ints t :: caps) = some (vb (p t), [])) :
    G 41 [intss ts, .fn f caps] = some (vi (ixP p ts), []) := by
  have key := upto (P := fun i => L41_0 (intss ts) (.fn f caps) (vi (ts.length : Nat)) (vi i) = some (vi (match (ts.drop i).findIdx? p with | some j => ((i + j : Nat) : Int) | none => -1), [])) (n := ts.length) ?_ ?_ 0 (Nat.zero_le _)
  · simp only [Int.natCast_zero, List.drop_zero, Nat.zero_add] at key
    rw [g41]
    simp -implicitDefEqProofs only [evs, Nat.reduceAdd, reduceIte, key, ixP]
    rfl
  · rw [l41_0]
    simp -implicitDefEqProofs only [evs, Nat.reduceAdd, reduceIte, List.drop_length, List.findIdx?_nil]
  · intro i hi ih
    have hlt : (i : Int) < ((ts.length : Nat) : Int) := by omega
    have h5 := add_one hi hl
    have e1 := h ts[i] (List.getElem_mem _)
    rw [l41_0, drop_cons hi, List.findIdx?_cons]
    cases hp : p ts[i] <;> rw [hp] at e1
    · simp -implicitDefEqProofs only [evs, Nat.reduceAdd, reduceIte, hlt, pIndexAddr_map hi, callc_fn hsig, List.cons_append, List.nil_append, e1, h5, ih]
      cases hq : (ts.drop (i + 1)).findIdx? p with
      | none => rfl
      | some j =>
        simp only [Option.map_some]
        rw [show i + 1 + j = i + (j + 1) by omega]
    · simp -implicitDefEqProofs only [evs, Nat.reduceAdd, reduceIte, hlt, pIndexAddr_map hi, callc_fn hsig, List.cons_append, List.nil_append, e1]
      rfl
theorem containsFuncI {f : FuncId} {caps : List A} (hsig : K.pureF f = true) (p : Int → Bool) (ts : List Int) (hl : ts.length ≤ 9223372036854775807) (h : ∀ t ∈ ts, G f (vi t :: caps) = some (vb (p t), [])) :
    G 59 [ints ts, .fn f caps] = some (vb (ts.any p), []) := by
  have e1 := indexFuncI hsig p ts hl h
  rw [g59]
  simp -implicitDefEqProofs only [evs, Nat.reduceAdd, reduceIte, e1, ixP_any]
theorem containsFuncL {f : FuncId} {caps : List A} (hsig : K.pureF f = true) (p : List Int → Bool) (ts : List (List Int)) (hl : ts.length ≤ 9223372036854775807) (h : ∀ t ∈ ts, G f (ints t :: caps) = some (vb (p t), [])) :
    G 48 [intss ts, .fn f caps] = some (vb (ts.any p), []) := by
  have e1 := indexFuncL hsig p ts hl h
  rw [g48]
  simp -implicitDefEqProofs only [evs, Nat.reduceAdd, reduceIte, e1, ixP_any]
theorem contains_eq (l : List Int) (v : Int) (hl : l.length ≤ 9223372036854775807) : G 33 [ints l, vi v] = some (vb (hasI l v), []) := by
  have key := upto (P := fun i => L54_0 (ints l) (vi v) (vi (l.length : Nat)) (vi i) = some (vi (match (l.drop i).findIdx? (fun x => decide (v = x)) with | some j => ((i + j : Nat) : Int) | none => -1), [])) (n := l.length) ?_ ?_ 0 (Nat.zero_le _)
  · simp only [Int.natCast_zero, List.drop_zero, Nat.zero_add] at key
    have e1 : G 54 [ints l, vi v] = some (vi (ixP (fun x => decide (v = x)) l), []) := by
      rw [g54]
      simp -implicitDefEqProofs only [evs, Nat.reduceAdd, reduceIte, key, ixP]
      rfl
    rw [g33]
    have e2 : (l.any fun x => decide (v = x)) = hasI l v := by
      rw [Bool.eq_iff_iff, List.any_eq_true, hasI_iff]
      simp
    simp -implicitDefEqProofs only [evs, Nat.reduceAdd, reduceIte, e1, ixP_any, e2]
  · rw [l54_0]
    simp -implicitDefEqProofs only [evs, Nat.reduceAdd, reduceIte, List.drop_length, List.findIdx?_nil]
  · intro i hi ih
    have hlt : (i : Int) < ((l.length : Nat) : Int) := by omega
    have h5 := add_one hi hl
    rw [l54_0, drop_cons hi, List.findIdx?_cons]
    by_cases hv : v = l[i]
    · rw [decide_eq_true hv]
      have hv' : (v = l[i]) = True := eq_true hv
      simp -implicitDefEqProofs only [evs, Nat.reduceAdd, reduceIte, hlt, pIndexAddr_map hi, hv']
      rfl
    · rw [decide_eq_false hv]
      simp -implicitDefEqProofs only [evs, Nat.reduceAdd, reduceIte, hlt, pIndexAddr_map hi, hv, h5, ih]
      cases hq : (l.drop (i + 1)).findIdx? (fun x => decide (v = x)) with
      | none => rfl
      | some j =>
        simp only [Option.map_some]
        rw [show i + 1 + j = i + (j + 1) by omega]
theorem l1Has_eq (l : List Int) (v : Int) (hl : l.length ≤ 9223372036854775807) : G 52 [ints l, vi v] = some (vb (hasI l v), []) := by
  have key := upto (P := fun i => L52_0 (ints l) (vi v) (vi i) = some (vb (hasI (l.drop i) v), [])) (n := l.length) ?_ ?_ 0 (Nat.zero_le _)
  · rw [g52]
    simpa only [Int.natCast_zero, List.drop_zero] using key
  · rw [l52_0, List.drop_length]
    simp -implicitDefEqProofs only [evs, Nat.reduceAdd, reduceIte]
    rfl
  · intro i hi ih
    have hlt : (i : Int) < ((l.length : Nat) : Int) := by omega
    have h5 := add_one hi hl
    have e : hasI (l.drop i) v = (decide (l[i] = v) || hasI (l.drop (i + 1)) v) := by
      rw [drop_cons hi, Bool.eq_iff_iff, hasI_iff, Bool.or_eq_true, hasI_iff, List.mem_cons, decide_eq_true_iff]
      exact or_congr ⟨Eq.symm, Eq.symm⟩ Iff.rfl
    rw [l52_0, e]
    by_cases hv : l[i] = v
    · simp -implicitDefEqProofs only [evs, Nat.reduceAdd, reduceIte, hlt, pIndexAddr_map hi, hv, Bool.true_or]
    · simp -implicitDefEqProofs only [evs, Nat.reduceAdd, reduceIte, hlt, pIndexAddr_map hi, hv, h5, ih, Bool.false_or]

/-! ### Valid sets -/
theorem notClause_eq (c : List Int) (hl : c.length ≤ 9223372036854775807) : G 49 [ints c] = some (vb (!isPropC c), []) := by
  have e1 := isPropClause_eq c hl
  rw [g49]
  simp -implicitDefEqProofs only [evs, Nat.reduceAdd, reduceIte, e1]
theorem any_not {α : Type} (p : α → Bool) : ∀ l : List α, (!l.any fun x => !p x) = l.all p
  | [] => rfl
  | x :: l => by simp [any_not p l]
theorem isValidClauses_eq (set : List (List Int)) (hl : set.length ≤ 9223372036854775807) (hc : ∀ c ∈ set, c.length ≤ 9223372036854775807) : G 24 [intss set] = some (vb (isClauses set), []) := by
  have e1 := containsFuncL (f := 49) (caps := []) rfl (fun c => !isPropC c) set hl (fun c h => notClause_eq c (hc c h))
  have e2 := any_not isPropC set
  rw [g24, isClauses]
  by_cases h : set.length ≤ 40
  · have h' : ((set.length : Nat) : Int) ≤ 40 := by omega
    rw [decide_eq_true h, Bool.true_and, ← e2]
    simp -implicitDefEqProofs only [evs, Nat.reduceAdd, reduceIte, h', e1]
  · have h' : ¬ ((set.length : Nat) : Int) ≤ 40 := by omega
    rw [decide_eq_false h, Bool.false_and]
    simp -implicitDefEqProofs only [evs, Nat.reduceAdd, reduceIte, h']
theorem l15Set_eq (set : List (List Int)) (hl : set.length ≤ 9223372036854775807) (hc : ∀ c ∈ set, c.length ≤ 9223372036854775807 ∧ ∀ x ∈ c, I64 x) : G 21 [intss set] = some (vb (isClauses set), []) := by
  have key := upto (P := fun i => L21_0 (intss set) (vi i) = some (vb (decide (set.length ≤ 40) && (set.drop i).all isPropC), [])) (n := set.length) ?_ ?_ 0 (Nat.zero_le _)
  · rw [g21]
    simp only [Int.natCast_zero, List.drop_zero] at key
    exact key
  · rw [l21_0, List.drop_length]
    simp -implicitDefEqProofs only [evs, Nat.reduceAdd, reduceIte, Bool.and_true]
    by_cases h : set.length ≤ 40
    · have h' : ((set.length : Nat) : Int) ≤ 40 := by omega
      simp -implicitDefEqProofs only [evs, Nat.reduceAdd, reduceIte, h, h']
    · have h' : ¬ ((set.length : Nat) : Int) ≤ 40 := by omega
      simp -implicitDefEqProofs only [evs, Nat.reduceAdd, reduceIte, h, h']
  · intro i hi ih
    have hlt : (i : Int) < ((set.length : Nat) : Int) := by omega
    have h5 := add_one hi hl
    have e1 := l15Clause_eq set[i] (hc _ (List.getElem_mem hi)).1 (hc _ (List.getElem_mem hi)).2
    rw [l21_0, drop_cons hi]
    by_cases h40 : (i : Int) ≤ 40
    · cases hp : isPropC set[i] <;> rw [hp] at e1
      · simp -implicitDefEqProofs only [evs, Nat.reduceAdd, reduceIte, hlt, h40, pIndexAddr_map hi, e1, hp, Bool.false_and, Bool.and_false]
      · simp -implicitDefEqProofs only [evs, Nat.reduceAdd, reduceIte, hlt, h40, pIndexAddr_map hi, e1, hp, Bool.true_and, h5, ih]
    · have h' : ¬ ((set.length : Nat) : Int) ≤ 40 := by omega
      have h'' : decide (set.length ≤ 40) = false := decide_eq_false (by omega)
      simp -implicitDefEqProofs only [evs, Nat.reduceAdd, reduceIte, hlt, h40, h', h'', Bool.false_and]

/-! ### Status, models -/
/-- Numbers whose negations are numbers. -/
def Sm (c : List Int) : Prop := c.length ≤ 9223372036854775807 ∧ ∀ x ∈ c, (x.natAbs : Int) ≤ 12

theorem l15Status_eq (c a : List Int) (hc : Sm c) (ha : a.length ≤ 9223372036854775807) : G 38 [ints c, ints a] = some (.tup [vi (statusFrom a 0 0 c).1, vi (statusFrom a 0 0 c).2], []) := by
  have key := upto (P := fun i => ∀ f o : Int, 0 ≤ f → f ≤ i → L38_0 (ints c) (ints a) (vi f) (vi o) (vi i) = some (.tup [vi (statusFrom a f o (c.drop i)).1, vi (statusFrom a f o (c.drop i)).2], [])) (n := c.length) ?_ ?_ 0 (Nat.zero_le _) 0 0 (Int.le_refl _) (Int.le_refl _)
  · rw [g38]
    simpa only [Int.natCast_zero, List.drop_zero] using key
  · intro f o _ _
    rw [l38_0, List.drop_length]
    simp -implicitDefEqProofs only [evs, Nat.reduceAdd, reduceIte, statusFrom]
  · intro i hi ih f o h0 hf
    have hlt : (i : Int) < ((c.length : Nat) : Int) := by omega
    have h5 := add_one hi hc.1
    have e1 := l1Has_eq a c[i] ha
    have hs := hc.2 c[i] (List.getElem_mem hi)
    have en := wneg_of (x := c[i]) (by omega) (by omega)
    have e2 := l1Has_eq a (-c[i]) ha
    have hcl := hc.1
    have ef : ck (f + 1) = some (vi (f + 1)) := ck_le (by omega) (by omega)
    rw [l38_0, drop_cons hi, statusFrom]
    cases h1 : hasI a c[i] <;> rw [h1] at e1
    · cases h2 : hasI a (-c[i]) <;> rw [h2] at e2
      · have ih := ih (f + 1) c[i] (by omega) (by omega)
        simp -implicitDefEqProofs only [evs, Nat.reduceAdd, reduceIte, hlt, pIndexAddr_map hi, e1, pUn_neg, en, e2, ef, h5, ih]
      · have ih := ih f o h0 (by omega)
        simp -implicitDefEqProofs only [evs, Nat.reduceAdd, reduceIte, hlt, pIndexAddr_map hi, e1, pUn_neg, en, e2, h5, ih]
    · simp -implicitDefEqProofs only [evs, Nat.reduceAdd, reduceIte, hlt, pIndexAddr_map hi, e1]

theorem l15False_eq (set : List (List Int)) (a : List Int) (hl : set.length ≤ 9223372036854775807) (hc : ∀ c ∈ set, Sm c) (ha : a.length ≤ 9223372036854775807) : G 45 [intss set, ints a] = some (vi (ixP (isFalse a) set), []) := by
  have key := upto (P := fun i => L45_0 (intss set) (ints a) (vi i) = some (vi (match (set.drop i).findIdx? (isFalse a) with | some j => ((i + j : Nat) : Int) | none => -1), [])) (n := set.length) ?_ ?_ 0 (Nat.zero_le _)
  · simp only [Int.natCast_zero, List.drop_zero, Nat.zero_add] at key
    rw [g45]
    exact key
  · rw [l45_0]
    simp -implicitDefEqProofs only [evs, Nat.reduceAdd, reduceIte, List.drop_length, List.findIdx?_nil]
  · intro i hi ih
    have hlt : (i : Int) < ((set.length : Nat) : Int) := by omega
    have h5 := add_one hi hl
    have e1 := l15Status_eq set[i] a (hc _ (List.getElem_mem hi)) ha
    rw [l45_0, drop_cons hi, List.findIdx?_cons]
    by_cases hp : (statusFrom a 0 0 set[i]).1 = 0
    · have hp' : isFalse a set[i] = true := decide_eq_true hp
      have hp'' : ((statusFrom a 0 0 set[i]).1 = 0) = True := eq_true hp
      simp -implicitDefEqProofs only [evs, Nat.reduceAdd, reduceIte, hlt, pIndexAddr_map hi, e1, hp'', hp']
      rfl
    · have hp' : isFalse a set[i] = false := decide_eq_false hp
      simp -implicitDefEqProofs only [evs, Nat.reduceAdd, reduceIte, hlt, pIndexAddr_map hi, e1, hp, hp', h5, ih]
      cases hq : (set.drop (i + 1)).findIdx? (isFalse a) with
      | none => rfl
      | some j =>
        simp only [Option.map_some]
        rw [show i + 1 + j = i + (j + 1) by omega]

theorem sat1_eq (l : Int) (a : List Int) (ha : a.length ≤ 9223372036854775807) : G 60 [vi l, .elt [ints a] 0] = some (vb (hasI a l), []) := by
  have e1 := contains_eq a l ha
  rw [g60]
  simp -implicitDefEqProofs only [evs, Nat.reduceAdd, reduceIte, e1]
theorem isSatisfied_eq (c a : List Int) (hc : c.length ≤ 9223372036854775807) (ha : a.length ≤ 9223372036854775807) : G 43 [ints c, ints a] = some (vb (sat a c), []) := by
  have e1 := containsFuncI (f := 60) (caps := [.elt [ints a] 0]) rfl (hasI a) c hc (fun l _ => sat1_eq l a ha)
  rw [g43]
  simp -implicitDefEqProofs only [evs, Nat.reduceAdd, reduceIte, e1]
  rfl
theorem isModel1_eq (c a : List Int) (hc : c.length ≤ 9223372036854775807) (ha : a.length ≤ 9223372036854775807) : G 51 [ints c, .elt [ints a] 0] = some (vb (!sat a c), []) := by
  have e1 := isSatisfied_eq c a hc ha
  rw [g51]
  simp -implicitDefEqProofs only [evs, Nat.reduceAdd, reduceIte, e1]
theorem isModel_eq (set : List (List Int)) (a : List Int) (hl : set.length ≤ 9223372036854775807) (hc : ∀ c ∈ set, c.length ≤ 9223372036854775807) (ha : a.length ≤ 9223372036854775807) : G 27 [intss set, ints a] = some (vb (set.all (sat a)), []) := by
  have e1 := containsFuncL (f := 51) (caps := [.elt [ints a] 0]) rfl (fun c => !sat a c) set hl (fun c h => isModel1_eq c a (hc c h) ha)
  have e2 := any_not (sat a) set
  rw [g27, ← e2]
  simp -implicitDefEqProofs only [evs, Nat.reduceAdd, reduceIte, e1]

theorem l1Most_eq (a b : Int) : G 46 [vi a, vi b] = some (vi (max a b), []) := by
  rw [g46]
  by_cases h : b < a
  · rw [show max a b = a by omega]
    simp -implicitDefEqProofs only [evs, Nat.reduceAdd, reduceIte, h]
  · rw [show max a b = b by omega]
    simp -implicitDefEqProofs only [evs, Nat.reduceAdd, reduceIte, h]
theorem l15Most_eq (set : List (List Int)) (hl : set.length ≤ 9223372036854775807) (hc : ∀ c ∈ set, Sm c) : G 23 [intss set] = some (vi (greatestOf 0 set), []) := by
  have inner : ∀ (i : Nat) (hi : i < set.length) (m : Int), L23_1 (intss set) (vi m) (vi i) (vi 0) = L23_0 (intss set) (vi (greatestIn m set[i])) (vi ((i + 1 : Nat) : Int)) := by
    intro i hi m
    have h5 := add_one hi hl
    have key := upto (P := fun k => ∀ m : Int, L23_1 (intss set) (vi m) (vi i) (vi k) = L23_0 (intss set) (vi (greatestIn m (set[i].drop k))) (vi ((i + 1 : Nat) : Int))) (n := set[i].length) ?_ ?_ 0 (Nat.zero_le _) m
    · simpa only [Int.natCast_zero, List.drop_zero] using key
    · intro m
      rw [l23_1, List.drop_length]
      simp -implicitDefEqProofs only [evs, Nat.reduceAdd, reduceIte, pIndexAddr_map hi, h5, greatestIn]
    · intro k hk ih m
      have hlt : (k : Int) < ((set[i].length : Nat) : Int) := by omega
      have hsm := hc _ (List.getElem_mem hi)
      have h6 := add_one hk hsm.1
      have hx := hsm.2 set[i][k] (List.getElem_mem hk)
      have e1 := l15Abs_eq set[i][k]
      rw [sAbs_of (by omega) (by omega)] at e1
      have e2 := l1Most_eq m ((set[i][k].natAbs : Nat) : Int)
      rw [l23_1, drop_cons hk, greatestIn]
      simp -implicitDefEqProofs only [evs, Nat.reduceAdd, reduceIte, pIndexAddr_map hi, pIndexAddr_map hk, hlt, e1, e2, h6, ih]
  have key := upto (P := fun i => ∀ m : Int, L23_0 (intss set) (vi m) (vi i) = some (vi (greatestOf m (set.drop i)), [])) (n := set.length) ?_ ?_ 0 (Nat.zero_le _) 0
  · rw [g23]
    simpa only [Int.natCast_zero, List.drop_zero] using key
  · intro m
    rw [l23_0, List.drop_length]
    simp -implicitDefEqProofs only [evs, Nat.reduceAdd, reduceIte, greatestOf]
  · intro i hi ih m
    have hlt : (i : Int) < ((set.length : Nat) : Int) := by omega
    rw [l23_0, drop_cons hi, greatestOf]
    simp -implicitDefEqProofs only [evs, Nat.reduceAdd, reduceIte, hlt, inner i hi, ih]
theorem greatest_eq (set : List (List Int)) (hl : set.length ≤ 9223372036854775807) (hc : ∀ c ∈ set, Sm c) : G 25 [intss set] = some (vi (greatestOf 0 set), []) := by
  have inner : ∀ (i : Nat) (hi : i < set.length) (m : Int), L25_1 (vi m) (intss set) (vi (set.length : Nat)) (vi i) (ints set[i]) (vi (set[i].length : Nat)) (vi 0) = L25_0 (vi (greatestIn m set[i])) (intss set) (vi (set.length : Nat)) (vi ((i + 1 : Nat) : Int)) := by
    intro i hi m
    have h5 := add_one hi hl
    have key := upto (P := fun k => ∀ m : Int, L25_1 (vi m) (intss set) (vi (set.length : Nat)) (vi i) (ints set[i]) (vi (set[i].length : Nat)) (vi k) = L25_0 (vi (greatestIn m (set[i].drop k))) (intss set) (vi (set.length : Nat)) (vi ((i + 1 : Nat) : Int))) (n := set[i].length) ?_ ?_ 0 (Nat.zero_le _) m
    · simpa only [Int.natCast_zero, List.drop_zero] using key
    · intro m
      rw [l25_1, List.drop_length]
      simp -implicitDefEqProofs only [evs, Nat.reduceAdd, reduceIte, h5, greatestIn]
    · intro k hk ih m
      have hlt : (k : Int) < ((set[i].length : Nat) : Int) := by omega
      have hsm := hc _ (List.getElem_mem hi)
      have h6 := add_one hk hsm.1
      have hx := hsm.2 set[i][k] (List.getElem_mem hk)
      have e1 := absolute_eq set[i][k] (by omega) (by omega)
      have e2 : (if m < ((set[i][k].natAbs : Nat) : Int) then ((set[i][k].natAbs : Nat) : Int) else m) = max m ((set[i][k].natAbs : Nat) : Int) := by split <;> omega
      rw [l25_1, drop_cons hk, greatestIn]
      simp -implicitDefEqProofs only [evs, Nat.reduceAdd, reduceIte, pIndexAddr_map hk, hlt, e1, e2, h6, ih]
  have key := upto (P := fun i => ∀ m : Int, L25_0 (vi m) (intss set) (vi (set.length : Nat)) (vi i) = some (vi (greatestOf m (set.drop i)), [])) (n := set.length) ?_ ?_ 0 (Nat.zero_le _) 0
  · rw [g25]
    simp only [Int.natCast_zero, List.drop_zero] at key
    simp -implicitDefEqProofs only [evs, Nat.reduceAdd, reduceIte, key]
  · intro m
    rw [l25_0, List.drop_length]
    simp -implicitDefEqProofs only [evs, Nat.reduceAdd, reduceIte, greatestOf]
  · intro i hi ih m
    have hlt : (i : Int) < ((set.length : Nat) : Int) := by omega
    rw [l25_0, drop_cons hi, greatestOf]
    simp -implicitDefEqProofs only [evs, Nat.reduceAdd, reduceIte, hlt, pIndexAddr_map hi, inner i hi, ih]
theorem sm_of_valid {set : List (List Int)} (h : isClauses set = true) (hl : ∀ c ∈ set, c.length ≤ 9223372036854775807) : ∀ c ∈ set, Sm c := fun c hc => ⟨hl c hc, fun x hx => (small_of_valid h c hc x hx).2⟩

/-! ### The search of the reference -/
theorem l1Own_eq (l : List Int) (hl : l.length ≤ 4194304) : C37_0 (ints l) = some (.top, [ints l]) := by
  have hf := pFit_8 hl
  rw [c37_0]
  simp -implicitDefEqProofs only [evs, Nat.reduceAdd, reduceIte, hf]
def srchR : Option (List Int) → List A
  | some m => [vb true, ints m]
  | none => [vb false, .sl 1 []]
theorem srchR_some (m : List Int) : srchR (some m) = [vb true, ints m] := rfl
theorem srchR_none : srchR none = [vb false, .sl 1 []] := rfl
theorem flatR_nil : flatR [] = true := rfl

theorem l15Search_eq (set : List (List Int)) (hl : set.length ≤ 9223372036854775807) (hc : ∀ c ∈ set, Sm c) :
    ∀ (d : Nat) (a : List Int) (v n : Int), d ≤ 40 → a.length + d ≤ 1000 → 0 ≤ v → v ≤ 1000 → n < 1000 → d = (n + 1 - v).toNat → C22_0 (intss set) (ints a) (vi v) (vi n) = some (.top, srchR (searchFrom set d a v)) := by
  intro d
  induction d with
  | zero =>
    intro a v n hd hla hv0 hv1 hn hdn
    have e1 := l15False_eq set a hl hc (by omega)
    have e2 := ixP_any (isFalse a) set
    have e3 := l1Own_eq a (by omega)
    have hlt : n < v := by omega
    rw [c22_0, searchFrom, ← e2]
    by_cases h : 0 ≤ ixP (isFalse a) set
    · simp -implicitDefEqProofs only [evs, Nat.reduceAdd, reduceIte, e1, h, srchR_none]
    · simp -implicitDefEqProofs only [evs, Nat.reduceAdd, reduceIte, e1, h, hlt, e3, srchR_some]
  | succ d ih =>
    intro a v n hd hla hv0 hv1 hn hdn
    have e1 := l15False_eq set a hl hc (by omega)
    have e2 := ixP_any (isFalse a) set
    have e3 := l1Own_eq a (by omega)
    have hlt : ¬ n < v := by omega
    have hf := pFit_8 (n := a.length + 1) (by omega)
    have hk : ck (v + 1) = some (vi (v + 1)) := ck_le (by omega) (by omega)
    have en := wneg_of (x := v) (by omega) (by omega)
    have ih1 := ih (a ++ [v]) (v + 1) n (by omega) (by simp; omega) (by omega) (by omega) hn (by omega)
    have ih2 := ih (a ++ [-v]) (v + 1) n (by omega) (by simp; omega) (by omega) (by omega) hn (by omega)
    rw [c22_0, searchFrom, ← e2]
    by_cases h : 0 ≤ ixP (isFalse a) set
    · simp -implicitDefEqProofs only [evs, Nat.reduceAdd, reduceIte, e1, h, srchR_none]
    · cases h1 : searchFrom set d (a ++ [v]) (v + 1) with
      | some m1 =>
        rw [h1, srchR_some] at ih1
        simp -implicitDefEqProofs only [evs, Nat.reduceAdd, reduceIte, e1, h, hlt, e3, hf, rApp_ci, hk, ih1, flatA_vb, List.getElem?_cons_zero, List.getElem?_cons_succ, flatR_ints, Option.some_or, srchR_some]
      | none =>
        rw [h1, srchR_none] at ih1
        rw [Option.none_or]
        cases h2 : searchFrom set d (a ++ [-v]) (v + 1) with
        | some m2 =>
          rw [h2, srchR_some] at ih2
          simp -implicitDefEqProofs only [evs, Nat.reduceAdd, reduceIte, e1, h, hlt, e3, hf, rApp_ci, hk, ih1, flatA_vb, List.getElem?_cons_zero, List.getElem?_cons_succ, flatR_nil, pUn_neg, en, ih2, flatR_ints, srchR_some]
        | none =>
          rw [h2, srchR_none] at ih2
          simp -implicitDefEqProofs only [evs, Nat.reduceAdd, reduceIte, e1, h, hlt, e3, hf, rApp_ci, hk, ih1, flatA_vb, List.getElem?_cons_zero, List.getElem?_cons_succ, flatR_nil, pUn_neg, en, ih2, srchR_none]

def firstR (set : List (List Int)) : List A := if isClauses set then (match firstFrom set (greatestOf 0 set).toNat (2 ^ (greatestOf 0 set).toNat) 0 with | some m => [vb true, vb true, ints m] | none => [vb false, vb true, .sl 1 []]) else [vb false, vb false, .sl 1 []]

theorem greatest_bounds {set : List (List Int)} (h : isClauses set = true) : 0 ≤ greatestOf 0 set ∧ greatestOf 0 set ≤ 12 ∧ ∀ c ∈ set, ∀ x ∈ c, 1 ≤ (x.natAbs : Int) ∧ (x.natAbs : Int) ≤ ((greatestOf 0 set).toNat : Int) := by
  have h1 := greatestOf_le 0 set
  have h2 := greatestOf_max (m := 0) (b := 12) (set := set) (by omega) fun c hc x hx => (small_of_valid h c hc x hx).2
  exact ⟨h1.1, h2, fun c hc x hx => ⟨(small_of_valid h c hc x hx).1, by have := h1.2 c hc x hx; omega⟩⟩

theorem spec_first (set : List (List Int)) (hl : set.length ≤ 9223372036854775807) (hc : ∀ c ∈ set, c.length ≤ 9223372036854775807 ∧ ∀ x ∈ c, I64 x) : C7_0 (intss set) = some (.top, firstR set) := by
  have e0 := l15Set_eq set hl hc
  rw [c7_0, firstR]
  cases h : isClauses set <;> rw [h] at e0
  · simp -implicitDefEqProofs only [evs, Nat.reduceAdd, reduceIte, e0]
  · obtain ⟨g0, g1, g2⟩ := greatest_bounds h
    have hsm := sm_of_valid h fun c hcc => (hc c hcc).1
    have e1 := l15Most_eq set hl hsm
    have e2 := l15Search_eq set hl hsm (greatestOf 0 set).toNat [] 1 (greatestOf 0 set) (by omega) (by simp; omega) (by omega) (by omega) (by omega) (by omega)
    rw [first_law set _ g2, show ints [] = .sl 1 [] from rfl] at e2
    generalize firstFrom set (greatestOf 0 set).toNat (2 ^ (greatestOf 0 set).toNat) 0 = r at *
    cases r with
    | some m =>
      rw [srchR_some] at e2
      simp -implicitDefEqProofs only [evs, Nat.reduceAdd, reduceIte, e0, e1, e2, flatA_vb, List.getElem?_cons_zero, List.getElem?_cons_succ, flatR_ints]
    | none =>
      rw [srchR_none] at e2
      simp -implicitDefEqProofs only [evs, Nat.reduceAdd, reduceIte, e0, e1, e2, flatA_vb, List.getElem?_cons_zero, List.getElem?_cons_succ, flatR_nil]

/-! ### The program's assignments -/
theorem pBin_and1 (n : Nat) : pBin .and false (vi (n : Nat)) (vi 1) = some (vi ((n % 2 : Nat) : Int)) := by
  show some (vi (bitI .and (n : Int) 1)) = _
  have h : (BitVec.ofInt 64 (n : Int) &&& BitVec.ofInt 64 1).toNat = n % 2 := by
    rw [BitVec.toNat_and]
    have h1 : (BitVec.ofInt 64 (n : Int)).toNat = n % 2 ^ 64 := by simp
    have h2 : (BitVec.ofInt 64 1).toNat = 1 := by decide
    rw [h1, h2, Nat.and_one_is_mod]
    omega
  simp only [bitI]
  rw [h, wrap_I64 ⟨by omega, by omega⟩]
theorem pBin_shr1 (n : Nat) : pBin .shr false (vi (n : Nat)) (.val (.int .u64 1)) = some (vi ((n / 2 : Nat) : Int)) := by
  show (if (0 : Int) ≤ 1 then some (vi (bitI .shr (n : Int) 1)) else none) = _
  rw [if_pos (by decide)]
  simp only [bitI]
  rw [Int.fdiv_eq_ediv_of_nonneg _ (by decide)]
  have : (2 : Int) ^ min (1 : Int).toNat 64 = 2 := by decide
  rw [this]
  rfl
theorem pBin_shl1 (n : Nat) (h : n ≤ 40) : pBin .shl false (vi 1) (vi (n : Nat)) = some (vi ((2 ^ n : Nat) : Int)) := by
  show (if (0 : Int) ≤ (n : Int) then some (vi (bitI .shl 1 (n : Int))) else none) = _
  rw [if_pos (by omega)]
  simp only [bitI]
  have h1 : min (n : Int).toNat 64 = n := by simp; omega
  have h2 : 2 ^ n ≤ 2 ^ 40 := Nat.pow_le_pow_right (by decide) h
  have h3 : (1 : Int) * 2 ^ n = ((2 ^ n : Nat) : Int) := by simp
  rw [h1, h3]
  generalize 2 ^ n = m at *
  rw [wrap_I64 ⟨by omega, by omega⟩]

/-- A row that is filled from behind. -/
def down (v : Nat) (T : List Int) : List (List A) := List.replicate v [vi 0] ++ T.map ci
theorem down_start (n : Nat) : rRep n [vi 0] = down n [] := by simp [down, rRep]
theorem down_end (T : List Int) : down 0 T = T.map ci := by simp [down]
theorem down_length (v : Nat) (T : List Int) : (down v T).length = v + T.length := by simp [down]
theorem down_get (v : Nat) (T : List Int) : rGet (down (v + 1) T) v = some [vi 0] := by
  simp [rGet, down, List.getElem?_append, List.getElem?_replicate]
theorem down_get0 (v : Nat) (y : Int) (T : List Int) : rGet (down v (y :: T)) v = some [vi y] := by
  simp [rGet, down, List.getElem?_append, List.getElem?_replicate]
theorem down_set0 (v : Nat) (y z : Int) (T : List Int) : rSet (down v (y :: T)) v [vi z] = down v (z :: T) := by
  simp [rSet, down, List.set_append]
theorem down_set (v : Nat) (z : Int) (T : List Int) : rSet (down (v + 1) T) v [vi z] = down v (z :: T) := by
  have : down (v + 1) T = down v (0 :: T) := by
    simp only [down]
    rw [List.replicate_succ']
    simp
  rw [this, down_set0]

theorem pMake_8 {n : Nat} (hn : n ≤ 1048576) : pMake 8 (vi n) (vi n) = some n := by
  show (if _ then _ else _) = _
  rw [if_pos (show FitM 8 n n from ⟨by omega, Int.le_refl _, by omega, by omega⟩), Int.toNat_natCast]

theorem assignLoop : ∀ (v num : Nat) (T : List Int), v + T.length ≤ 1000 → L26c0_0 (vi (num : Nat)) (vi (v : Nat)) (down v T) = some (.top, [ints (assignGo v num T)])
  | 0, num, T, _ => by
    have h : ¬ (1 : Int) ≤ ((0 : Nat) : Int) := by omega
    rw [l26c0_0, assignGo, down_end]
    simp -implicitDefEqProofs only [evs, Nat.reduceAdd, reduceIte, h]
  | v + 1, num, T, hl => by
    have h : (1 : Int) ≤ ((v + 1 : Nat) : Int) := by omega
    have hs : ck (((v + 1 : Nat) : Int) - 1) = some (vi (v : Nat)) := by rw [show ((v + 1 : Nat) : Int) - 1 = (v : Nat) by omega]; exact ck_le (by omega) (by omega)
    have l1 := down_length (v + 1) T
    have l2 : ∀ y, (down v (y :: T)).length = v + 1 + T.length := fun y => by rw [down_length]; simp; omega
    have p1 : pIx (v + 1 + T.length) (vi (v : Nat)) = some v := pIx_lt (by omega)
    have en := wneg_of (x := ((v + 1 : Nat) : Int)) (by omega) (by omega)
    have ih := fun y => assignLoop v (num / 2) (y :: T) (by simp; omega)
    rw [l26c0_0, assignGo]
    by_cases hb : num % 2 = 1
    · have hb' : ((num % 2 : Nat) : Int) = 1 := by omega
      have hb'' : (((num % 2 : Nat) : Int) = 1) = True := eq_true hb'
      rw [if_pos hb]
      simp -implicitDefEqProofs only [evs, Nat.reduceAdd, reduceIte, h, hs, l1, l2, p1, down_get, down_get0, down_set, down_set0, cOver_1, pBin_and1, pBin_shr1, hb'', pUn_neg, en, ih]
      rw [show -((v + 1 : Nat) : Int) = -((v : Int) + 1) by omega]
    · have hb' : ¬ ((num % 2 : Nat) : Int) = 1 := by omega
      rw [if_neg hb]
      simp -implicitDefEqProofs only [evs, Nat.reduceAdd, reduceIte, h, hs, l1, l2, p1, down_get, down_get0, down_set, down_set0, cOver_1, pBin_and1, pBin_shr1, hb', ih]
      rw [show ((v + 1 : Nat) : Int) = (v : Int) + 1 by omega]
theorem assignmentOf_eq (num n : Nat) (hn : n ≤ 1000) : C26_0 (vi (num : Nat)) (vi (n : Nat)) = some (.top, [ints (assignGo n num [])]) := by
  have e1 := pMake_8 (n := n) (by omega)
  have e2 := assignLoop n num [] (by simp; omega)
  rw [c26_0]
  simp -implicitDefEqProofs only [evs, Nat.reduceAdd, reduceIte, e1, down_start, e2]

theorem impl_first (set : List (List Int)) (hl : set.length ≤ 9223372036854775807) (hc : ∀ c ∈ set, c.length ≤ 9223372036854775807) : C9_0 (intss set) = some (.top, firstR set) := by
  have e0 := isValidClauses_eq set hl hc
  rw [c9_0, firstR]
  cases h : isClauses set <;> rw [h] at e0
  · simp -implicitDefEqProofs only [evs, Nat.reduceAdd, reduceIte, e0]
  · obtain ⟨g0, g1, _⟩ := greatest_bounds h
    have hsm := sm_of_valid h hc
    have e1 := greatest_eq set hl hsm
    obtain ⟨n, hn⟩ : ∃ n : Nat, greatestOf 0 set = (n : Nat) := ⟨(greatestOf 0 set).toNat, by omega⟩
    rw [hn] at e1 g1 ⊢
    rw [Int.toNat_natCast]
    have hsh := pBin_shl1 n (by omega)
    have hpow : 2 ^ n ≤ 2 ^ 12 := Nat.pow_le_pow_right (by decide) (by omega)
    generalize hq : 2 ^ n = q at *
    have loop : ∀ (d k : Nat), k + d = q → L9c0_0 (intss set) (vi (n : Nat)) (vi (q : Nat)) (vi (k : Nat)) = some (.top, match firstFrom set n d k with | some m => [vb true, vb true, ints m] | none => [vb false, vb true, .sl 1 []]) := by
      intro d
      induction d with
      | zero =>
        intro k hk
        have : ¬ ((k : Nat) : Int) < ((q : Nat) : Int) := by omega
        rw [l9c0_0, firstFrom]
        simp -implicitDefEqProofs only [evs, Nat.reduceAdd, reduceIte, this]
      | succ d ih =>
        intro k hk
        have hlt : ((k : Nat) : Int) < ((q : Nat) : Int) := by omega
        have e2 := assignmentOf_eq k n (by omega)
        have e3 := isModel_eq set (assignGo n k []) hl hc (by rw [assignGo_length]; simp; omega)
        have h5 := add_one (i := k) (n := q) (by omega) (by omega)
        rw [l9c0_0, firstFrom]
        cases hm : set.all (sat (assignGo n k [])) <;> rw [hm] at e3
        · simp -implicitDefEqProofs only [evs, Nat.reduceAdd, reduceIte, hlt, e2, e3, h5, ih (k + 1) (by omega)]
        · simp -implicitDefEqProofs only [evs, Nat.reduceAdd, reduceIte, hlt, e2, e3]
    have e4 := loop q 0 (by omega)
    simp only [Int.natCast_zero] at e4
    simp -implicitDefEqProofs only [evs, Nat.reduceAdd, reduceIte, e0, e1, hsh, e4]
end Go.Proofs.Ytjclanocnkankaa
