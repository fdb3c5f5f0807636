/- NAMES: of variables, of symbols. -/
import Derived.Test.YtbikhinddomhpaaGreatLw
namespace Go.Proofs.YtbikhinddomhpaaGreat
open Go Go.RowKit Go.Proofs.YtbikhinddomhpaaGreat.Abs

set_option linter.unusedSimpArgs false
set_option linter.unusedVariables false
set_option maxHeartbeats 1000000

theorem pIndexS_at {l : List UInt8} {i : Nat} (h : i < l.length) : pIndexS (sv l) (vi i) = some (vy (l[i].toNat : Int)) := by
  show (if _ then _ else _) = _
  rw [if_pos ⟨by omega, by simpa using h⟩]
  simp [List.getD_eq_getElem?_getD, h]
theorem pIndexS_0 {c : UInt8} {l : List UInt8} : pIndexS (sv (c :: l)) (vi 0) = some (vy (c.toNat : Int)) := pIndexS_at (i := 0) (l := c :: l) (by simp)

def inB (lo hi x : Int) : Bool := decide (lo ≤ x) && decide (x ≤ hi)
theorem within_eq (x a b : Int) : G 75 [vi x, vi a, vi b] = some (vb (inB a b x), []) := by
  rw [g75]
  by_cases h : a ≤ x <;> simp -implicitDefEqProofs only [evs, Nat.reduceAdd, reduceIte, h, inB, Bool.true_and, Bool.false_and]
theorem l1In_eq (x a b : Int) : G 61 [vi x, vi a, vi b] = some (vb (inB a b x), []) := by
  rw [g61]
  by_cases h : a ≤ x <;> simp -implicitDefEqProofs only [evs, Nat.reduceAdd, reduceIte, h, inB, Bool.true_and, Bool.false_and]

def upc (c : UInt8) : Bool := inB 65 90 (c.toNat : Int)
def lowc (c : UInt8) : Bool := inB 97 122 (c.toNat : Int)
def digc (c : UInt8) : Bool := inB 48 57 (c.toNat : Int)
def smallc (c : UInt8) : Bool := lowc c || digc c

theorem isUpper_eq (c : UInt8) : G 85 [vy (c.toNat : Int)] = some (vb (upc c), []) := by
  rw [g85]
  by_cases h : 65 ≤ (c.toNat : Int) <;> simp -implicitDefEqProofs only [evs, Nat.reduceAdd, reduceIte, h, upc, inB, Bool.true_and, Bool.false_and]
theorem isLower_eq (c : UInt8) : G 92 [vy (c.toNat : Int)] = some (vb (lowc c), []) := by
  rw [g92]
  by_cases h : 97 ≤ (c.toNat : Int) <;> simp -implicitDefEqProofs only [evs, Nat.reduceAdd, reduceIte, h, lowc, inB, Bool.true_and, Bool.false_and]
theorem isDigit_eq (c : UInt8) : G 93 [vy (c.toNat : Int)] = some (vb (digc c), []) := by
  rw [g93]
  by_cases h : 48 ≤ (c.toNat : Int) <;> simp -implicitDefEqProofs only [evs, Nat.reduceAdd, reduceIte, h, digc, inB, Bool.true_and, Bool.false_and]
theorem l2Small_eq (c : UInt8) : G 72 [vy (c.toNat : Int)] = some (vb (smallc c), []) := by
  rw [g72]
  by_cases h : 97 ≤ (c.toNat : Int) <;> by_cases h2 : (c.toNat : Int) ≤ 122 <;> by_cases h3 : 48 ≤ (c.toNat : Int) <;> simp -implicitDefEqProofs only [evs, Nat.reduceAdd, reduceIte, h, h2, h3, smallc, lowc, digc, inB, Bool.true_and, Bool.false_and, Bool.or_true, Bool.or_false, Bool.true_or, Bool.false_or]

/-- A variable's name. -/
def varN : List UInt8 → Bool
  | [] => false
  | c :: r => upc c && (r.all smallc && decide (r.length ≤ 3))

theorem inB_len (r : List UInt8) (k : Nat) (hk : k ≤ 9) : inB 1 (k + 1 : Nat) (((r.length + 1 : Nat)) : Int) = decide (r.length ≤ k) := by
  unfold inB
  have : decide ((1 : Int) ≤ ((r.length + 1 : Nat) : Int)) = true := by simp; omega
  rw [this, Bool.true_and]
  by_cases h : r.length ≤ k <;> simp [h] <;> omega

theorem isVariable_loop (s : List UInt8) (hs : s.length ≤ 9223372036854775807) : ∀ i, i ≤ s.length → 1 ≤ i → L97_0 (sv s) (vi (s.length : Nat)) (vi i) = some (vb ((s.drop i).all smallc && inB 1 4 (s.length : Nat)), []) := by
  refine upto (P := fun i => 1 ≤ i → L97_0 (sv s) (vi (s.length : Nat)) (vi i) = some (vb ((s.drop i).all smallc && inB 1 4 (s.length : Nat)), [])) ?_ ?_
  · intro _
    rw [l97_0, List.drop_length]
    have e := within_eq (s.length : Nat) 1 4
    simp -implicitDefEqProofs only [evs, Nat.reduceAdd, reduceIte, e, Bool.true_and]
  · intro i hi ih h1
    have ih := ih (by omega)
    have hn : ¬ ((i : Int) = 0) := by omega
    have hp : (0 : Int) < (i : Int) := by omega
    have hlt : (i : Int) < ((s.length : Nat) : Int) := by omega
    have h5 := add_one hi hs
    have hx := pIndexS_at hi
    have e1 := isLower_eq s[i]
    have e2 := isDigit_eq s[i]
    rw [l97_0, drop_cons hi]
    generalize s[i] = ch at *
    rw [List.all_cons]
    cases h8 : lowc ch <;> cases h9 : digc ch <;> rw [h8] at e1 <;> rw [h9] at e2 <;> simp -implicitDefEqProofs only [evs, Nat.reduceAdd, reduceIte, hn, hp, hlt, hx, e1, e2, h5, ih, smallc, h8, h9, Bool.true_and, Bool.false_and, Bool.or_true, Bool.or_false, Bool.true_or, Bool.false_or]

theorem isVariable_eq (s : List UInt8) (hs : s.length ≤ 9223372036854775807) : G 97 [sv s] = some (vb (varN s), []) := by
  rw [g97, pLenS_sv, Option.bind_some]
  cases s with
  | nil =>
    rw [l97_0]
    have e := within_eq ((0 : Nat) : Int) 1 4
    simp -implicitDefEqProofs only [evs, Nat.reduceAdd, reduceIte, e]
    rfl
  | cons c r =>
    have key := isVariable_loop (c :: r) hs 1 (by simp) (Nat.le_refl _)
    simp only [List.drop_succ_cons, List.drop_zero] at key
    have e' : inB 1 4 (((c :: r).length : Nat) : Int) = decide (r.length ≤ 3) := inB_len r 3 (by decide)
    rw [e'] at key
    rw [l97_0]
    have h5 : pBin .add false (vi 0) (vi 1) = some (vi ((1 : Nat) : Int)) := by rw [pBin_add, ck_le (by decide) (by decide)]; rfl
    have h6 : (0 : Int) < (((c :: r).length : Nat) : Int) := Int.natCast_pos.2 (Nat.succ_pos _)
    have e1 := isUpper_eq c
    generalize ((((c :: r).length : Nat)) : Int) = n at *
    cases hu : upc c <;> rw [hu] at e1 <;> simp -implicitDefEqProofs only [evs, Nat.reduceAdd, reduceIte, h6, pIndexS_0, e1, h5, key, varN, hu, Bool.true_and, Bool.false_and]

theorem l2Var_loop (s : List UInt8) (hs : s.length ≤ 9223372036854775807) : ∀ i, i ≤ s.length → L43_0 (sv s) (vi i) = some (vb ((s.drop i).all smallc), []) := by
  refine upto (P := fun i => L43_0 (sv s) (vi i) = some (vb ((s.drop i).all smallc), [])) ?_ ?_
  · rw [l43_0, List.drop_length]
    simp -implicitDefEqProofs only [evs, Nat.reduceAdd, reduceIte]
  · intro i hi ih
    have hlt : (i : Int) < ((s.length : Nat) : Int) := by omega
    have h5 := add_one hi hs
    have hx := pIndexS_at hi
    have e1 := l2Small_eq s[i]
    rw [l43_0, drop_cons hi]
    generalize s[i] = ch at *
    rw [List.all_cons]
    cases h8 : smallc ch <;> rw [h8] at e1 <;> simp -implicitDefEqProofs only [evs, Nat.reduceAdd, reduceIte, hlt, hx, e1, h5, ih, h8, Bool.true_and, Bool.false_and]

theorem l2Var_eq (s : List UInt8) (hs : s.length ≤ 9223372036854775807) : G 43 [sv s] = some (vb (varN s), []) := by
  rw [g43, pLenS_sv, Option.bind_some]
  cases s with
  | nil =>
    have e := l1In_eq ((0 : Nat) : Int) 1 4
    simp -implicitDefEqProofs only [evs, Nat.reduceAdd, reduceIte, e]
    rfl
  | cons c r =>
    have e := l1In_eq (((c :: r).length : Nat) : Int) 1 4
    have e' : inB 1 4 (((c :: r).length : Nat) : Int) = decide (r.length ≤ 3) := inB_len r 3 (by decide)
    rw [e'] at e
    have key := l2Var_loop (c :: r) hs 1 (by simp)
    simp only [List.drop_succ_cons, List.drop_zero] at key
    have key : L43_0 (sv (c :: r)) (vi 1) = some (vb (r.all smallc), []) := key
    generalize ((((c :: r).length : Nat)) : Int) = n at *
    by_cases h3 : r.length ≤ 3
    · rw [decide_eq_true h3] at e
      by_cases ha : (c.toNat : Int) < 65
      · have : ¬ (65 ≤ (c.toNat : Int)) := by omega
        simp -implicitDefEqProofs only [evs, Nat.reduceAdd, reduceIte, e, pIndexS_0, ha, varN, upc, inB, this, Bool.false_and]
      · have h65 : 65 ≤ (c.toNat : Int) := by omega
        by_cases hb : 90 < (c.toNat : Int)
        · have : ¬ ((c.toNat : Int) ≤ 90) := by omega
          simp -implicitDefEqProofs only [evs, Nat.reduceAdd, reduceIte, e, pIndexS_0, ha, hb, varN, upc, inB, this, Bool.false_and, Bool.and_false]
        · have : (c.toNat : Int) ≤ 90 := by omega
          simp -implicitDefEqProofs only [evs, Nat.reduceAdd, reduceIte, e, pIndexS_0, ha, hb, varN, upc, inB, this, h65, key, h3, Bool.true_and, Bool.and_true]
    · rw [decide_eq_false h3] at e
      simp -implicitDefEqProofs only [evs, Nat.reduceAdd, reduceIte, e, varN, h3, Bool.and_false]

/-! ### Lists of strings -/
def fidx (s : List UInt8) : List (List UInt8) → Option Nat
  | [] => none
  | x :: l => if s = x then some 0 else (fidx s l).map (· + 1)
def fidxI (i : Nat) : Option Nat → Int
  | none => -1
  | some k => ((i + k : Nat) : Int)
theorem fidx_isSome (s : List UInt8) : ∀ l, (fidx s l).isSome = l.contains s
  | [] => rfl
  | x :: l => by
    simp only [fidx, List.contains_cons]
    by_cases h : s = x
    · simp [h]
    · have := fidx_isSome s l
      simp [h, this]
theorem fidx_lt {s : List UInt8} : ∀ {l : List (List UInt8)} {k : Nat}, fidx s l = some k → k < l.length ∧ l[k]? = some s
  | [], _, h => by cases h
  | x :: l, k, h => by
    simp only [fidx] at h
    split at h
    · rename_i e; cases h; exact ⟨by simp, by simp [e]⟩
    · obtain ⟨j, h1, rfl⟩ := Option.map_eq_some_iff.1 h
      have := fidx_lt h1
      exact ⟨by simp; exact this.1, by simpa using this.2⟩
theorem fidxI_neg (s : List UInt8) (l : List (List UInt8)) : decide (fidxI 0 (fidx s l) < 0) = !l.contains s := by
  rw [← fidx_isSome]
  cases fidx s l <;> simp [fidxI]
theorem fidxI_nonneg (s : List UInt8) (l : List (List UInt8)) : decide (0 ≤ fidxI 0 (fidx s l)) = l.contains s := by
  rw [← fidx_isSome]
  cases fidx s l <;> simp [fidxI]
theorem fidxI_step {s x : List UInt8} {l : List (List UInt8)} {i : Nat} (h : ¬ s = x) : fidxI (i + 1) (fidx s l) = fidxI i (fidx s (x :: l)) := by
  simp only [fidx, h, if_false]
  cases fidx s l <;> simp [fidxI]; omega

theorem index_strs (l : List (List UInt8)) (s : List UInt8) (hl : l.length ≤ 9223372036854775807) : G 86 [strs l, sv s] = some (vi (fidxI 0 (fidx s l)), []) := by
  have key := upto (P := fun i => L86_0 (strs l) (sv s) (vi (l.length : Nat)) (vi i) = some (vi (fidxI i (fidx s (l.drop i))), [])) (n := l.length) ?_ ?_ 0 (Nat.zero_le _)
  · simp only [Int.natCast_zero, List.drop_zero] at key
    rw [g86]
    simp -implicitDefEqProofs only [evs, Nat.reduceAdd, reduceIte, key]
  · rw [l86_0, List.drop_length]
    simp -implicitDefEqProofs only [evs, Nat.reduceAdd, reduceIte, fidx, fidxI]
  · intro i hi ih
    have hlt : (i : Int) < ((l.length : Nat) : Int) := by omega
    have h5 := add_one hi hl
    rw [l86_0, drop_cons hi]
    by_cases h : s = l[i]
    · simp -implicitDefEqProofs only [evs, Nat.reduceAdd, reduceIte, hlt, pIndexAddr_map hi, h, fidx, fidxI, Nat.add_zero]
    · simp -implicitDefEqProofs only [evs, Nat.reduceAdd, reduceIte, hlt, pIndexAddr_map hi, h, h5, ih, fidxI_step h]

theorem contains_strs (l : List (List UInt8)) (s : List UInt8) (hl : l.length ≤ 9223372036854775807) : G 77 [strs l, sv s] = some (vb (l.contains s), []) := by
  have e := index_strs l s hl
  rw [g77]
  simp -implicitDefEqProofs only [evs, Nat.reduceAdd, reduceIte, e, fidxI_nonneg]

theorem rank_eq (o : Ord') (s : List UInt8) (hl : o.syms.length ≤ 9223372036854775807) : G 87 [od o, sv s] = some (vi (fidxI 0 (fidx s o.syms)), []) := by
  have key := upto (P := fun i => L87_0 (sv s) (vi i) (strs o.syms) (ints o.ws) (vi o.var) = some (vi (fidxI i (fidx s (o.syms.drop i))), [])) (n := o.syms.length) ?_ ?_ 0 (Nat.zero_le _)
  · simp only [Int.natCast_zero, List.drop_zero] at key
    rw [g87]
    simp -implicitDefEqProofs only [evs, Nat.reduceAdd, reduceIte, key]
  · rw [l87_0, List.drop_length]
    simp -implicitDefEqProofs only [evs, Nat.reduceAdd, reduceIte, fidx, fidxI]
  · intro i hi ih
    have hlt : (i : Int) < ((o.syms.length : Nat) : Int) := by omega
    have h5 := add_one hi hl
    rw [l87_0, drop_cons hi]
    by_cases h : s = o.syms[i]
    · simp -implicitDefEqProofs only [evs, Nat.reduceAdd, reduceIte, hlt, pIndexAddr_map hi, h, fidx, fidxI, Nat.add_zero]
    · have h' : ¬ o.syms[i] = s := fun e => h e.symm
      simp -implicitDefEqProofs only [evs, Nat.reduceAdd, reduceIte, hlt, pIndexAddr_map hi, h', h5, ih, fidxI_step h]

theorem l2In_eq (l : List (List UInt8)) (s : List UInt8) (hl : l.length ≤ 9223372036854775807) : G 63 [strs l, sv s] = some (vb (l.contains s), []) := by
  have key := upto (P := fun i => L63_0 (strs l) (sv s) (vi i) = some (vb ((l.drop i).contains s), [])) (n := l.length) ?_ ?_ 0 (Nat.zero_le _)
  · simp only [Int.natCast_zero, List.drop_zero] at key
    rw [g63]
    exact key
  · rw [l63_0, List.drop_length]
    simp -implicitDefEqProofs only [evs, Nat.reduceAdd, reduceIte, List.contains_nil]
  · intro i hi ih
    have hlt : (i : Int) < ((l.length : Nat) : Int) := by omega
    have h5 := add_one hi hl
    rw [l63_0, drop_cons hi, List.contains_cons]
    by_cases h : l[i] = s
    · have : (s == l[i]) = true := by simp [h]
      simp -implicitDefEqProofs only [evs, Nat.reduceAdd, reduceIte, hlt, pIndexAddr_map hi, h, this, Bool.true_or]
      simp
    · have : (s == l[i]) = false := by simp; exact fun e => h e.symm
      simp -implicitDefEqProofs only [evs, Nat.reduceAdd, reduceIte, hlt, pIndexAddr_map hi, h, this, h5, ih, Bool.false_or]

/-! ### A symbol's name -/
def resv : List (List UInt8) := [[116, 114, 117, 101], [102, 97, 108, 115, 101], [116, 114, 117, 116, 104], [98, 111, 116, 104], [101, 105, 116, 104, 101, 114], [105, 102], [97, 108, 108], [115, 111, 109, 101]]
def symc (c : UInt8) : Bool := smallc c || decide ((c.toNat : Int) = 95)
def symN : List UInt8 → Bool
  | [] => false
  | c :: r => lowc c && (r.all symc && (decide (r.length ≤ 5) && !resv.contains (c :: r)))

theorem beq_dec (a b : List UInt8) : (a == b) = decide (a = b) := by by_cases h : a = b <;> simp [h]

theorem isSymbol_loop (s : List UInt8) (hs : s.length ≤ 9223372036854775807) : ∀ i, i ≤ s.length → 1 ≤ i → L76_0 (sv s) (vi (s.length : Nat)) (vi i) = some (vb ((s.drop i).all symc && (inB 1 6 (s.length : Nat) && !resv.contains s)), []) := by
  refine upto (P := fun i => 1 ≤ i → L76_0 (sv s) (vi (s.length : Nat)) (vi i) = some (vb ((s.drop i).all symc && (inB 1 6 (s.length : Nat) && !resv.contains s)), [])) ?_ ?_
  · intro _
    rw [l76_0, List.drop_length]
    have e := within_eq (s.length : Nat) 1 6
    have e2 := contains_strs resv s (by decide)
    have e3 : G 94 [] = some (strs resv, []) := g94
    cases h : inB 1 6 (s.length : Nat) <;> rw [h] at e <;> simp -implicitDefEqProofs only [evs, Nat.reduceAdd, reduceIte, e, e2, e3, h, Bool.true_and, Bool.false_and, List.all_nil]
  · intro i hi ih h1
    have ih := ih (by omega)
    have hn : ¬ ((i : Int) = 0) := by omega
    have hlt : (i : Int) < ((s.length : Nat) : Int) := by omega
    have h5 := add_one hi hs
    have hx := pIndexS_at hi
    have e1 := isLower_eq s[i]
    have e2 := isDigit_eq s[i]
    rw [l76_0, drop_cons hi]
    generalize s[i] = ch at *
    rw [List.all_cons]
    cases h7 : decide ((ch.toNat : Int) = 95) <;> cases h8 : lowc ch <;> cases h9 : digc ch <;> rw [h8] at e1 <;> rw [h9] at e2 <;>
      simp -implicitDefEqProofs only [evs, Nat.reduceAdd, reduceIte, hn, hlt, hx, e1, e2, h5, ih, symc, smallc, h7, h8, h9, Bool.true_and, Bool.false_and, Bool.or_true, Bool.or_false, Bool.true_or, Bool.false_or]

theorem isSymbol_eq (s : List UInt8) (hs : s.length ≤ 9223372036854775807) : G 76 [sv s] = some (vb (symN s), []) := by
  rw [g76, pLenS_sv, Option.bind_some]
  cases s with
  | nil =>
    rw [l76_0]
    have e : G 75 [vi ((0 : Nat) : Int), vi 1, vi 6] = some (vb false, []) := within_eq ((0 : Nat) : Int) 1 6
    simp -implicitDefEqProofs only [evs, Nat.reduceAdd, reduceIte, e]
    rfl
  | cons c r =>
    have key := isSymbol_loop (c :: r) hs 1 (by simp) (Nat.le_refl _)
    simp only [List.drop_succ_cons, List.drop_zero] at key
    have e' : inB 1 6 (((c :: r).length : Nat) : Int) = decide (r.length ≤ 5) := inB_len r 5 (by decide)
    rw [e'] at key
    rw [l76_0]
    have h5 : pBin .add false (vi 0) (vi 1) = some (vi ((1 : Nat) : Int)) := by rw [pBin_add, ck_le (by decide) (by decide)]; rfl
    have h6 : (0 : Int) < (((c :: r).length : Nat) : Int) := Int.natCast_pos.2 (Nat.succ_pos _)
    have e1 := isLower_eq c
    generalize ((((c :: r).length : Nat)) : Int) = n at *
    cases hu : lowc c <;> rw [hu] at e1 <;> simp -implicitDefEqProofs only [evs, Nat.reduceAdd, reduceIte, h6, pIndexS_0, e1, h5, key, symN, hu, Bool.true_and, Bool.false_and]

theorem l2Symbol_loop (s : List UInt8) (hs : s.length ≤ 9223372036854775807) : ∀ i, i ≤ s.length → L62_0 (sv s) (vi i) = some (vb ((s.drop i).all symc), []) := by
  refine upto (P := fun i => L62_0 (sv s) (vi i) = some (vb ((s.drop i).all symc), [])) ?_ ?_
  · rw [l62_0, List.drop_length]
    simp -implicitDefEqProofs only [evs, Nat.reduceAdd, reduceIte]
  · intro i hi ih
    have hlt : (i : Int) < ((s.length : Nat) : Int) := by omega
    have h5 := add_one hi hs
    have hx := pIndexS_at hi
    have e1 := l2Small_eq s[i]
    rw [l62_0, drop_cons hi]
    generalize s[i] = ch at *
    rw [List.all_cons]
    cases h7 : decide ((ch.toNat : Int) = 95) <;> cases h8 : smallc ch <;> rw [h8] at e1 <;> simp -implicitDefEqProofs only [evs, Nat.reduceAdd, reduceIte, hlt, hx, e1, h5, ih, symc, h7, h8, Bool.true_and, Bool.false_and, Bool.or_true, Bool.or_false, Bool.true_or, Bool.false_or]

theorem l2Symbol_eq (s : List UInt8) (hs : s.length ≤ 9223372036854775807) : G 62 [sv s] = some (vb (symN s), []) := by
  rw [g62, pLenS_sv, Option.bind_some]
  cases s with
  | nil =>
    have e : G 61 [vi ((0 : Nat) : Int), vi 1, vi 6] = some (vb false, []) := l1In_eq ((0 : Nat) : Int) 1 6
    simp -implicitDefEqProofs only [evs, Nat.reduceAdd, reduceIte, e]
    rfl
  | cons c r =>
    have e := l1In_eq (((c :: r).length : Nat) : Int) 1 6
    have e' : inB 1 6 (((c :: r).length : Nat) : Int) = decide (r.length ≤ 5) := inB_len r 5 (by decide)
    rw [e'] at e
    have key := l2Symbol_loop (c :: r) hs 1 (by simp)
    simp only [List.drop_succ_cons, List.drop_zero] at key
    have key : L62_0 (sv (c :: r)) (vi 1) = some (vb (r.all symc), []) := key
    generalize ((((c :: r).length : Nat)) : Int) = n at *
    have hres : resv.contains (c :: r) = (decide (c :: r = [116, 114, 117, 101]) || (decide (c :: r = [102, 97, 108, 115, 101]) || (decide (c :: r = [116, 114, 117, 116, 104]) || (decide (c :: r = [98, 111, 116, 104]) || (decide (c :: r = [101, 105, 116, 104, 101, 114]) || (decide (c :: r = [105, 102]) || (decide (c :: r = [97, 108, 108]) || decide (c :: r = [115, 111, 109, 101])))))))) := by
      simp only [resv, List.contains_cons, List.contains_nil, Bool.or_false, beq_dec]
    by_cases h3 : r.length ≤ 5
    · rw [decide_eq_true h3] at e
      by_cases ha : (c.toNat : Int) < 97
      · have : ¬ (97 ≤ (c.toNat : Int)) := by omega
        simp -implicitDefEqProofs only [evs, Nat.reduceAdd, reduceIte, e, pIndexS_0, ha, symN, lowc, inB, this, Bool.false_and]
      · have h65 : 97 ≤ (c.toNat : Int) := by omega
        by_cases hb : 122 < (c.toNat : Int)
        · have : ¬ ((c.toNat : Int) ≤ 122) := by omega
          simp -implicitDefEqProofs only [evs, Nat.reduceAdd, reduceIte, e, pIndexS_0, ha, hb, symN, lowc, inB, this, Bool.false_and, Bool.and_false]
        · have h122 : (c.toNat : Int) ≤ 122 := by omega
          have e0 : symN (c :: r) = (r.all symc && !resv.contains (c :: r)) := by
            simp [symN, lowc, inB, h65, h122, h3]
          rw [e0, hres]
          have hx0 := pIndexS_0 (c := c) (l := r)
          clear hres e0
          generalize c :: r = s at *
          cases q0 : decide (s = [116, 114, 117, 101])
          rotate_left
          · simp -implicitDefEqProofs only [evs, Nat.reduceAdd, reduceIte, e, hx0, ha, hb, q0, Bool.true_or, Bool.false_or, Bool.and_false]
          cases q1 : decide (s = [102, 97, 108, 115, 101])
          rotate_left
          · simp -implicitDefEqProofs only [evs, Nat.reduceAdd, reduceIte, e, hx0, ha, hb, q0, q1, Bool.true_or, Bool.false_or, Bool.and_false]
          cases q2 : decide (s = [116, 114, 117, 116, 104])
          rotate_left
          · simp -implicitDefEqProofs only [evs, Nat.reduceAdd, reduceIte, e, hx0, ha, hb, q0, q1, q2, Bool.true_or, Bool.false_or, Bool.and_false]
          cases q3 : decide (s = [98, 111, 116, 104])
          rotate_left
          · simp -implicitDefEqProofs only [evs, Nat.reduceAdd, reduceIte, e, hx0, ha, hb, q0, q1, q2, q3, Bool.true_or, Bool.false_or, Bool.and_false]
          cases q4 : decide (s = [101, 105, 116, 104, 101, 114])
          rotate_left
          · simp -implicitDefEqProofs only [evs, Nat.reduceAdd, reduceIte, e, hx0, ha, hb, q0, q1, q2, q3, q4, Bool.true_or, Bool.false_or, Bool.and_false]
          cases q5 : decide (s = [105, 102])
          rotate_left
          · simp -implicitDefEqProofs only [evs, Nat.reduceAdd, reduceIte, e, hx0, ha, hb, q0, q1, q2, q3, q4, q5, Bool.true_or, Bool.false_or, Bool.and_false]
          cases q6 : decide (s = [97, 108, 108])
          rotate_left
          · simp -implicitDefEqProofs only [evs, Nat.reduceAdd, reduceIte, e, hx0, ha, hb, q0, q1, q2, q3, q4, q5, q6, Bool.true_or, Bool.false_or, Bool.and_false]
          cases q7 : decide (s = [115, 111, 109, 101])
          rotate_left
          · simp -implicitDefEqProofs only [evs, Nat.reduceAdd, reduceIte, e, hx0, ha, hb, q0, q1, q2, q3, q4, q5, q6, q7, Bool.true_or, Bool.false_or, Bool.and_false]
          simp -implicitDefEqProofs only [evs, Nat.reduceAdd, reduceIte, e, hx0, ha, hb, q0, q1, q2, q3, q4, q5, q6, q7, Bool.true_or, Bool.false_or, Bool.and_true, Bool.or_false, key]
    · rw [decide_eq_false h3] at e
      simp -implicitDefEqProofs only [evs, Nat.reduceAdd, reduceIte, e, symN, h3, Bool.false_and, Bool.and_false]
end Go.Proofs.YtbikhinddomhpaaGreat
