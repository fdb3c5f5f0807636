/- THE LAWS' HELPERS: sizes, copies, comparisons. -/
import Derived.Test.YtjclanocnkankaaGreatOr
import Derived.Test.YtjclanocnkankaaGreatQa
import Derived.Test.YtjclanocnkankaaGreatLg
namespace Go.Proofs.YtjclanocnkankaaGreat
open Go Go.RowKit Go.Proofs.YtjclanocnkankaaGreat.Abs

set_option linter.unusedSimpArgs false
set_option linter.unusedVariables false
set_option maxHeartbeats 1000000

def strsSz : List (List UInt8) → Nat
  | [] => 0
  | s :: l => s.length + strsSz l

theorem sz_strs (l : List (List UInt8)) (hl : l.length ≤ 9223372036854775807) (hs : ∀ s ∈ l, s.length ≤ 9223372036854775807) (left : Int) (h0 : 0 ≤ left) (h1 : left ≤ 1048576) : G 48 [strs l, vi left] = some (vi (left1 left ((l.length + strsSz l : Nat) : Int)), []) := by
  have loop : ∀ (a : Int), 0 ≤ a → a ≤ 1048576 → L48_0 (strs l) (vi a) (vi 0) = some (vi (left1 a (strsSz l)), []) := by
    intro a ha hb
    have key := (upto (P := fun i => ∀ a : Int, 0 ≤ a → a ≤ 1048576 → L48_0 (strs l) (vi a) (vi i) = some (vi (left1 a (strsSz (l.drop i))), [])) (n := l.length) ?_ ?_ 0 (Nat.zero_le _))
    · simp only [List.drop_zero, Int.natCast_zero] at key
      exact key a ha hb
    · intro b hb hb'
      rw [l48_0, List.drop_length]
      simp -implicitDefEqProofs only [evs, Nat.reduceAdd, reduceIte, strsSz]
      rw [left1_zero hb]
    · intro i hi ih b hb hb'
      have hm := hs l[i] (List.getElem_mem _)
      have ih := ih (b - l[i].length)
      have hk := ck_sub hb (Int.le_trans hb' (by decide)) hm
      rw [l48_0, drop_cons hi]
      simp -implicitDefEqProofs only [evs, Nat.reduceAdd, reduceIte, hi, Int.ofNat_lt, pIndexAddr_map hi, hk, add_one hi hl, strsSz]
      by_cases hc : b - l[i].length < 0
      · simp -implicitDefEqProofs only [evs, Nat.reduceAdd, reduceIte, hc]
        rw [left1_neg (by omega)]
      · have ih := ih (by omega) (by omega)
        simp -implicitDefEqProofs only [evs, Nat.reduceAdd, reduceIte, hc, ih]
        rw [left1_sub, ← Int.natCast_add]
  have hk := ck_sub h0 (Int.le_trans h1 (by decide)) hl
  rw [g48]
  simp -implicitDefEqProofs only [evs, Nat.reduceAdd, reduceIte, hk]
  by_cases hc : left - l.length < 0
  · simp -implicitDefEqProofs only [evs, Nat.reduceAdd, reduceIte, hc]
    rw [left1_neg (by omega)]
  · have hl := loop (left - l.length) (by omega) (by omega)
    simp -implicitDefEqProofs only [evs, Nat.reduceAdd, reduceIte, hc, hl]
    rw [left1_sub, ← Int.natCast_add]

theorem sz_ints (l : List Int) (hl : l.length ≤ 9223372036854775807) (left : Int) (h0 : 0 ≤ left) (h1 : left ≤ 1048576) : G 49 [ints l, vi left] = some (vi (left1 left ((l.length : Nat) : Int)), []) := by
  have hk := ck_sub h0 (Int.le_trans h1 (by decide)) hl
  rw [g49]
  simp -implicitDefEqProofs only [evs, Nat.reduceAdd, reduceIte, hk]
  by_cases hc : left - l.length < 0
  · simp -implicitDefEqProofs only [evs, Nat.reduceAdd, reduceIte, hc]
    rw [left1_neg (by omega)]
  · simp -implicitDefEqProofs only [evs, Nat.reduceAdd, reduceIte, hc]
    rw [left1_pos (by omega)]

/-- What an ordering holds. -/
def osz (o : Ord') : Nat := o.syms.length + strsSz o.syms + o.ws.length

theorem sz_ord (o : Ord') (hw : owf o) (left : Int) (h0 : 0 ≤ left) (h1 : left ≤ 1048576) : G 9 [od o, vi left] = some (vi (left1 left ((osz o : Nat) : Int)), []) := by
  have e1 := sz_strs o.syms hw.1.2 hw.1.1 left h0 h1
  rw [g9]
  simp -implicitDefEqProofs only [evs, Nat.reduceAdd, reduceIte, e1]
  by_cases hc : left < ((o.syms.length + strsSz o.syms : Nat) : Int)
  · rw [left1_neg hc]
    simp -implicitDefEqProofs only [evs, Nat.reduceAdd, reduceIte]
    rw [left1_neg (by unfold osz; omega)]
  · have hp := left1_pos (Int.not_lt.1 hc)
    have e2 := sz_ints o.ws hw.2.1.2 (left1 left ((o.syms.length + strsSz o.syms : Nat) : Int)) (by omega) (by omega)
    have hn : ¬ left1 left ((o.syms.length + strsSz o.syms : Nat) : Int) < 0 := by omega
    simp -implicitDefEqProofs only [evs, Nat.reduceAdd, reduceIte, e2, hn]
    rw [left1_add (Int.not_lt.1 hc), ← Int.natCast_add]
    by_cases h2 : left1 left ((osz o : Nat) : Int) < 0
    · have : left1 left ((osz o : Nat) : Int) = -1 := by have := left1_ge left (osz o : Nat); omega
      simp only [osz] at h2 this ⊢
      simp -implicitDefEqProofs only [evs, Nat.reduceAdd, reduceIte, h2, this]
    · simp only [osz] at h2 ⊢
      simp -implicitDefEqProofs only [evs, Nat.reduceAdd, reduceIte, h2]

theorem sz_terms (ts : List T) (hl : ts.length ≤ 9223372036854775807) (ih : ∀ t ∈ ts, ∀ left : Int, 0 ≤ left → left ≤ 1048576 → G 10 [tm t, vi left] = some (vi (left1 left ((tsz t : Nat) : Int)), []))
    (left : Int) (h0 : 0 ≤ left) (h1 : left ≤ 1048576) : G 20 [tms ts, vi left] = some (vi (left1 left ((ts.length + tszL ts : Nat) : Int)), []) := by
  have loop : ∀ (a : Int), 0 ≤ a → a ≤ 1048576 → L20_0 (tms ts) (vi a) (vi 0) = some (vi (left1 a (tszL ts)), []) := by
    have key := (upto (P := fun i => ∀ a : Int, 0 ≤ a → a ≤ 1048576 → L20_0 (tms ts) (vi a) (vi i) = some (vi (left1 a (tszL (ts.drop i))), [])) (n := ts.length) ?_ ?_ 0 (Nat.zero_le _))
    · simp only [List.drop_zero, Int.natCast_zero] at key
      exact key
    · intro b hb hb'
      rw [l20_0, List.drop_length]
      simp -implicitDefEqProofs only [evs, Nat.reduceAdd, reduceIte, tszL]
      rw [left1_zero hb]
    · intro i hi ih' b hb hb'
      have e1 := ih ts[i] (List.getElem_mem _) b hb hb'
      rw [l20_0, drop_cons hi]
      simp -implicitDefEqProofs only [evs, Nat.reduceAdd, reduceIte, hi, Int.ofNat_lt, pIndexAddr_map hi, pLoadN_tcells, e1, add_one hi hl, tszL]
      by_cases hc : b < (tsz ts[i] : Nat)
      · rw [left1_neg hc, left1_neg (by omega)]
        rfl
      · have hp := left1_pos (Int.not_lt.1 hc)
        have ih' := ih' (left1 b (tsz ts[i] : Nat)) (by omega) (by omega)
        have hn : ¬ left1 b ((tsz ts[i] : Nat) : Int) < 0 := by omega
        simp -implicitDefEqProofs only [evs, Nat.reduceAdd, reduceIte, hn, ih']
        rw [left1_add (Int.not_lt.1 hc), ← Int.natCast_add]
  have hk := ck_sub h0 (Int.le_trans h1 (by decide)) hl
  rw [g20]
  simp -implicitDefEqProofs only [evs, Nat.reduceAdd, reduceIte, hk]
  by_cases hc : left - ts.length < 0
  · simp -implicitDefEqProofs only [evs, Nat.reduceAdd, reduceIte, hc]
    rw [left1_neg (by omega)]
  · have hl := loop (left - ts.length) (by omega) (by omega)
    simp -implicitDefEqProofs only [evs, Nat.reduceAdd, reduceIte, hc, hl]
    rw [left1_sub, ← Int.natCast_add]

theorem sz_term (t : T) : twf t → ∀ left : Int, 0 ≤ left → left ≤ 1048576 → G 10 [tm t, vi left] = some (vi (left1 left ((tsz t : Nat) : Int)), []) := by
  refine T.ind (p := fun t => twf t → ∀ left : Int, 0 ≤ left → left ≤ 1048576 → G 10 [tm t, vi left] = some (vi (left1 left ((tsz t : Nat) : Int)), [])) ?_ t
  intro t ih hw left h0 h1
  obtain ⟨w1, w2, w3⟩ := (twf_eq t).1 hw
  have w3 := (twfL_iff _).1 w3
  have hk := ck_sub h0 (Int.le_trans h1 (by decide)) w1
  rw [g10, tsz_eq]
  simp -implicitDefEqProofs only [evs, Nat.reduceAdd, reduceIte, hk]
  by_cases hc : left - t.name.length < 0
  · simp -implicitDefEqProofs only [evs, Nat.reduceAdd, reduceIte, hc]
    rw [left1_neg (by omega)]
  · have e2 := sz_terms t.args w2 (fun u hu => ih u hu (w3 u hu)) (left - t.name.length) (by omega) (by omega)
    simp -implicitDefEqProofs only [evs, Nat.reduceAdd, reduceIte, hc, e2]
    rw [left1_sub, ← Int.natCast_add, ← Nat.add_assoc]
    by_cases h2 : left1 left ((t.name.length + t.args.length + tszL t.args : Nat) : Int) < 0
    · have : left1 left ((t.name.length + t.args.length + tszL t.args : Nat) : Int) = -1 := by have := left1_ge left (t.name.length + t.args.length + tszL t.args : Nat); omega
      simp -implicitDefEqProofs only [evs, Nat.reduceAdd, reduceIte, h2, this]
    · simp -implicitDefEqProofs only [evs, Nat.reduceAdd, reduceIte, h2]

/-! ### Copies -/
/-! ### Comparisons: what is equal is found equal -/
theorem eq_strs (l : List (List UInt8)) (hl : l.length ≤ 9223372036854775807) : G 61 [strs l, strs l] = some (vb true, []) := by
  have key := (upto (P := fun i => L61_0 (strs l) (strs l) (vi i) = some (vb true, [])) (n := l.length) ?_ ?_ 0 (Nat.zero_le _))
  · rw [g61]
    simp only [Int.natCast_zero] at key
    simp -implicitDefEqProofs only [evs, Nat.reduceAdd, reduceIte, key]
  · rw [l61_0]
    simp -implicitDefEqProofs only [evs, Nat.reduceAdd, reduceIte]
  · intro i hi ih
    have h5 := add_one hi hl
    rw [l61_0]
    simp -implicitDefEqProofs only [evs, Nat.reduceAdd, reduceIte, hi, Int.ofNat_lt, pIndexAddr_map hi, h5, ih]

theorem eq_ints (l : List Int) (hl : l.length ≤ 9223372036854775807) : G 32 [ints l, ints l] = some (vb true, []) := by
  have key := (upto (P := fun i => L32_0 (ints l) (ints l) (vi i) = some (vb true, [])) (n := l.length) ?_ ?_ 0 (Nat.zero_le _))
  · rw [g32]
    simp only [Int.natCast_zero] at key
    simp -implicitDefEqProofs only [evs, Nat.reduceAdd, reduceIte, key]
  · rw [l32_0]
    simp -implicitDefEqProofs only [evs, Nat.reduceAdd, reduceIte]
  · intro i hi ih
    have h5 := add_one hi hl
    rw [l32_0]
    simp -implicitDefEqProofs only [evs, Nat.reduceAdd, reduceIte, hi, Int.ofNat_lt, pIndexAddr_map hi, h5, ih]

theorem eq_ord (o : Ord') (h : owf o) : G 16 [od o, od o] = some (vb true, []) := by
  have e1 := eq_strs o.syms h.1.2
  have e2 := eq_ints o.ws h.2.1.2
  rw [g16]
  simp -implicitDefEqProofs only [evs, Nat.reduceAdd, reduceIte, e1, e2]

theorem eq_terms (ts : List T) (hl : ts.length ≤ 9223372036854775807) (ih : ∀ t ∈ ts, G 15 [tm t, tm t] = some (vb true, [])) : G 24 [tms ts, tms ts] = some (vb true, []) := by
  have key := (upto (P := fun i => L24_0 (tms ts) (tms ts) (vi i) = some (vb true, [])) (n := ts.length) ?_ ?_ 0 (Nat.zero_le _))
  · rw [g24]
    simp only [Int.natCast_zero] at key
    simp -implicitDefEqProofs only [evs, Nat.reduceAdd, reduceIte, key]
  · rw [l24_0]
    simp -implicitDefEqProofs only [evs, Nat.reduceAdd, reduceIte]
  · intro i hi ih'
    have h5 := add_one hi hl
    have e1 := ih ts[i] (List.getElem_mem _)
    rw [l24_0]
    simp -implicitDefEqProofs only [evs, Nat.reduceAdd, reduceIte, hi, Int.ofNat_lt, pIndexAddr_map hi, pLoadN_tcells, e1, h5, ih']

theorem eq_term (t : T) : twf t → G 15 [tm t, tm t] = some (vb true, []) := by
  refine T.ind (p := fun t => twf t → G 15 [tm t, tm t] = some (vb true, [])) ?_ t
  intro t ih h
  obtain ⟨w1, w2, w3⟩ := (twf_eq t).1 h
  have w3 := (twfL_iff _).1 w3
  have e1 := eq_terms t.args w2 fun u hu => ih u hu (w3 u hu)
  rw [g15]
  simp -implicitDefEqProofs only [evs, Nat.reduceAdd, reduceIte, e1]
end Go.Proofs.YtjclanocnkankaaGreat
