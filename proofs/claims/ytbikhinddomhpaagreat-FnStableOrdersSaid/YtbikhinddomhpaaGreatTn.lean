/- TERMS: sizes, depths, names; what is valid. -/
import Derived.Test.YtbikhinddomhpaaGreatNm
namespace Go.Proofs.YtbikhinddomhpaaGreat
open Go Go.RowKit Go.Proofs.YtbikhinddomhpaaGreat.Abs

set_option linter.unusedSimpArgs false
set_option linter.unusedVariables false
set_option maxHeartbeats 1000000

mutual
def nodes : T → Nat
  | .mk _ us => 1 + nodesL us
def nodesL : List T → Nat
  | [] => 0
  | t :: ts => nodes t + nodesL ts
end
theorem nodes_eq (t : T) : nodes t = 1 + nodesL t.args := by cases t; rfl
mutual
def dep : T → Nat
  | .mk _ us => 1 + depL us
def depL : List T → Nat
  | [] => 0
  | t :: ts => max (dep t) (depL ts)
end
theorem dep_eq (t : T) : dep t = 1 + depL t.args := by cases t; rfl
mutual
def okT : T → Bool
  | .mk n us => if varN n then us.isEmpty else symN n && (decide (us.length ≤ 4) && okTL us)
def okTL : List T → Bool
  | [] => true
  | t :: ts => okT t && okTL ts
end
theorem okT_eq (t : T) : okT t = if varN t.name then t.args.isEmpty else symN t.name && (decide (t.args.length ≤ 4) && okTL t.args) := by cases t; rfl
theorem okTL_all : ∀ ts, okTL ts = ts.all okT
  | [] => rfl
  | t :: ts => by rw [okTL, okTL_all ts, List.all_cons]

theorem nodes_le : ∀ t : T, nodes t ≤ 1 + tsz t := by
  refine T.ind fun t ih => ?_
  have : ∀ ts : List T, (∀ u ∈ ts, nodes u ≤ 1 + tsz u) → nodesL ts ≤ ts.length + tszL ts := by
    intro ts
    induction ts with
    | nil => intro _; simp [nodesL]
    | cons u us ih =>
      intro h
      have h1 := h u (by simp)
      have h2 := ih fun v hv => h v (by simp [hv])
      simp only [nodesL, tszL, List.length_cons]
      omega
  have h := this t.args ih
  rw [nodes_eq, tsz_eq]
  omega
theorem nodes_pos (t : T) : 1 ≤ nodes t := by rw [nodes_eq]; omega
theorem nodesL_mem {ts : List T} {t : T} (h : t ∈ ts) : nodes t ≤ nodesL ts := by
  induction ts with
  | nil => cases h
  | cons u us ih =>
    simp only [nodesL]
    rcases List.mem_cons.1 h with rfl | h
    · omega
    · have := ih h; omega
theorem dep_le : ∀ t : T, dep t ≤ nodes t := by
  refine T.ind fun t ih => ?_
  have : ∀ ts : List T, (∀ u ∈ ts, dep u ≤ nodes u) → depL ts ≤ nodesL ts := by
    intro ts
    induction ts with
    | nil => intro _; simp [depL]
    | cons u us ih =>
      intro h
      have h1 := h u (by simp)
      have h2 := ih fun v hv => h v (by simp [hv])
      simp only [nodesL, depL]
      omega
  have h := this t.args ih
  rw [nodes_eq, dep_eq]
  omega

/-! ### Sizes -/
theorem size_loop (ts : List T) (hl : ts.length ≤ 9223372036854775807) (hn : nodesL ts ≤ 1048577) (ih : ∀ t ∈ ts, ∃ r : Nat, G 95 [tm t] = some (vi r, []) ∧ r ≤ nodes t ∧ (nodes t ≤ 30 → r = nodes t) ∧ (30 < nodes t → 30 < r)) :
    ∀ i, i ≤ ts.length → ∀ a : Nat, a + nodesL (ts.drop i) ≤ 1048578 → ∃ r : Nat, L95_0 (vi a) (tms ts) (vi (ts.length : Nat)) (vi i) = some (vi r, []) ∧ r ≤ a + nodesL (ts.drop i) ∧ (a + nodesL (ts.drop i) ≤ 30 → r = a + nodesL (ts.drop i)) ∧ (30 < a + nodesL (ts.drop i) → 30 < r) := by
  refine upto ?_ ?_
  · intro a ha
    rw [l95_0, List.drop_length]
    simp -implicitDefEqProofs only [evs, Nat.reduceAdd, reduceIte, nodesL, Nat.add_zero]
    exact ⟨a, rfl, Nat.le_refl _, fun _ => rfl, fun h => h⟩
  · intro i hi ih' a ha
    have hlt : (i : Int) < ((ts.length : Nat) : Int) := by omega
    have h5 := add_one hi hl
    rw [drop_cons hi] at ha ⊢
    simp only [nodesL] at ha ⊢
    obtain ⟨r1, e1, b1, b2, b3⟩ := ih ts[i] (List.getElem_mem _)
    by_cases hc : (30 : Int) < (a : Int)
    · refine ⟨a, ?_, by omega, by omega, by omega⟩
      rw [l95_0]
      simp -implicitDefEqProofs only [evs, Nat.reduceAdd, reduceIte, hlt, pIndexAddr_map hi, pLoadN_tcells, hc]
    · have hk : ck ((a : Int) + (r1 : Int)) = some (vi ((a + r1 : Nat) : Int)) := by rw [ck_le (by omega) (by omega)]; rfl
      obtain ⟨r2, e2, c1, c2, c3⟩ := ih' (a + r1) (by omega)
      refine ⟨r2, ?_, by omega, by omega, by omega⟩
      rw [l95_0]
      simp -implicitDefEqProofs only [evs, Nat.reduceAdd, reduceIte, hlt, pIndexAddr_map hi, pLoadN_tcells, hc, e1, hk, h5, e2]

theorem size_eq : ∀ t : T, twf t → tsz t ≤ 1048576 → ∃ r : Nat, G 95 [tm t] = some (vi r, []) ∧ r ≤ nodes t ∧ (nodes t ≤ 30 → r = nodes t) ∧ (30 < nodes t → 30 < r) := by
  refine T.ind fun t ih hw hs => ?_
  obtain ⟨w1, w2, w3⟩ := (twf_eq t).1 hw
  have w3 := (twfL_iff _).1 w3
  have hn := nodes_le t
  rw [nodes_eq] at hn
  rw [tsz_eq] at hs
  obtain ⟨r, h1, h2, h3, h4⟩ := size_loop t.args w2 (by rw [tsz_eq] at hn; omega) (fun u hu => ih u hu (w3 u hu) (by have := tsz_mem hu; omega)) 0 (Nat.zero_le _) 1 (by rw [tsz_eq] at hn; simp; omega)
  simp only [List.drop_zero, Int.natCast_zero, Int.natCast_one] at h1 h2 h3 h4
  refine ⟨r, ?_, by rw [nodes_eq]; exact h2, by rw [nodes_eq]; exact h3, by rw [nodes_eq]; exact h4⟩
  rw [g95]
  simp -implicitDefEqProofs only [evs, Nat.reduceAdd, reduceIte, h1]

theorem many_loop (n : List UInt8) (most : Int) (hm1 : -1048600 ≤ most) (hm : most ≤ 1048576) (ts : List T) (hl : ts.length ≤ 9223372036854775807) (ih : ∀ t ∈ ts, ∀ m : Int, -1048600 ≤ m → m ≤ 1048576 → ∃ r : Nat, G 90 [tm t, vi m] = some (vi r, []) ∧ 1 ≤ r ∧ r ≤ nodes t ∧ ((nodes t : Int) ≤ m → r = nodes t) ∧ (m < nodes t → m < r)) :
    ∀ i, i ≤ ts.length → ∀ a : Nat, 1 ≤ a → a + nodesL (ts.drop i) ≤ 1048578 → ∃ r : Nat, L90_0 (vi most) (vi a) (vi i) (sv n) (tms ts) = some (vi r, []) ∧ 1 ≤ r ∧ r ≤ a + nodesL (ts.drop i) ∧ (((a + nodesL (ts.drop i) : Nat) : Int) ≤ most → r = a + nodesL (ts.drop i)) ∧ (most < ((a + nodesL (ts.drop i) : Nat) : Int) → most < r) := by
  refine upto ?_ ?_
  · intro a h1 ha
    rw [l90_0, List.drop_length]
    simp -implicitDefEqProofs only [evs, Nat.reduceAdd, reduceIte, nodesL, Nat.add_zero]
    exact ⟨a, rfl, h1, Nat.le_refl _, fun _ => rfl, fun h => h⟩
  · intro i hi ih' a h1 ha
    have hlt : (i : Int) < ((ts.length : Nat) : Int) := by omega
    have h5 := add_one hi hl
    rw [drop_cons hi] at ha ⊢
    simp only [nodesL] at ha ⊢
    by_cases hc : (a : Int) ≤ most
    · obtain ⟨r1, e1, b0, b1, b2, b3⟩ := ih ts[i] (List.getElem_mem _) (most - a) (by omega) (by omega)
      have hk0 : ck (most - (a : Int)) = some (vi (most - a)) := ck_le (by omega) (by omega)
      have hk : ck ((a : Int) + (r1 : Int)) = some (vi ((a + r1 : Nat) : Int)) := by rw [ck_le (by omega) (by omega)]; rfl
      obtain ⟨r2, e2, c0, c1, c2, c3⟩ := ih' (a + r1) (by omega) (by omega)
      refine ⟨r2, ?_, by omega, by omega, by omega, by omega⟩
      rw [l90_0]
      simp -implicitDefEqProofs only [evs, Nat.reduceAdd, reduceIte, hlt, pIndexAddr_map hi, pLoadN_tcells, hc, hk0, e1, hk, h5, e2]
    · refine ⟨a, ?_, h1, by omega, by omega, by omega⟩
      rw [l90_0]
      simp -implicitDefEqProofs only [evs, Nat.reduceAdd, reduceIte, hlt, hc]

theorem many_eq : ∀ t : T, twf t → tsz t ≤ 1048576 → ∀ m : Int, -1048600 ≤ m → m ≤ 1048576 → ∃ r : Nat, G 90 [tm t, vi m] = some (vi r, []) ∧ 1 ≤ r ∧ r ≤ nodes t ∧ ((nodes t : Int) ≤ m → r = nodes t) ∧ (m < nodes t → m < r) := by
  refine T.ind fun t ih hw hs m hm1 hm => ?_
  obtain ⟨w1, w2, w3⟩ := (twf_eq t).1 hw
  have w3 := (twfL_iff _).1 w3
  have hn := nodes_le t
  rw [nodes_eq] at hn
  obtain ⟨r, h1, h0, h2, h3, h4⟩ := many_loop t.name m hm1 hm t.args w2 (fun u hu m h1 h2 => ih u hu (w3 u hu) (by have := tsz_mem hu; rw [tsz_eq] at hs; omega) m h1 h2) 0 (Nat.zero_le _) 1 (Nat.le_refl _) (by simp; omega)
  simp only [List.drop_zero, Int.natCast_zero, Int.natCast_one] at h1 h2 h3 h4
  refine ⟨r, ?_, h0, by rw [nodes_eq]; exact h2, by rw [nodes_eq]; exact h3, by rw [nodes_eq]; exact h4⟩
  rw [g90]
  simp -implicitDefEqProofs only [evs, Nat.reduceAdd, reduceIte, h1]

/-! ### Depths -/
theorem depth_loop (ts : List T) (hl : ts.length ≤ 9223372036854775807) (hn : nodesL ts ≤ 1048577) (ih : ∀ t ∈ ts, G 96 [tm t] = some (vi (dep t : Nat), [])) :
    ∀ i, i ≤ ts.length → ∀ a : Nat, a ≤ 1048577 → L96_0 (vi a) (tms ts) (vi (ts.length : Nat)) (vi i) = some (vi ((max a (depL (ts.drop i)) + 1 : Nat) : Int), []) := by
  refine upto ?_ ?_
  · intro a ha
    have hk : ck ((a : Int) + 1) = some (vi ((a + 1 : Nat) : Int)) := by rw [ck_le (by omega) (by omega)]; rfl
    rw [l96_0, List.drop_length]
    simp -implicitDefEqProofs only [evs, Nat.reduceAdd, reduceIte, depL, hk, Nat.max_zero]
  · intro i hi ih' a ha
    have hlt : (i : Int) < ((ts.length : Nat) : Int) := by omega
    have h5 := add_one hi hl
    have e1 := ih ts[i] (List.getElem_mem _)
    have hd : dep ts[i] ≤ 1048577 := Nat.le_trans (dep_le _) (Nat.le_trans (nodesL_mem (List.getElem_mem hi)) hn)
    have hmx : (if (a : Int) < ((dep ts[i] : Nat) : Int) then ((dep ts[i] : Nat) : Int) else (a : Int)) = ((max a (dep ts[i]) : Nat) : Int) := by split <;> omega
    have ih' := ih' (max a (dep ts[i])) (by omega)
    rw [l96_0, drop_cons hi]
    simp -implicitDefEqProofs only [evs, Nat.reduceAdd, reduceIte, hlt, pIndexAddr_map hi, pLoadN_tcells, e1, hmx, h5, ih', depL, Nat.max_assoc]

theorem depth_eq : ∀ t : T, twf t → tsz t ≤ 1048576 → G 96 [tm t] = some (vi (dep t : Nat), []) := by
  refine T.ind fun t ih hw hs => ?_
  obtain ⟨w1, w2, w3⟩ := (twf_eq t).1 hw
  have w3 := (twfL_iff _).1 w3
  have hn := nodes_le t
  rw [nodes_eq] at hn
  have h1 := depth_loop t.args w2 (by omega) (fun u hu => ih u hu (w3 u hu) (by have := tsz_mem hu; rw [tsz_eq] at hs; omega)) 0 (Nat.zero_le _) 0 (by omega)
  simp only [List.drop_zero, Int.natCast_zero, Nat.zero_max] at h1
  rw [g96, dep_eq, Nat.add_comm]
  simp -implicitDefEqProofs only [evs, Nat.reduceAdd, reduceIte, h1]

theorem most_eq (a b : Nat) : G 102 [vi a, vi b] = some (vi ((max a b : Nat) : Int), []) := by
  rw [g102]
  by_cases h : (b : Int) < (a : Int)
  · simp -implicitDefEqProofs only [evs, Nat.reduceAdd, reduceIte, h]; rw [Nat.max_eq_left (by omega)]
  · simp -implicitDefEqProofs only [evs, Nat.reduceAdd, reduceIte, h]; rw [Nat.max_eq_right (by omega)]

theorem l2Depth_loop (n : List UInt8) (ts : List T) (hl : ts.length ≤ 9223372036854775807) (hn : nodesL ts ≤ 1048577) (ih : ∀ t ∈ ts, G 91 [tm t] = some (vi (dep t : Nat), [])) :
    ∀ i, i ≤ ts.length → ∀ a : Nat, a ≤ 1048577 → L91_0 (vi a) (vi i) (sv n) (tms ts) = some (vi ((max a (depL (ts.drop i)) + 1 : Nat) : Int), []) := by
  refine upto ?_ ?_
  · intro a ha
    have hk : ck ((a : Int) + 1) = some (vi ((a + 1 : Nat) : Int)) := by rw [ck_le (by omega) (by omega)]; rfl
    rw [l91_0, List.drop_length]
    simp -implicitDefEqProofs only [evs, Nat.reduceAdd, reduceIte, depL, hk, Nat.max_zero]
  · intro i hi ih' a ha
    have hlt : (i : Int) < ((ts.length : Nat) : Int) := by omega
    have h5 := add_one hi hl
    have e1 := ih ts[i] (List.getElem_mem _)
    have e2 := most_eq a (dep ts[i])
    have hd : dep ts[i] ≤ 1048577 := Nat.le_trans (dep_le _) (Nat.le_trans (nodesL_mem (List.getElem_mem hi)) hn)
    have ih' := ih' (max a (dep ts[i])) (by omega)
    rw [l91_0, drop_cons hi]
    simp -implicitDefEqProofs only [evs, Nat.reduceAdd, reduceIte, hlt, pIndexAddr_map hi, pLoadN_tcells, e1, e2, h5, ih', depL, Nat.max_assoc]

theorem l2Depth_eq : ∀ t : T, twf t → tsz t ≤ 1048576 → G 91 [tm t] = some (vi (dep t : Nat), []) := by
  refine T.ind fun t ih hw hs => ?_
  obtain ⟨w1, w2, w3⟩ := (twf_eq t).1 hw
  have w3 := (twfL_iff _).1 w3
  have hn := nodes_le t
  rw [nodes_eq] at hn
  have h1 := l2Depth_loop t.name t.args w2 (by omega) (fun u hu => ih u hu (w3 u hu) (by have := tsz_mem hu; rw [tsz_eq] at hs; omega)) 0 (Nat.zero_le _) 0 (by omega)
  simp only [List.drop_zero, Int.natCast_zero, Nat.zero_max] at h1
  rw [g91, dep_eq, Nat.add_comm]
  simp -implicitDefEqProofs only [evs, Nat.reduceAdd, reduceIte, h1]

/-! ### Valid terms -/
def smallT (t : T) : Bool := decide (nodes t ≤ 30) && decide (dep t ≤ 8)
def validT (t : T) : Bool := smallT t && okT t

theorem isSmall_eq (t : T) (hw : twf t) (hs : tsz t ≤ 1048576) : G 79 [tm t] = some (vb (smallT t), []) := by
  obtain ⟨r, h1, h2, h3, h4⟩ := size_eq t hw hs
  have hd := depth_eq t hw hs
  rw [g79]
  by_cases h : nodes t ≤ 30
  · have : (r : Int) ≤ 30 := by have := h3 h; omega
    have e : decide (((dep t : Nat) : Int) ≤ 8) = decide (dep t ≤ 8) := by congr 1; exact propext (by omega)
    simp -implicitDefEqProofs only [evs, Nat.reduceAdd, reduceIte, h1, hd, this, smallT, h, e, Bool.true_and]
  · have : ¬ (r : Int) ≤ 30 := by have := h4 (by omega); omega
    simp -implicitDefEqProofs only [evs, Nat.reduceAdd, reduceIte, h1, this, smallT, h, Bool.false_and]

theorem l2Fits_eq (t : T) (hw : twf t) (hs : tsz t ≤ 1048576) : G 73 [tm t] = some (vb (smallT t), []) := by
  obtain ⟨r, h1, h0, h2, h3, h4⟩ := many_eq t hw hs 30 (by decide) (by decide)
  have hd := l2Depth_eq t hw hs
  rw [g73]
  by_cases h : nodes t ≤ 30
  · have : (r : Int) ≤ 30 := by have := h3 (by omega); omega
    have e : decide (((dep t : Nat) : Int) ≤ 8) = decide (dep t ≤ 8) := by congr 1; exact propext (by omega)
    simp -implicitDefEqProofs only [evs, Nat.reduceAdd, reduceIte, h1, hd, this, smallT, h, e, Bool.true_and]
  · have : ¬ (r : Int) ≤ 30 := by have := h4 (by omega); omega
    simp -implicitDefEqProofs only [evs, Nat.reduceAdd, reduceIte, h1, this, smallT, h, Bool.false_and]

/-! ### Tests of terms in lists -/
theorem indexFunc_terms {f : FuncId} {caps : List A} (hsig : K.pureF f = true) (p : T → Bool) (ts : List T) (hl : ts.length ≤ 9223372036854775807) (h : ∀ t ∈ ts, G f (tm t :: caps) = some (vb (p t), [])) :
    ∃ r : Int, G 78 [tms ts, .fn f caps] = some (vi r, []) ∧ decide (0 ≤ r) = ts.any p := by
  have key := upto (P := fun i => ∃ r : Int, L78_0 (tms ts) (.fn f caps) (vi (ts.length : Nat)) (vi i) = some (vi r, []) ∧ decide (0 ≤ r) = (ts.drop i).any p) (n := ts.length) ?_ ?_ 0 (Nat.zero_le _)
  · obtain ⟨r, h1, h2⟩ := key
    simp only [Int.natCast_zero, List.drop_zero] at h1 h2
    refine ⟨r, ?_, h2⟩
    rw [g78]
    simp -implicitDefEqProofs only [evs, Nat.reduceAdd, reduceIte, h1]
  · refine ⟨-1, ?_, by simp⟩
    rw [l78_0]
    simp -implicitDefEqProofs only [evs, Nat.reduceAdd, reduceIte]
  · intro i hi ih
    obtain ⟨r, h1, h2⟩ := ih
    have hlt : (i : Int) < ((ts.length : Nat) : Int) := by omega
    have h5 := add_one hi hl
    have e1 := h ts[i] (List.getElem_mem _)
    rw [l78_0, drop_cons hi, List.any_cons]
    cases hp : p ts[i] <;> rw [hp] at e1
    · refine ⟨r, ?_, by rw [h2, Bool.false_or]⟩
      simp -implicitDefEqProofs only [evs, Nat.reduceAdd, reduceIte, hlt, pIndexAddr_map hi, pLoadN_tcells, callc_fn hsig, List.cons_append, List.nil_append, e1, h5, h1]
    · refine ⟨i, ?_, by simp⟩
      simp -implicitDefEqProofs only [evs, Nat.reduceAdd, reduceIte, hlt, pIndexAddr_map hi, pLoadN_tcells, callc_fn hsig, List.cons_append, List.nil_append, e1]

theorem contains_terms {f : FuncId} {caps : List A} (hsig : K.pureF f = true) (p : T → Bool) (ts : List T) (hl : ts.length ≤ 9223372036854775807) (h : ∀ t ∈ ts, G f (tm t :: caps) = some (vb (p t), [])) :
    G 48 [tms ts, .fn f caps] = some (vb (ts.any p), []) := by
  obtain ⟨r, h1, h2⟩ := indexFunc_terms hsig p ts hl h
  rw [g48]
  simp -implicitDefEqProofs only [evs, Nat.reduceAdd, reduceIte, h1, h2]

theorem any_not_all (p : T → Bool) (ts : List T) : (ts.any fun t => !p t) = !ts.all p := by
  induction ts with
  | nil => rfl
  | cons t ts ih => rw [List.any_cons, List.all_cons, ih]; cases p t <;> rfl

theorem hasNames_eq : ∀ t : T, twf t → G 80 [tm t] = some (vb (okT t), []) := by
  refine T.ind fun t ih hw => ?_
  obtain ⟨w1, w2, w3⟩ := (twf_eq t).1 hw
  have w3 := (twfL_iff _).1 w3
  have e1 := isVariable_eq t.name w1
  have e2 := isSymbol_eq t.name w1
  have e3 := contains_terms (f := 98) (caps := []) rfl (fun u => !okT u) t.args w2 (fun u hu => by
    have := ih u hu (w3 u hu)
    rw [g98]
    simp -implicitDefEqProofs only [evs, Nat.reduceAdd, reduceIte, this])
  rw [any_not_all, ← okTL_all] at e3
  rw [g80, okT_eq]
  have e4 : decide (((t.args.length : Nat) : Int) = 0) = t.args.isEmpty := by cases t.args <;> simp; omega
  have e5 : decide (((t.args.length : Nat) : Int) ≤ 4) = decide (t.args.length ≤ 4) := by congr 1; exact propext (by omega)
  cases hv : varN t.name <;> rw [hv] at e1
  · cases hy : symN t.name <;> rw [hy] at e2
    · simp -implicitDefEqProofs only [evs, Nat.reduceAdd, reduceIte, e1, e2, Bool.false_and]
    · cases ha : decide (t.args.length ≤ 4) <;> rw [ha] at e5
      · simp -implicitDefEqProofs only [evs, Nat.reduceAdd, reduceIte, e1, e2, e5, Bool.false_and, Bool.true_and]
      · simp -implicitDefEqProofs only [evs, Nat.reduceAdd, reduceIte, e1, e2, e5, e3, Bool.true_and, Bool.not_not]
  · simp -implicitDefEqProofs only [evs, Nat.reduceAdd, reduceIte, e1, e4]

theorem l2Nodes_eq : ∀ t : T, twf t → G 74 [tm t] = some (vb (okT t), []) := by
  refine T.ind fun t ih hw => ?_
  obtain ⟨w1, w2, w3⟩ := (twf_eq t).1 hw
  have w3 := (twfL_iff _).1 w3
  have e1 := l2Var_eq t.name w1
  have e2 := l2Symbol_eq t.name w1
  have key := upto (P := fun i => L74_0 (vi i) (sv t.name) (tms t.args) = some (vb (okTL (t.args.drop i)), [])) (n := t.args.length) ?_ ?_ 0 (Nat.zero_le _)
  · simp only [Int.natCast_zero, List.drop_zero] at key
    rw [g74, okT_eq]
    have e4 : decide (((t.args.length : Nat) : Int) = 0) = t.args.isEmpty := by cases t.args <;> simp; omega
    cases hv : varN t.name <;> rw [hv] at e1
    · cases hy : symN t.name <;> rw [hy] at e2
      · simp -implicitDefEqProofs only [evs, Nat.reduceAdd, reduceIte, e1, e2, Bool.false_and]
      · by_cases ha : 4 < ((t.args.length : Nat) : Int)
        · have : ¬ t.args.length ≤ 4 := by omega
          simp -implicitDefEqProofs only [evs, Nat.reduceAdd, reduceIte, e1, e2, ha, this, Bool.false_and, Bool.and_false]
        · have : t.args.length ≤ 4 := by omega
          simp -implicitDefEqProofs only [evs, Nat.reduceAdd, reduceIte, e1, e2, ha, this, key, Bool.true_and]
    · simp -implicitDefEqProofs only [evs, Nat.reduceAdd, reduceIte, e1, e4]
  · rw [l74_0, List.drop_length]
    simp -implicitDefEqProofs only [evs, Nat.reduceAdd, reduceIte, okTL]
  · intro i hi ih'
    have hlt : (i : Int) < ((t.args.length : Nat) : Int) := by omega
    have h5 := add_one hi w2
    have e3 := ih t.args[i] (List.getElem_mem _) (w3 _ (List.getElem_mem _))
    rw [l74_0, drop_cons hi, okTL]
    cases hp : okT t.args[i] <;> rw [hp] at e3
    · simp -implicitDefEqProofs only [evs, Nat.reduceAdd, reduceIte, hlt, pIndexAddr_map hi, pLoadN_tcells, e3, Bool.false_and]
    · simp -implicitDefEqProofs only [evs, Nat.reduceAdd, reduceIte, hlt, pIndexAddr_map hi, pLoadN_tcells, e3, h5, ih', Bool.true_and]

theorem isValidTerm_eq (t : T) (hw : twf t) (hs : tsz t ≤ 1048576) : G 50 [tm t] = some (vb (validT t), []) := by
  have e1 := isSmall_eq t hw hs
  have e2 := hasNames_eq t hw
  rw [g50, validT]
  cases h : smallT t <;> rw [h] at e1 <;> simp -implicitDefEqProofs only [evs, Nat.reduceAdd, reduceIte, e1, e2, Bool.true_and, Bool.false_and]
theorem l2Good_eq (t : T) (hw : twf t) (hs : tsz t ≤ 1048576) : G 44 [tm t] = some (vb (validT t), []) := by
  have e1 := l2Fits_eq t hw hs
  have e2 := l2Nodes_eq t hw
  rw [g44, validT]
  cases h : smallT t <;> rw [h] at e1 <;> simp -implicitDefEqProofs only [evs, Nat.reduceAdd, reduceIte, e1, e2, Bool.true_and, Bool.false_and]
end Go.Proofs.YtbikhinddomhpaaGreat
