/- COMPAREMULTISETS: program and reference; the law. -/
import Derived.Test.YtjclanocnkankaaGreatMs
namespace Go.Proofs.YtjclanocnkankaaGreat
open Go Go.RowKit Go.Proofs.YtjclanocnkankaaGreat.Abs

set_option linter.unusedSimpArgs false
set_option linter.unusedVariables false
set_option maxHeartbeats 1000000

theorem un_false : ∀ b : List T, un b (List.replicate b.length false) = b
  | [] => rfl
  | t :: b => by rw [List.length_cons, List.replicate_succ, un, if_neg (by simp), un_false b]

theorem minus_loop {b : List T} (hb : ∀ t ∈ b, twf t) (hlb : b.length ≤ 1048576) : ∀ (rest pre : List T) (us : List Bool) (out : List T), (∀ t ∈ pre ++ rest, twf t) → (pre ++ rest).length ≤ 1048576 → us.length = b.length → out.length ≤ pre.length →
    L126_0 (tms (pre ++ rest)) (tms b) (vi (pre.length : Nat)) (bls us) (out.map tcells) = some (tms (out ++ (minusP rest (un b us)).1), [])
  | [], pre, us, out, ha, hl, hus, ho => by
    rw [l126_0]
    simp only [List.append_nil]
    have e1 : decide (((pre.length : Nat) : Int) < ((pre.length : Nat) : Int)) = false := decide_eq_false (by omega)
    simp -implicitDefEqProofs only [evs, Nat.reduceAdd, reduceIte, e1, minusP, List.append_nil]
  | s :: rest, pre, us, out, ha, hl, hus, ho => by
    generalize hA : pre ++ s :: rest = a at *
    have hi : pre.length < a.length := by rw [← hA]; simp
    have hs : a[pre.length] = s := by simp [← hA]
    have e1 : decide (((pre.length : Nat) : Int) < ((a.length : Nat) : Int)) = true := decide_eq_true (by omega)
    have hR : pFit ((out.map tcells).length + 1) 40 = true := by
      unfold pFit
      rw [List.length_map]
      exact decide_eq_true ⟨by omega, by omega⟩
    have e2 := minus_in ha hb (show a.length ≤ 9223372036854775807 by omega) (show b.length ≤ 9223372036854775807 by omega) hi hus (out.map tcells) hR
    rw [hs] at e2
    have q1 : pre ++ [s] ++ rest = a := by rw [← hA]; simp
    have q2 : (pre ++ [s]).length = pre.length + 1 := by simp
    have hu := un_strike s b us
    rw [l126_0]
    simp -implicitDefEqProofs only [evs, Nat.reduceAdd, reduceIte, e1, e2]
    rw [minusP_cons, strike_R]
    cases hf : fIdx s b us with
    | some j =>
      rw [hf] at hu
      dsimp only at hu ⊢
      have ih := minus_loop hb hlb rest (pre ++ [s]) (us.set j true) out (by rw [q1]; exact ha) (by rw [q1]; exact hl) (by rw [List.length_set]; exact hus) (by omega)
      rw [q1, q2] at ih
      rw [hu, ih]
      simp only [if_true]
    | none =>
      rw [hf] at hu
      dsimp only at hu ⊢
      have ih := minus_loop hb hlb rest (pre ++ [s]) us (out ++ [s]) (by rw [q1]; exact ha) (by rw [q1]; exact hl) hus (by simp; omega)
      rw [q1, q2] at ih
      have e3 : rApp (out.map tcells) [tcells s] = (out ++ [s]).map tcells := by rw [rApp, List.map_append]; rfl
      rw [hu, e3, ih]
      simp only [Bool.false_eq_true, if_false]
      simp

theorem l6Minus_eq {a b : List T} (ha : ∀ t ∈ a, twf t) (hb : ∀ t ∈ b, twf t) (hla : a.length ≤ 1048576) (hlb : b.length ≤ 1048576) : G 126 [tms a, tms b] = some (tms (minusP a b).1, []) := by
  have e1 := minus_loop hb hlb a [] (List.replicate b.length false) [] (by simpa using ha) (by simpa using hla) (by simp) (by simp)
  rw [un_false] at e1
  simp only [List.nil_append, List.length_nil, List.map_nil] at e1
  have e2 : pMake 1 (vi (b.length : Nat)) (vi (b.length : Nat)) = some b.length := by
    show (if FitM 1 (b.length : Int) (b.length : Int) then some (b.length : Int).toNat else none) = _
    rw [if_pos ⟨by omega, by omega, by omega, by omega⟩]; simp
  have e3 : rRep b.length [vb false] = bls (List.replicate b.length false) := by rw [rRep, bls, List.map_replicate]
  rw [g126]
  simp -implicitDefEqProofs only [evs, Nat.reduceAdd, reduceIte, e2, e3]
  exact e1

/-! ### How often -/
noncomputable def cntq (t : T) (l : List T) : Nat := (l.filter fun s => dq t s).length
theorem cntq_cons (t s : T) (l : List T) : cntq t (s :: l) = cntq t l + (if dq t s then 1 else 0) := by
  unfold cntq
  rw [List.filter_cons]
  cases dq t s <;> simp
theorem cntq_mem {t : T} {l : List T} : t ∈ l ↔ 0 < cntq t l := by
  unfold cntq
  rw [List.length_pos_iff_exists_mem]
  constructor
  · intro h; exact ⟨t, List.mem_filter.2 ⟨h, dq_self t⟩⟩
  · rintro ⟨u, hu⟩
    obtain ⟨h1, h2⟩ := List.mem_filter.1 hu
    rw [dq_true.1 h2]; exact h1
theorem dq_comm {α : Type} (a b : α) : dq a b = dq b a := by
  cases h : dq a b
  · exact (dq_false.2 fun e => dq_false.1 h e.symm).symm
  · exact (dq_true.2 (dq_true.1 h).symm).symm

theorem strike_cnt (s t : T) : ∀ b : List T, ((strikeR s b).1 = true → cntq t b = cntq t (strikeR s b).2 + (if dq t s then 1 else 0)) ∧ ((strikeR s b).1 = false → cntq s b = 0 ∧ (strikeR s b).2 = b)
  | [] => ⟨fun h => (by cases h), fun _ => ⟨rfl, rfl⟩⟩
  | u :: b => by
    obtain ⟨h1, h2⟩ := strike_cnt s t b
    rw [strikeR]
    cases hd : dq s u
    · simp only [Bool.false_eq_true, if_false]
      refine ⟨fun h => ?_, fun h => ?_⟩
      · rw [cntq_cons, cntq_cons, h1 h]; omega
      · obtain ⟨g1, g2⟩ := h2 h
        rw [cntq_cons, g1, g2, hd]
        exact ⟨rfl, rfl⟩
    · simp only [if_true]
      refine ⟨fun _ => ?_, fun h => (by cases h)⟩
      rw [cntq_cons, dq_true.1 hd]

theorem minus_cnt (t : T) : ∀ a b : List T, cntq t (minusP a b).1 = cntq t a - cntq t b ∧ cntq t (minusP a b).2 = cntq t b - cntq t a
  | [], b => ⟨by simp [minusP, cntq], by simp [minusP, cntq]⟩
  | s :: a, b => by
    obtain ⟨c1, c2⟩ := strike_cnt s t b
    rw [minusP_cons, strike_R]
    cases h : (strikeR s b).1 with
    | true =>
      have c1 := c1 h
      obtain ⟨i1, i2⟩ := minus_cnt t a (strikeR s b).2
      simp only [if_true]
      rw [i1, i2, cntq_cons, c1]
      constructor <;> omega
    | false =>
      obtain ⟨c2, _⟩ := c2 h
      obtain ⟨i1, i2⟩ := minus_cnt t a b
      simp only [Bool.false_eq_true, if_false]
      rw [cntq_cons, cntq_cons, i1, i2]
      cases hd : dq t s
      · simp
      · have e : t = s := dq_true.1 hd
        subst e
        rw [c2]
        simp

theorem minus_swap (a b : List T) (t : T) : t ∈ (minusP b a).1 ↔ t ∈ (minusP a b).2 := by
  rw [cntq_mem, cntq_mem, (minus_cnt t b a).1, (minus_cnt t a b).2]

theorem all_mem {α : Type} {l l' : List α} (h : ∀ t, t ∈ l ↔ t ∈ l') (p : α → Bool) : l.all p = l'.all p := by
  rw [Bool.eq_iff_iff, List.all_eq_true, List.all_eq_true]
  exact ⟨fun k x hx => k x ((h x).2 hx), fun k x hx => k x ((h x).1 hx)⟩
theorem any_mem {α : Type} {l l' : List α} (h : ∀ t, t ∈ l ↔ t ∈ l') (p : α → Bool) : l.any p = l'.any p := by
  rw [Bool.eq_iff_iff, List.any_eq_true, List.any_eq_true]
  exact ⟨fun ⟨x, hx, hp⟩ => ⟨x, (h x).1 hx, hp⟩, fun ⟨x, hx, hp⟩ => ⟨x, (h x).2 hx, hp⟩⟩
theorem empty_mem {α : Type} {l l' : List α} (h : ∀ t, t ∈ l ↔ t ∈ l') : l.length = 0 ↔ l'.length = 0 := by
  rw [List.length_eq_zero_iff, List.length_eq_zero_iff, List.eq_nil_iff_forall_not_mem, List.eq_nil_iff_forall_not_mem]
  exact ⟨fun k x hx => k x ((h x).2 hx), fun k x hx => k x ((h x).1 hx)⟩

theorem minus_sub {a b : List T} : (∀ t ∈ (minusP a b).1, t ∈ a) ∧ (∀ t ∈ (minusP a b).2, t ∈ b) ∧ (minusP a b).1.length ≤ a.length ∧ (minusP a b).2.length ≤ b.length := by
  induction a generalizing b with
  | nil => exact ⟨fun t h => h, fun t h => h, Nat.le_refl _, Nat.le_refl _⟩
  | cons s a ih =>
    rw [minusP_cons]
    have hsub := strike_sub (s := s) (b := b)
    split
    · obtain ⟨h1, h2, h3, h4⟩ := ih (b := (strike s b).2)
      exact ⟨fun t ht => List.mem_cons_of_mem _ (h1 t ht), fun t ht => hsub.1 t (h2 t ht), by simp; omega, by omega⟩
    · obtain ⟨h1, h2, h3, h4⟩ := ih (b := b)
      refine ⟨fun t ht => ?_, h2, by simp; omega, h4⟩
      rcases List.mem_cons.1 ht with rfl | ht
      · simp
      · exact List.mem_cons_of_mem _ (h1 t ht)

/-! ### Elements, multisets -/
/-- What stands in a multiset. -/
def El (o : Ord') (t : T) : Prop := twf t ∧ tsz t ≤ 1048576 ∧ (t.name = [] ∨ (okT t = true ∧ covT o.syms t = true))
noncomputable def elemG (o : Ord') (s t : T) : Bool := if decide (s.name = []) || decide (t.name = []) then !decide (s.name = []) else kboN o (nodes s + nodes t) s t

theorem isLeast_eq (t : T) : G 222 [tm t] = some (vb (decide (t.name = [])), []) := by
  rw [g222]
  simp -implicitDefEqProofs only [evs, Nat.reduceAdd, reduceIte]

theorem elementGreater_eq {o : Ord'} (hv : validO o = true) (ho : owf o) {s t : T} (hs : El o s) (ht : El o t) : G 207 [od o, tm s, tm t] = some (vb (elemG o s t), []) := by
  have e1 := isLeast_eq s
  have e2 := isLeast_eq t
  rw [g207, elemG]
  by_cases h1 : s.name = []
  · rw [decide_eq_true h1] at e1 ⊢
    simp -implicitDefEqProofs only [evs, Nat.reduceAdd, reduceIte, e1, Bool.true_or]
  · rw [decide_eq_false h1] at e1 ⊢
    by_cases h2 : t.name = []
    · rw [decide_eq_true h2] at e2 ⊢
      simp -implicitDefEqProofs only [evs, Nat.reduceAdd, reduceIte, e1, e2, Bool.false_or]
    · rw [decide_eq_false h2] at e2 ⊢
      have g1 := hs.2.2.resolve_left h1
      have g2 := ht.2.2.resolve_left h2
      have e3 := kbo_eq hv ho.1.2 (nodes s + nodes t) s t (Nat.le_refl _) hs.1 ht.1 hs.2.1 ht.2.1 g1.1 g2.1 g1.2 g2.2
      simp -implicitDefEqProofs only [evs, Nat.reduceAdd, reduceIte, e1, e2, e3, Bool.false_or]

theorem l6Above_eq {o : Ord'} (hv : validO o = true) (ho : owf o) {s t : T} (hs : El o s) (ht : El o t) : G 127 [od o, tm s, tm t] = some (vb (elemG o s t), []) := by
  rw [g127, elemG]
  by_cases h1 : s.name = []
  · rw [decide_eq_true h1]
    simp -implicitDefEqProofs only [evs, Nat.reduceAdd, reduceIte, h1, Bool.true_or]
  · rw [decide_eq_false h1]
    by_cases h2 : t.name = []
    · rw [decide_eq_true h2]
      simp -implicitDefEqProofs only [evs, Nat.reduceAdd, reduceIte, h1, h2, Bool.false_or]
    · rw [decide_eq_false h2]
      have g1 := hs.2.2.resolve_left h1
      have g2 := ht.2.2.resolve_left h2
      have e3 := l6KBO_eq hv ho.1.2 (nodes s + nodes t) s t (Nat.le_refl _) hs.1 ht.1 hs.2.1 ht.2.1 g1.2 g2.2
      simp -implicitDefEqProofs only [evs, Nat.reduceAdd, reduceIte, h1, h2, e3, Bool.false_or]

/-- For every element of the second one there is a greater one of the first. -/
noncomputable def mgr (o : Ord') (a b : List T) : Bool := b.all fun t => a.any fun s => elemG o s t
theorem any_not_all' {α : Type} (p : α → Bool) (l : List α) : (!l.any fun x => !p x) = l.all p := by
  rw [List.not_any_eq_all_not]
  simp

theorem multisetGreater_eq {o : Ord'} (hv : validO o = true) (ho : owf o) {a b : List T} (ha : ∀ t ∈ a, El o t) (hb : ∀ t ∈ b, El o t) (hla : a.length ≤ 9223372036854775807) (hlb : b.length ≤ 9223372036854775807) : G 198 [od o, tms a, tms b] = some (vb (mgr o a b), []) := by
  have e1 : ∀ t ∈ b, G 205 (tm t :: [.elt [tms a] 0, .elt (ocells o) 0]) = some (vb (!(a.any fun s => elemG o s t)), []) := by
    intro t ht
    have e2 := contains_terms (f := 206) (caps := [.elt (ocells o) 0, .elt [sv t.name, .sl 2 (t.args.map tcells)] 0]) rfl (fun s => elemG o s t) a hla (fun s hs => by
      have e3 := elementGreater_eq hv ho (ha s hs) (hb t ht)
      rw [g206]
      simp -implicitDefEqProofs only [evs, Nat.reduceAdd, reduceIte, pLoadN_2, pLoadN_3, e3])
    rw [g205]
    simp -implicitDefEqProofs only [evs, Nat.reduceAdd, reduceIte, pLoadN_2, pLoadN_3, e2]
  have e4 := contains_terms (f := 205) (caps := [.elt [tms a] 0, .elt (ocells o) 0]) rfl (fun t => !(a.any fun s => elemG o s t)) b hlb e1
  have e5 := any_not_all' (fun t => a.any fun s => elemG o s t) b
  rw [g198]
  simp -implicitDefEqProofs only [evs, Nat.reduceAdd, reduceIte, e4]
  rw [e5]; rfl

noncomputable def cmpM (o : Ord') (a b : List T) : Int := codeI (decide ((minusP a b).1.length = 0) && decide ((minusP a b).2.length = 0)) (mgr o (minusP a b).1 (minusP a b).2) (mgr o (minusP a b).2 (minusP a b).1)

theorem clone_eq (ts : List T) (hl : ts.length ≤ 1048576) : C192_0 (tms ts) = some (.top, [tms ts]) := by
  have hf : pFit ts.length 40 = true := by unfold pFit; exact decide_eq_true ⟨by omega, by omega⟩
  rw [c192_0]
  cases ts with
  | nil =>
    have : (nz (rCnt ([] : List (List A)))) = true := rfl
    simp -implicitDefEqProofs only [evs, Nat.reduceAdd, reduceIte, List.map_nil, pSlA, this, bth_self, hf]
    simp [pFit, bth_self]
  | cons t ts =>
    have : nz (rCnt ((t :: ts).map tcells)) = false := rfl
    rw [List.length_cons] at hf
    simp -implicitDefEqProofs only [evs, Nat.reduceAdd, reduceIte, pSlA, this, hf]

theorem impl_cmpM {o : Ord'} (hv : validO o = true) (ho : owf o) {a b : List T} (ha : ∀ t ∈ a, El o t) (hb : ∀ t ∈ b, El o t) (hla : a.length ≤ 1048576) (hlb : b.length ≤ 1048576) : G 176 [od o, tms a, tms b] = some (vi (cmpM o a b), []) := by
  have e1 := clone_eq a hla
  have e2 := clone_eq b hlb
  have e3 := deleteFunc_eq (fun t ht => (ha t ht).1) (fun t ht => (hb t ht).1) (show a.length ≤ 9223372036854775807 by omega) (show b.length ≤ 9223372036854775807 by omega)
  obtain ⟨s1, s2, s3, s4⟩ := minus_sub (a := a) (b := b)
  have m1 := multisetGreater_eq hv ho (fun t ht => ha t (s1 t ht)) (fun t ht => hb t (s2 t ht)) (by omega) (by omega)
  have m2 := multisetGreater_eq hv ho (fun t ht => hb t (s2 t ht)) (fun t ht => ha t (s1 t ht)) (by omega) (by omega)
  have c1 : G 197 [.elt (ocells o) 0, .elt [tms (minusP a b).1] 0, .elt [tms (minusP a b).2] 0] = some (vb (mgr o (minusP a b).1 (minusP a b).2), []) := by
    rw [g197]
    simp -implicitDefEqProofs only [evs, Nat.reduceAdd, reduceIte, pLoadN_3, m1]
  have c2 : G 199 [.elt (ocells o) 0, .elt [tms (minusP a b).2] 0, .elt [tms (minusP a b).1] 0] = some (vb (mgr o (minusP a b).2 (minusP a b).1), []) := by
    rw [g199]
    simp -implicitDefEqProofs only [evs, Nat.reduceAdd, reduceIte, pLoadN_3, m2]
  rw [g176, cmpM]
  generalize (minusP a b).1 = x at *
  generalize (minusP a b).2 = y at *
  have e7 := ordered_eq (f := 197) (g := 199) rfl rfl (decide (x.length = 0) && decide (y.length = 0)) _ _ c1 c2
  by_cases hx : x.length = 0
  · have hx' : ((x.length : Nat) : Int) = 0 := by omega
    have hy' : decide (((y.length : Nat) : Int) = 0) = decide (y.length = 0) := by rw [Bool.eq_iff_iff, decide_eq_true_iff, decide_eq_true_iff]; omega
    rw [decide_eq_true hx, Bool.true_and] at e7 ⊢
    simp -implicitDefEqProofs only [evs, Nat.reduceAdd, reduceIte, e1, e2, e3, hx', hy', e7]
  · have hx' : ¬ ((x.length : Nat) : Int) = 0 := by omega
    rw [decide_eq_false hx, Bool.false_and] at e7 ⊢
    simp -implicitDefEqProofs only [evs, Nat.reduceAdd, reduceIte, e1, e2, e3, hx', e7]

/-! ### The reference -/
theorem multi_in1 {o : Ord'} (hv : validO o = true) (ho : owf o) {x y : List T} (hx : ∀ t ∈ x, El o t) (hy : ∀ t ∈ y, El o t) (hlx : x.length ≤ 9223372036854775807) (hly : y.length ≤ 9223372036854775807) (g l : Bool) {i : Nat} (hi : i < y.length) :
    ∀ k, k ≤ x.length → ∀ f : Bool, L78_1 (tms x) (tms y) (vb g) (vb l) (vi (i : Nat)) (vb f) (vi (k : Nat)) (strs o.syms) (ints o.ws) (vi o.var) =
      L78_0 (tms x) (tms y) (vb (g && (f || (x.drop k).any fun s => elemG o s y[i]))) (vb l) (vi ((i + 1 : Nat) : Int)) (strs o.syms) (ints o.ws) (vi o.var) := by
  have h5 := add_one hi hly
  refine upto ?_ ?_
  · intro f
    rw [l78_1, List.drop_length]
    cases g <;> simp -implicitDefEqProofs only [evs, Nat.reduceAdd, reduceIte, h5, List.any_nil, Bool.or_false, Bool.true_and, Bool.false_and]
  · intro k hk ih f
    have hlt : ((k : Nat) : Int) < ((x.length : Nat) : Int) := by omega
    have e1 := l6Above_eq hv ho (hx _ (List.getElem_mem hk)) (hy _ (List.getElem_mem hi))
    have h6 := add_one hk hlx
    rw [l78_1, drop_cons hk, List.any_cons]
    cases f
    · simp -implicitDefEqProofs only [evs, Nat.reduceAdd, reduceIte, hlt, pIndexAddr_map hk, pIndexAddr_map hi, pLoadN_tcells, e1, h6, ih, Bool.false_or]
    · simp -implicitDefEqProofs only [evs, Nat.reduceAdd, reduceIte, hlt, h6, ih, Bool.true_or]

theorem multi_in2 {o : Ord'} (hv : validO o = true) (ho : owf o) {x y : List T} (hx : ∀ t ∈ x, El o t) (hy : ∀ t ∈ y, El o t) (hlx : x.length ≤ 9223372036854775807) (hly : y.length ≤ 9223372036854775807) (g l : Bool) {i : Nat} (hi : i < x.length) :
    ∀ k, k ≤ y.length → ∀ f : Bool, L78_3 (tms x) (tms y) (vb g) (vb l) (vi (i : Nat)) (vb f) (vi (k : Nat)) (strs o.syms) (ints o.ws) (vi o.var) =
      L78_2 (tms x) (tms y) (vb g) (vb (l && (f || (y.drop k).any fun s => elemG o s x[i]))) (vi ((i + 1 : Nat) : Int)) (strs o.syms) (ints o.ws) (vi o.var) := by
  have h5 := add_one hi hlx
  refine upto ?_ ?_
  · intro f
    rw [l78_3, List.drop_length]
    cases l <;> simp -implicitDefEqProofs only [evs, Nat.reduceAdd, reduceIte, h5, List.any_nil, Bool.or_false, Bool.true_and, Bool.false_and]
  · intro k hk ih f
    have hlt : ((k : Nat) : Int) < ((y.length : Nat) : Int) := by omega
    have e1 := l6Above_eq hv ho (hy _ (List.getElem_mem hk)) (hx _ (List.getElem_mem hi))
    have h6 := add_one hk hly
    rw [l78_3, drop_cons hk, List.any_cons]
    cases f
    · simp -implicitDefEqProofs only [evs, Nat.reduceAdd, reduceIte, hlt, pIndexAddr_map hk, pIndexAddr_map hi, pLoadN_tcells, e1, h6, ih, Bool.false_or]
    · simp -implicitDefEqProofs only [evs, Nat.reduceAdd, reduceIte, hlt, h6, ih, Bool.true_or]

theorem multi_out {o : Ord'} (hv : validO o = true) (ho : owf o) {x y : List T} (hx : ∀ t ∈ x, El o t) (hy : ∀ t ∈ y, El o t) (hlx : x.length ≤ 1048576) (hly : y.length ≤ 1048576) :
    L78_0 (tms x) (tms y) (vb true) (vb true) (vi 0) (strs o.syms) (ints o.ws) (vi o.var) = some (vi (codeI (decide (x.length = 0) && decide (y.length = 0)) (mgr o x y) (mgr o y x)), []) := by
  have k2 := upto (P := fun i => ∀ g l : Bool, L78_2 (tms x) (tms y) (vb g) (vb l) (vi (i : Nat)) (strs o.syms) (ints o.ws) (vi o.var) = some (vi (codeI (decide (x.length = 0) && decide (y.length = 0)) g (l && mgr o y (x.drop i))), [])) (n := x.length) ?_ ?_
  · have k1 := upto (P := fun i => ∀ g : Bool, L78_0 (tms x) (tms y) (vb g) (vb true) (vi (i : Nat)) (strs o.syms) (ints o.ws) (vi o.var) = some (vi (codeI (decide (x.length = 0) && decide (y.length = 0)) (g && mgr o x (y.drop i)) (mgr o y x)), [])) (n := y.length) ?_ ?_ 0 (Nat.zero_le _) true
    · simp only [Int.natCast_zero, List.drop_zero, Bool.true_and] at k1
      exact k1
    · intro g
      have := k2 0 (Nat.zero_le _) g true
      simp only [Int.natCast_zero, List.drop_zero, Bool.true_and] at this
      rw [l78_0, List.drop_length]
      simp -implicitDefEqProofs only [evs, Nat.reduceAdd, reduceIte, this, mgr, List.all_nil]
    · intro i hi ih g
      have hlt : ((i : Nat) : Int) < ((y.length : Nat) : Int) := by omega
      have e1 := multi_in1 hv ho hx hy (by omega) (by omega) g true hi 0 (Nat.zero_le _) false
      simp only [Int.natCast_zero, List.drop_zero, Bool.false_or] at e1
      rw [l78_0, drop_cons hi]
      simp -implicitDefEqProofs only [evs, Nat.reduceAdd, reduceIte, hlt, e1, ih, mgr, Bool.and_assoc]
  · intro g l
    rw [l78_2, List.drop_length]
    have e1 := l6Code_eq (decide (x.length = 0) && decide (y.length = 0)) g l
    have e2 : pBin .add false (vi (x.length : Nat)) (vi (y.length : Nat)) = some (vi ((x.length + y.length : Nat) : Int)) := by
      rw [pBin_add, ck_le (by omega) (by omega)]; rfl
    have e3 : decide (((x.length + y.length : Nat) : Int) = 0) = (decide (x.length = 0) && decide (y.length = 0)) := by
      rw [Bool.eq_iff_iff, Bool.and_eq_true, decide_eq_true_iff, decide_eq_true_iff, decide_eq_true_iff]; omega
    simp -implicitDefEqProofs only [evs, Nat.reduceAdd, reduceIte, e2, e3, e1, mgr, List.all_nil, Bool.and_true]
  · intro i hi ih g l
    have hlt : ((i : Nat) : Int) < ((x.length : Nat) : Int) := by omega
    have e1 := multi_in2 hv ho hx hy (by omega) (by omega) g l hi 0 (Nat.zero_le _) false
    simp only [Int.natCast_zero, List.drop_zero, Bool.false_or] at e1
    rw [l78_2, drop_cons hi]
    simp -implicitDefEqProofs only [evs, Nat.reduceAdd, reduceIte, hlt, e1, ih, mgr, Bool.and_assoc]

theorem spec_cmpM {o : Ord'} (hv : validO o = true) (ho : owf o) {a b : List T} (ha : ∀ t ∈ a, El o t) (hb : ∀ t ∈ b, El o t) (hla : a.length ≤ 1048576) (hlb : b.length ≤ 1048576) : G 78 [od o, tms a, tms b] = some (vi (cmpM o a b), []) := by
  have e1 := l6Minus_eq (fun t ht => (ha t ht).1) (fun t ht => (hb t ht).1) hla hlb
  have e2 := l6Minus_eq (fun t ht => (hb t ht).1) (fun t ht => (ha t ht).1) hlb hla
  obtain ⟨s1, s2, s3, s4⟩ := minus_sub (a := a) (b := b)
  obtain ⟨s5, s6, s7, s8⟩ := minus_sub (a := b) (b := a)
  have e3 := multi_out hv ho (fun t ht => ha t (s1 t ht)) (fun t ht => hb t (s5 t ht)) (by omega) (by omega)
  have hsw := minus_swap a b
  rw [g78]
  simp -implicitDefEqProofs only [evs, Nat.reduceAdd, reduceIte, e1, e2]
  rw [cmpM]
  have q1 : decide ((minusP b a).1.length = 0) = decide ((minusP a b).2.length = 0) := by rw [Bool.eq_iff_iff, decide_eq_true_iff, decide_eq_true_iff]; exact empty_mem hsw
  have q2 : mgr o (minusP a b).1 (minusP b a).1 = mgr o (minusP a b).1 (minusP a b).2 := all_mem hsw _
  have q3 : mgr o (minusP b a).1 (minusP a b).1 = mgr o (minusP a b).2 (minusP a b).1 := by
    unfold mgr
    congr 1
    funext t
    exact any_mem hsw _
  rw [q1, q2, q3] at e3
  exact e3

/-! ### CompareMultisets -/
noncomputable def cmpMR (o : Ord') (a b : List T) : A := if validO o && (decide (a.length ≤ 8) && a.all (good o) && (decide (b.length ≤ 8) && b.all (good o))) then .tup [vi (cmpM o a b), vb true] else .tup [vi 0, vb false]

theorem good_El {o : Ord'} {ts : List T} (h : ts.all (good o) = true) (hw : ∀ t ∈ ts, twf t) (hs : ∀ t ∈ ts, tsz t ≤ 1048576) : ∀ t ∈ ts, El o t := fun t ht => by
  have g := good_spec (List.all_eq_true.1 h t ht)
  exact ⟨hw t ht, hs t ht, Or.inr ⟨g.1, g.2.1⟩⟩

theorem cmpMR_shape (o : Ord') (a b : List T) : ∃ (x : Int) (c : Bool), cmpMR o a b = .tup [vi x, vb c] := by
  unfold cmpMR
  split
  · exact ⟨_, _, rfl⟩
  · exact ⟨_, _, rfl⟩

end Go.Proofs.YtjclanocnkankaaGreat
