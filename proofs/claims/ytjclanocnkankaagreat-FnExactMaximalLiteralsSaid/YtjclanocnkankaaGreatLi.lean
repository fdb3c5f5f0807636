/- LITERALS: as data, read; atoms that are valid and covered; their multisets; OrderLiterals. -/
import Derived.Test.YtjclanocnkankaaGreatMt
import Derived.Test.YtjclanocnkankaaGreatAt
namespace Go.Proofs.YtjclanocnkankaaGreat
open Go Go.RowKit Go.ChangeShapes Go.Deep Go.Proofs.YtjclanocnkankaaGreat.Abs

set_option linter.unusedSimpArgs false
set_option linter.unusedVariables false
set_option maxHeartbeats 1000000

structure Lit' where
  pos : Bool
  atom : T

abbrev lcells (l : Lit') : List A := [vb l.pos, sv l.atom.name, .sl 2 (l.atom.args.map tcells)]
abbrev lm (l : Lit') : A := .agg [vb l.pos, sv l.atom.name, .sl 2 (l.atom.args.map tcells)]

theorem rd_lit : Rdr Tryz.prog 129 lcells (fun l => twf l.atom) := fun _ _ _ _ _ _ fuel cs x h => by
  obtain ⟨a, b, h1, h2, h4, h5⟩ := struct_of2 (k0 := 1) (k1 := 2) Tryz.underlying129 rfl rfl (by kernel_rfl) (by kernel_rfl) (by kernel_rfl)
    (fun _ _ _ _ h => rd_bool _ _ _ _ _ _ _ _ _ h) (fun _ _ _ _ h => rd_term _ _ _ _ _ _ _ _ _ h) h
  rw [tcells_eq] at h4
  exact ⟨⟨a, b⟩, h2, h4, h5⟩

/-! ### Atoms -/
def atomT (t : T) : Bool := if t.name = [61] then eqnT t else symN t.name && validT t
def coverA (o : Ord') (t : T) : Bool := atomT t && (if t.name = [61] then covT o.syms (arg0 t) && covT o.syms (arg1 t) else covT o.syms t)

theorem l2Atom_eq (t : T) (hw : twf t) (hs : tsz t ≤ 1048576) : G 64 [tm t] = some (vb (atomT t), []) := by
  unfold atomT
  by_cases he : t.name = [61]
  · rw [if_pos he]; exact l2Atom_eqn t hw hs he
  · have e1 := l2Symbol_eq t.name ((twf_eq t).1 hw).1
    have e2 := l2Good_eq t hw hs
    rw [if_neg he, g64]
    cases h : symN t.name <;> rw [h] at e1
    · simp -implicitDefEqProofs only [evs, Nat.reduceAdd, reduceIte, he, e1, Bool.false_and]
    · simp -implicitDefEqProofs only [evs, Nat.reduceAdd, reduceIte, he, e1, e2, Bool.true_and]

theorem isValidAtom_eq (t : T) (hw : twf t) (hs : tsz t ≤ 1048576) : G 68 [tm t] = some (vb (atomT t), []) := by
  unfold atomT
  by_cases he : t.name = [61]
  · rw [if_pos he]; exact isValidAtom_eqn t hw hs he
  · have e0 := isEquality_eq t
    rw [decide_eq_false he] at e0
    have e1 := isSymbol_eq t.name ((twf_eq t).1 hw).1
    have e2 := isValidTerm_eq t hw hs
    rw [if_neg he, g68]
    cases h : symN t.name <;> rw [h] at e1
    · simp -implicitDefEqProofs only [evs, Nat.reduceAdd, reduceIte, e0, e1, Bool.false_and]
    · simp -implicitDefEqProofs only [evs, Nat.reduceAdd, reduceIte, e0, e1, e2, Bool.true_and]

theorem coversAtom_eq (o : Ord') (t : T) (ho : owf o) (hw : twf t) (hs : tsz t ≤ 1048576) : G 58 [od o, tm t] = some (vb (coverA o t), []) := by
  by_cases he : t.name = [61]
  · have e1 := coversAtom_eqn o t ho hw hs he
    have e2 : coverA o t = eqnO o t := by unfold coverA atomT eqnO; rw [if_pos he, if_pos he, decide_eq_true he, Bool.true_and]
    rw [e2]; exact e1
  · have e0 := isEquality_eq t
    rw [decide_eq_false he] at e0
    have e1 := isValidAtom_eq t hw hs
    rw [g58, coverA, if_neg he]
    cases h : atomT t <;> rw [h] at e1
    · simp -implicitDefEqProofs only [evs, Nat.reduceAdd, reduceIte, e1, Bool.false_and]
    · have hk : okT t = true := by
        unfold atomT at h
        rw [if_neg he] at h
        simp only [validT, Bool.and_eq_true] at h
        exact h.2.2
      have e2 := covers_eq o ho.1.2 t hw hk
      simp -implicitDefEqProofs only [evs, Nat.reduceAdd, reduceIte, e0, e1, e2, Bool.true_and]

/-! ### A literal's multiset -/
def base (t : T) : List T := if t.name = [61] then t.args else [t, .mk [] []]
def msI (l : Lit') : List T := if l.pos then base l.atom else base l.atom ++ base l.atom
def msS (l : Lit') : List T := (base l.atom).flatMap fun t => if l.pos then [t] else [t, t]

theorem cntq_append (t : T) (a b : List T) : cntq t (a ++ b) = cntq t a + cntq t b := by
  unfold cntq; rw [List.filter_append, List.length_append]
theorem ms_cnt (l : Lit') (t : T) : cntq t (msS l) = cntq t (msI l) := by
  unfold msS msI
  cases l.pos
  · simp only [Bool.false_eq_true, if_false]
    rw [cntq_append]
    induction base l.atom with
    | nil => rfl
    | cons x r ih =>
      rw [List.flatMap_cons, cntq_append, cntq_cons, cntq_cons, cntq_cons, ih, cntq]
      simp
      omega
  · simp only [if_true]
    induction base l.atom with
    | nil => rfl
    | cons x r ih =>
      rw [List.flatMap_cons, cntq_append, cntq_cons, cntq_cons, ih, cntq]
      simp
      omega

theorem cmpM_cnt (o : Ord') {a a' b b' : List T} (ha : ∀ t, cntq t a = cntq t a') (hb : ∀ t, cntq t b = cntq t b') : cmpM o a b = cmpM o a' b' := by
  have m1 : ∀ t, t ∈ (minusP a b).1 ↔ t ∈ (minusP a' b').1 := fun t => by rw [cntq_mem, cntq_mem, (minus_cnt t a b).1, (minus_cnt t a' b').1, ha, hb]
  have m2 : ∀ t, t ∈ (minusP a b).2 ↔ t ∈ (minusP a' b').2 := fun t => by rw [cntq_mem, cntq_mem, (minus_cnt t a b).2, (minus_cnt t a' b').2, ha, hb]
  have q1 : decide ((minusP a b).1.length = 0) = decide ((minusP a' b').1.length = 0) := by rw [Bool.eq_iff_iff, decide_eq_true_iff, decide_eq_true_iff]; exact empty_mem m1
  have q2 : decide ((minusP a b).2.length = 0) = decide ((minusP a' b').2.length = 0) := by rw [Bool.eq_iff_iff, decide_eq_true_iff, decide_eq_true_iff]; exact empty_mem m2
  have q3 : ∀ {x x' y y' : List T}, (∀ t, t ∈ x ↔ t ∈ x') → (∀ t, t ∈ y ↔ t ∈ y') → mgr o x y = mgr o x' y' := by
    intro x x' y y' hx hy
    unfold mgr
    rw [all_mem hy]
    congr 1
    funext t
    exact any_mem hx _
  unfold cmpM
  rw [q1, q2, q3 m1 m2, q3 m2 m1]

/-- What a covered atom tells of its multiset. -/
theorem base_facts {o : Ord'} {t : T} (h : coverA o t = true) (hw : twf t) (hs : tsz t ≤ 1048576) : (base t).length = 2 ∧ ∀ u ∈ base t, El o u := by
  unfold base
  by_cases he : t.name = [61]
  · rw [if_pos he]
    unfold coverA atomT at h
    rw [if_pos he, if_pos he] at h
    simp only [Bool.and_eq_true] at h
    obtain ⟨h1, h2, h3⟩ := h
    obtain ⟨hl, k0, k1⟩ := eqnT_spec h1
    obtain ⟨_, w2, w3⟩ := (twf_eq t).1 hw
    have w3 := (twfL_iff _).1 w3
    refine ⟨hl, fun u hu => ?_⟩
    have hsz : tsz u ≤ 1048576 := by have := tsz_mem hu; rw [tsz_eq] at hs; omega
    obtain ⟨_, _, ma, mb⟩ := arg_facts hl
    have hcase : u = arg0 t ∨ u = arg1 t := by
      unfold arg0 arg1
      rcases hx : t.args with _ | ⟨a, _ | ⟨b, _ | ⟨c, r⟩⟩⟩ <;> rw [hx] at hl hu <;> simp at hl hu ⊢
      exact hu
    rcases hcase with rfl | rfl
    · exact ⟨w3 _ hu, hsz, Or.inr ⟨k0, h2⟩⟩
    · exact ⟨w3 _ hu, hsz, Or.inr ⟨k1, h3⟩⟩
  · rw [if_neg he]
    unfold coverA atomT at h
    rw [if_neg he, if_neg he] at h
    simp only [validT, Bool.and_eq_true] at h
    refine ⟨rfl, fun u hu => ?_⟩
    rcases List.mem_cons.1 hu with rfl | hu
    · exact ⟨hw, hs, Or.inr ⟨h.1.2.2, h.2⟩⟩
    · rw [List.mem_singleton.1 hu]
      exact ⟨by simp [twf, twfL], by simp [tsz, tszL], Or.inl rfl⟩

theorem msI_El {o : Ord'} {l : Lit'} (h : coverA o l.atom = true) (hw : twf l.atom) (hs : tsz l.atom ≤ 1048576) : (msI l).length ≤ 1048576 ∧ ∀ u ∈ msI l, El o u := by
  obtain ⟨h1, h2⟩ := base_facts h hw hs
  unfold msI
  split
  · exact ⟨by omega, h2⟩
  · refine ⟨by simp; omega, fun u hu => ?_⟩
    rcases List.mem_append.1 hu with hu | hu <;> exact h2 u hu
theorem msS_El {o : Ord'} {l : Lit'} (h : coverA o l.atom = true) (hw : twf l.atom) (hs : tsz l.atom ≤ 1048576) : (msS l).length ≤ 1048576 ∧ ∀ u ∈ msS l, El o u := by
  obtain ⟨h1, h2⟩ := base_facts h hw hs
  unfold msS
  constructor
  · rcases hx : base l.atom with _ | ⟨a, _ | ⟨b, _ | ⟨c, r⟩⟩⟩ <;> rw [hx] at h1 <;> simp at h1
    cases l.pos <;> simp [List.flatMap_cons]
  · intro u hu
    obtain ⟨v, hv, hu⟩ := List.mem_flatMap.1 hu
    split at hu
    · rw [List.mem_singleton.1 hu]; exact h2 v hv
    · simp at hu; rw [hu]; exact h2 v hv
