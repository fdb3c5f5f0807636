/- BOTH ORDERINGS: transitive, irreflexive, above their parts. Plain. -/
import Derived.Test.YtbikhinddomhpaaGreatKb
namespace Go.Proofs.YtbikhinddomhpaaGreat
open Go Go.RowKit Go.Proofs.YtbikhinddomhpaaGreat.Abs

set_option linter.unusedSimpArgs false
set_option linter.unusedVariables false
set_option maxHeartbeats 1000000

/-! ### Roots -/
theorem rc_zero (o : Ord') (s t : T) : rootC o s t = 0 ↔ rk o s = rk o t ∧ s.args.length = t.args.length := by
  unfold rootC cmpI
  constructor
  · intro h
    split at h
    · rename_i h1
      refine ⟨h1, ?_⟩
      split at h
      · omega
      · split at h <;> omega
    · split at h
      · omega
      · split at h <;> omega
  · rintro ⟨h1, h2⟩
    rw [if_pos h1, if_neg (by omega), if_neg (by omega)]
theorem rc_pos (o : Ord') (s t : T) : 0 < rootC o s t ↔ rk o t < rk o s ∨ (rk o s = rk o t ∧ t.args.length < s.args.length) := by
  unfold rootC cmpI
  constructor
  · intro h
    split at h
    · rename_i h1
      right
      refine ⟨h1, ?_⟩
      split at h
      · omega
      · split at h <;> omega
    · left
      split at h
      · omega
      · split at h <;> omega
  · rintro (h | ⟨h1, h2⟩)
    · rw [if_neg (by omega), if_neg (by omega), if_pos h]; decide
    · rw [if_pos h1, if_neg (by omega), if_pos (by omega)]; decide
theorem rc_self (o : Ord') (s : T) : rootC o s s = 0 := (rc_zero o s s).2 ⟨rfl, rfl⟩

/-! ### The first difference -/
theorem fd_self : ∀ l : List T, fd l l = none
  | [] => rfl
  | x :: l => by rw [fd, if_pos (dq_true.2 rfl), fd_self l]
theorem fd_trans {R : T → T → Prop} : ∀ {l m r : List T} {a b c d : T}, (∀ x ∈ l, ∀ y ∈ m, ∀ z ∈ r, R x y → R y z → R x z) → (∀ x ∈ l, ¬ R x x) → fd l m = some (a, b) → R a b → fd m r = some (c, d) → R c d → ∃ x z, fd l r = some (x, z) ∧ R x z
  | [], _, _, _, _, _, _, _, _, h, _, _, _ => by simp [fd] at h
  | _ :: _, [], _, _, _, _, _, _, _, h, _, _, _ => by simp [fd] at h
  | _ :: _, _ :: _, [], _, _, _, _, _, _, _, _, h, _ => by simp [fd] at h
  | x :: l, y :: m, z :: r, a, b, c, d, htr, hir, h1, r1, h2, r2 => by
    rw [fd] at h1 h2 ⊢
    by_cases e1 : x = y
    · rw [if_pos (dq_true.2 e1)] at h1
      by_cases e2 : y = z
      · rw [if_pos (dq_true.2 e2)] at h2
        rw [if_pos (dq_true.2 (e1.trans e2))]
        exact fd_trans (fun u hu v hv w hw => htr u (by simp [hu]) v (by simp [hv]) w (by simp [hw])) (fun u hu => hir u (by simp [hu])) h1 r1 h2 r2
      · rw [if_neg (fun h => e2 (dq_true.1 h))] at h2
        cases h2
        subst e1
        rw [if_neg (fun h => e2 (dq_true.1 h))]
        exact ⟨_, _, rfl, r2⟩
    · rw [if_neg (fun h => e1 (dq_true.1 h))] at h1
      cases h1
      by_cases e2 : y = z
      · subst e2
        rw [if_neg (fun h => e1 (dq_true.1 h))]
        exact ⟨_, _, rfl, r1⟩
      · rw [if_neg (fun h => e2 (dq_true.1 h))] at h2
        cases h2
        have h3 := htr x (by simp) y (by simp) z (by simp) r1 r2
        have e3 : x ≠ z := fun e => by
          subst e
          exact hir x (by simp) h3
        rw [if_neg (fun h => e3 (dq_true.1 h))]
        exact ⟨_, _, rfl, h3⟩

/-! ### The path ordering -/
def Lp (o : Ord') (s t : T) : Prop := lpoN o (nodes s + nodes t) s t = true
theorem arg_nodes {s a : T} (h : a ∈ s.args) : nodes a < nodes s := by
  have := nodesL_mem h
  rw [nodes_eq s]
  omega
theorem any_congr' {α : Type} {p q : α → Bool} : ∀ {l : List α}, (∀ x ∈ l, p x = q x) → l.any p = l.any q
  | [], _ => rfl
  | x :: l, h => by rw [List.any_cons, List.any_cons, h x (by simp), any_congr' fun y hy => h y (by simp [hy])]
theorem lpo_stable (o : Ord') : ∀ (n m : Nat) (s t : T), nodes s + nodes t ≤ n → nodes s + nodes t ≤ m → lpoN o n s t = lpoN o m s t
  | 0, _, s, t, h, _ => by have := nodes_pos s; omega
  | _ + 1, 0, s, t, _, h => by have := nodes_pos s; omega
  | n + 1, m + 1, s, t, h1, h2 => by
    have e1 : (s.args.any fun a => dq a t || lpoN o n a t) = (s.args.any fun a => dq a t || lpoN o m a t) := any_congr' fun a ha => by
      have := arg_nodes ha
      rw [lpo_stable o n m a t (by omega) (by omega)]
    have e2 : (t.args.any fun b => !lpoN o n s b) = (t.args.any fun b => !lpoN o m s b) := any_congr' fun b hb => by
      have := arg_nodes hb
      rw [lpo_stable o n m s b (by omega) (by omega)]
    rw [lpoN, lpoN, e1, e2]
    cases hf : fd s.args t.args with
    | none => rfl
    | some p =>
      obtain ⟨a, b⟩ := p
      have hm := fd_mem hf
      have h3 := arg_nodes hm.1
      have h4 := arg_nodes hm.2
      simp only [lpo_stable o n m a b (by omega) (by omega)]
theorem Lp_iff (o : Ord') (s t : T) : Lp o s t ↔ varN s.name = false ∧ ((∃ a ∈ s.args, a = t ∨ Lp o a t) ∨ (varN t.name = false ∧ (∀ b ∈ t.args, Lp o s b) ∧ (0 < rootC o s t ∨ (rootC o s t = 0 ∧ ∃ a b, fd s.args t.args = some (a, b) ∧ Lp o a b)))) := by
  unfold Lp
  obtain ⟨n, hn⟩ : ∃ n, nodes s + nodes t = n + 1 := ⟨nodes s + nodes t - 1, by have := nodes_pos s; omega⟩
  rw [hn, lpoN]
  have e1 : (s.args.any fun a => dq a t || lpoN o n a t) = true ↔ ∃ a ∈ s.args, a = t ∨ lpoN o (nodes a + nodes t) a t = true := by
    rw [List.any_eq_true]
    refine exists_congr fun a => and_congr_right fun ha => ?_
    have := arg_nodes ha
    rw [Bool.or_eq_true, dq_true, lpo_stable o n (nodes a + nodes t) a t (by omega) (Nat.le_refl _)]
  have e2 : (t.args.any fun b => !lpoN o n s b) = true ↔ ¬ ∀ b ∈ t.args, lpoN o (nodes s + nodes b) s b = true := by
    rw [List.any_eq_true]
    constructor
    · rintro ⟨b, hb, h⟩ hall
      have := arg_nodes hb
      rw [lpo_stable o n (nodes s + nodes b) s b (by omega) (Nat.le_refl _), hall b hb] at h
      cases h
    · intro h
      obtain ⟨b, h⟩ := Classical.not_forall.1 h
      obtain ⟨hb, h⟩ := Classical.not_imp.1 h
      have := arg_nodes hb
      refine ⟨b, hb, ?_⟩
      rw [lpo_stable o n (nodes s + nodes b) s b (by omega) (Nat.le_refl _)]
      simpa using h
  have e3 : (match fd s.args t.args with | some (a, b) => lpoN o n a b | none => false) = true ↔ ∃ a b, fd s.args t.args = some (a, b) ∧ lpoN o (nodes a + nodes b) a b = true := by
    cases hf : fd s.args t.args with
    | none => simp
    | some p =>
      obtain ⟨a, b⟩ := p
      have hm := fd_mem hf
      have h3 := arg_nodes hm.1
      have h4 := arg_nodes hm.2
      dsimp only
      rw [lpo_stable o n (nodes a + nodes b) a b (by omega) (Nat.le_refl _)]
      constructor
      · intro h; exact ⟨a, b, rfl, h⟩
      · rintro ⟨a', b', h, h'⟩; cases h; exact h'
  cases hv : varN s.name
  · simp only [Bool.false_eq_true, if_false, true_and]
    by_cases h1 : (s.args.any fun a => dq a t || lpoN o n a t) = true
    · rw [if_pos h1]
      simp only [true_iff]
      exact Or.inl (e1.1 h1)
    · rw [if_neg h1]
      have h1' : ¬ ∃ a ∈ s.args, a = t ∨ lpoN o (nodes a + nodes t) a t = true := fun h => h1 (e1.2 h)
      cases hw : varN t.name
      · simp only [Bool.false_eq_true, if_false, true_and]
        by_cases h2 : (t.args.any fun b => !lpoN o n s b) = true
        · rw [if_pos h2]
          have := e2.1 h2
          simp only [Bool.false_eq_true, false_iff, not_or, not_and]
          exact ⟨h1', fun h => (this h).elim⟩
        · rw [if_neg h2]
          have hall : ∀ b ∈ t.args, lpoN o (nodes s + nodes b) s b = true := Classical.not_not.1 fun h => h2 (e2.2 h)
          by_cases h3 : 0 < rootC o s t
          · rw [if_pos h3]
            simp only [true_iff]
            exact Or.inr ⟨hall, Or.inl h3⟩
          · rw [if_neg h3]
            by_cases h4 : rootC o s t < 0
            · rw [if_pos h4]
              simp only [Bool.false_eq_true, false_iff, not_or, not_and]
              exact ⟨h1', fun _ => ⟨h3, fun h => by omega⟩⟩
            · rw [if_neg h4]
              refine Iff.trans e3 ?_
              constructor
              · intro h; exact Or.inr ⟨hall, Or.inr ⟨by omega, h⟩⟩
              · rintro (h | ⟨_, h | ⟨_, h⟩⟩)
                · exact (h1' h).elim
                · exact (h3 h).elim
                · exact h
      · simp only [if_true, Bool.true_eq_false, false_and, or_false]
        simp only [Bool.false_eq_true, false_iff]
        exact h1'
  · simp

theorem Lp_arg {o : Ord'} {s a : T} (hv : varN s.name = false) (ha : a ∈ s.args) : Lp o s a := (Lp_iff o s a).2 ⟨hv, Or.inl ⟨a, ha, Or.inl rfl⟩⟩
theorem lpo_main (o : Ord') : ∀ M : Nat, (∀ s t u, nodes s ≤ M → nodes t ≤ M → nodes u ≤ M → Lp o s t → Lp o t u → Lp o s u) ∧ (∀ x, nodes x ≤ M → ¬ Lp o x x) := by
  intro M
  induction M with
  | zero => exact ⟨fun s _ _ h => by have := nodes_pos s; omega, fun x h => by have := nodes_pos x; omega⟩
  | succ M ihM =>
    have tr : ∀ N s t u, nodes s + nodes t + nodes u ≤ N → nodes s ≤ M + 1 → nodes t ≤ M + 1 → nodes u ≤ M + 1 → Lp o s t → Lp o t u → Lp o s u := by
      intro N
      induction N with
      | zero => intro s _ _ h; have := nodes_pos s; omega
      | succ N ih =>
        intro s t u hN hs ht hu h1 h2
        obtain ⟨v1, c1⟩ := (Lp_iff o s t).1 h1
        rcases c1 with ⟨a, ha, h⟩ | ⟨v2, hall, hr⟩
        · have hn := arg_nodes ha
          refine (Lp_iff o s u).2 ⟨v1, Or.inl ⟨a, ha, Or.inr ?_⟩⟩
          rcases h with rfl | h
          · exact h2
          · exact ih a t u (by omega) (by omega) ht hu h h2
        · obtain ⟨_, c2⟩ := (Lp_iff o t u).1 h2
          rcases c2 with ⟨b, hb, h⟩ | ⟨v3, hall2, hr2⟩
          · have hn := arg_nodes hb
            rcases h with rfl | h
            · exact hall b hb
            · exact ih s b u (by omega) hs (by omega) hu (hall b hb) h
          · refine (Lp_iff o s u).2 ⟨v1, Or.inr ⟨v3, fun c hc => ?_, ?_⟩⟩
            · have hn := arg_nodes hc
              exact ih s t c (by omega) hs ht (by omega) h1 (hall2 c hc)
            · rw [rc_pos, rc_zero] at *
              rcases hr with hr | ⟨hr, a, b, hf, hL⟩
              · left
                rcases hr2 with hr2 | ⟨hr2, _⟩ <;> omega
              · rcases hr2 with hr2 | ⟨hr2, a', b', hf2, hL2⟩
                · left; omega
                · right
                  refine ⟨⟨by omega, by omega⟩, ?_⟩
                  exact fd_trans (R := Lp o) (fun x hx y hy z hz q1 q2 => by
                    have n1 := arg_nodes hx
                    have n2 := arg_nodes hy
                    have n3 := arg_nodes hz
                    exact ihM.1 x y z (by omega) (by omega) (by omega) q1 q2) (fun x hx => ihM.2 x (by have := arg_nodes hx; omega)) hf hL hf2 hL2
    refine ⟨fun s t u => tr _ s t u (Nat.le_refl _), fun x hx h => ?_⟩
    obtain ⟨v1, c1⟩ := (Lp_iff o x x).1 h
    rcases c1 with ⟨a, ha, h1⟩ | ⟨_, _, hr⟩
    · have hn := arg_nodes ha
      rcases h1 with rfl | h1
      · omega
      · exact ihM.2 a (by omega) (tr _ a x a (Nat.le_refl _) (by omega) hx (by omega) h1 (Lp_arg v1 ha))
    · rw [rc_self, fd_self] at hr
      rcases hr with hr | ⟨_, _, _, hr, _⟩
      · omega
      · cases hr
theorem Lp_trans {o : Ord'} {s t u : T} (h1 : Lp o s t) (h2 : Lp o t u) : Lp o s u := (lpo_main o (nodes s + nodes t + nodes u)).1 s t u (by omega) (by omega) (by omega) h1 h2
theorem Lp_irr (o : Ord') (x : T) : ¬ Lp o x x := (lpo_main o (nodes x)).2 x (Nat.le_refl _)

/-! ### The weight ordering -/
def Kp (o : Ord') (s t : T) : Prop := kboN o (nodes s + nodes t) s t = true
theorem kbo_stable (o : Ord') : ∀ (n m : Nat) (s t : T), nodes s + nodes t ≤ n → nodes s + nodes t ≤ m → kboN o n s t = kboN o m s t
  | 0, _, s, t, h, _ => by have := nodes_pos s; omega
  | _ + 1, 0, s, t, _, h => by have := nodes_pos s; omega
  | n + 1, m + 1, s, t, h1, h2 => by
    rw [kboN, kboN]
    cases hf : fd s.args t.args with
    | none => rfl
    | some p =>
      obtain ⟨a, b⟩ := p
      have hm := fd_mem hf
      have h3 := arg_nodes hm.1
      have h4 := arg_nodes hm.2
      simp only [kbo_stable o n m a b (by omega) (by omega)]
theorem Kp_iff (o : Ord') (s t : T) : Kp o s t ↔ bal s t = true ∧ (wt o t < wt o s ∨ (wt o s = wt o t ∧ (varN s.name = false ∧ varN t.name = false) ∧ (0 < rootC o s t ∨ (rootC o s t = 0 ∧ ∃ a b, fd s.args t.args = some (a, b) ∧ Kp o a b)))) := by
  unfold Kp
  obtain ⟨n, hn⟩ : ∃ n, nodes s + nodes t = n + 1 := ⟨nodes s + nodes t - 1, by have := nodes_pos s; omega⟩
  rw [hn, kboN]
  have e3 : (match fd s.args t.args with | some (a, b) => kboN o n a b | none => false) = true ↔ ∃ a b, fd s.args t.args = some (a, b) ∧ kboN o (nodes a + nodes b) a b = true := by
    cases hf : fd s.args t.args with
    | none => simp
    | some p =>
      obtain ⟨a, b⟩ := p
      have hm := fd_mem hf
      have h3 := arg_nodes hm.1
      have h4 := arg_nodes hm.2
      dsimp only
      rw [kbo_stable o n (nodes a + nodes b) a b (by omega) (Nat.le_refl _)]
      constructor
      · intro h; exact ⟨a, b, rfl, h⟩
      · rintro ⟨a', b', h, h'⟩; cases h; exact h'
  cases hb : bal s t
  · simp
  · rw [if_pos rfl]
    simp only [true_and]
    by_cases hw : wt o s = wt o t
    · rw [if_pos hw]
      have hw' : ¬ wt o t < wt o s := by omega
      cases hv : varN s.name
      · cases hv2 : varN t.name
        · simp only [Bool.or_self, Bool.false_eq_true, if_false, true_and, and_self]
          by_cases hr : rootC o s t = 0
          · rw [if_pos hr]
            refine Iff.trans e3 ?_
            constructor
            · intro h; exact Or.inr ⟨hw, Or.inr ⟨hr, h⟩⟩
            · rintro (h | ⟨_, h | ⟨_, h⟩⟩)
              · exact (hw' h).elim
              · omega
              · exact h
          · rw [if_neg hr, decide_eq_true_iff]
            constructor
            · intro h; exact Or.inr ⟨hw, Or.inl h⟩
            · rintro (h | ⟨_, h | ⟨h, _⟩⟩)
              · exact (hw' h).elim
              · exact h
              · exact (hr h).elim
        · simp [hw']
      · simp [hw']
    · rw [if_neg hw, decide_eq_true_iff]
      constructor
      · intro h; exact Or.inl h
      · rintro (h | ⟨h, _⟩)
        · exact h
        · exact (hw h).elim

/-- A variable that occurs is among the variables. -/
theorem vars_cnt {n : List UInt8} (hn : varN n = true) : ∀ t : T, okT t = true → (n ∈ varsT t ↔ 1 ≤ cnt n t) := by
  refine T.ind fun t ih hk => ?_
  have hL : ∀ ts : List T, (∀ u ∈ ts, (n ∈ varsT u ↔ 1 ≤ cnt n u)) → (n ∈ varsTL ts ↔ 1 ≤ cntL n ts) := by
    intro ts
    induction ts with
    | nil => intro _; simp [varsTL, cntL]
    | cons u us ih2 =>
      intro h
      have h1 := h u (by simp)
      have h2 := ih2 fun v hv => h v (by simp [hv])
      simp only [varsTL, cntL, List.mem_append, h1, h2]
      omega
  have hargs := hL t.args fun u hu => ih u hu (okT_args hk u hu)
  rw [varsT_eq, cnt_eq]
  rw [okT_eq] at hk
  cases hv : varN t.name
  · have hne : t.name ≠ n := fun e => by rw [e, hn] at hv; cases hv
    rw [if_neg Bool.false_ne_true, if_neg hne, hargs]
    omega
  · rw [hv, if_pos rfl] at hk
    have ha := List.isEmpty_iff.1 hk
    rw [if_pos rfl, List.mem_singleton, ha]
    by_cases e : t.name = n
    · rw [if_pos e]; simp [cntL, e]
    · rw [if_neg e]; simp [cntL]; exact fun h => e h.symm
theorem vars_var {n : List UInt8} : ∀ t : T, n ∈ varsT t → varN n = true := by
  refine T.ind fun t ih h => ?_
  rw [varsT_eq] at h
  cases hv : varN t.name
  · rw [hv, if_neg Bool.false_ne_true] at h
    have : ∀ ts : List T, (∀ u ∈ ts, n ∈ varsT u → varN n = true) → n ∈ varsTL ts → varN n = true := by
      intro ts
      induction ts with
      | nil => intro _ h; simp [varsTL] at h
      | cons u us ih2 =>
        intro h h2
        simp only [varsTL, List.mem_append] at h2
        rcases h2 with h2 | h2
        · exact h u (by simp) h2
        · exact ih2 (fun v hv => h v (by simp [hv])) h2
    exact this t.args ih h
  · rw [hv, if_pos rfl, List.mem_singleton] at h
    rw [h]; exact hv
theorem bal_iff {s t : T} : bal s t = true ↔ ∀ n ∈ varsT t, cnt n t ≤ cnt n s := by
  unfold bal
  rw [List.all_eq_true]
  simp
theorem bal_trans {s t u : T} (kt : okT t = true) (ku : okT u = true) (h1 : bal s t = true) (h2 : bal t u = true) : bal s u = true := by
  rw [bal_iff] at *
  intro n hn
  have hv := vars_var u hn
  have c1 := (vars_cnt hv u ku).1 hn
  have c2 := h2 n hn
  have c3 := h1 n ((vars_cnt hv t kt).2 (by omega))
  omega
theorem Kp_irr (o : Ord') (x : T) : ¬ Kp o x x := by
  intro h
  obtain ⟨_, h | ⟨_, _, h | ⟨_, _, _, h, _⟩⟩⟩ := (Kp_iff o x x).1 h
  · omega
  · rw [rc_self] at h; omega
  · rw [fd_self] at h; cases h
theorem kbo_main (o : Ord') : ∀ N s t u, nodes s + nodes t + nodes u ≤ N → okT s = true → okT t = true → okT u = true → Kp o s t → Kp o t u → Kp o s u := by
  intro N
  induction N with
  | zero => intro s _ _ h; have := nodes_pos s; omega
  | succ N ih =>
    intro s t u hN ks kt ku h1 h2
    obtain ⟨b1, c1⟩ := (Kp_iff o s t).1 h1
    obtain ⟨b2, c2⟩ := (Kp_iff o t u).1 h2
    refine (Kp_iff o s u).2 ⟨bal_trans kt ku b1 b2, ?_⟩
    rcases c1 with c1 | ⟨w1, v1, r1⟩
    · left
      rcases c2 with c2 | ⟨w2, _⟩ <;> omega
    · rcases c2 with c2 | ⟨w2, v2, r2⟩
      · left; omega
      · right
        refine ⟨by omega, ⟨v1.1, v2.2⟩, ?_⟩
        rw [rc_pos, rc_zero] at *
        rcases r1 with r1 | ⟨r1, a, b, hf, hL⟩
        · left
          rcases r2 with r2 | ⟨r2, _⟩ <;> omega
        · rcases r2 with r2 | ⟨r2, a', b', hf2, hL2⟩
          · left; omega
          · right
            refine ⟨⟨by omega, by omega⟩, ?_⟩
            exact fd_trans (R := Kp o) (fun x hx y hy z hz q1 q2 => by
              have n1 := arg_nodes hx
              have n2 := arg_nodes hy
              have n3 := arg_nodes hz
              exact ih x y z (by omega) (okT_args ks x hx) (okT_args kt y hy) (okT_args ku z hz) q1 q2) (fun x _ => Kp_irr o x) hf hL hf2 hL2
theorem Kp_trans {o : Ord'} {s t u : T} (ks : okT s = true) (kt : okT t = true) (ku : okT u = true) (h1 : Kp o s t) (h2 : Kp o t u) : Kp o s u := kbo_main o _ s t u (Nat.le_refl _) ks kt ku h1 h2
theorem cntL_mem {n : List UInt8} : ∀ {ts : List T} {t : T}, t ∈ ts → cnt n t ≤ cntL n ts
  | [], _, h => by cases h
  | u :: us, t, h => by
    simp only [cntL]
    rcases List.mem_cons.1 h with rfl | h
    · omega
    · have := cntL_mem (n := n) h; omega
theorem covT_args {l : List (List UInt8)} {t : T} (h : covT l t = true) : ∀ u ∈ t.args, covT l u = true := by
  rw [covT_eq, Bool.and_eq_true, covTL_all, List.all_eq_true] at h
  exact h.2
theorem wtL_mem {o : Ord'} (hv : validO o = true) : ∀ {ts : List T} {t : T}, (∀ u ∈ ts, covT o.syms u = true) → t ∈ ts → wt o t ≤ wtL o ts
  | [], _, _, h => by cases h
  | u :: us, t, hc, h => by
    simp only [wtL]
    have h0 := (wt_bound hv u (hc u (by simp))).1
    have h1 := (wtL_bound hv (ts := us) (by rw [covTL_all, List.all_eq_true]; exact fun v hv => hc v (by simp [hv]))).1
    rcases List.mem_cons.1 h with rfl | h
    · omega
    · have := wtL_mem hv (fun v hv => hc v (by simp [hv])) h; omega
theorem Kp_arg {o : Ord'} (hv : validO o = true) {s a : T} (hc : covT o.syms s = true) (ha : a ∈ s.args) : Kp o s a := by
  refine (Kp_iff o s a).2 ⟨?_, Or.inl ?_⟩
  · rw [bal_iff]
    intro n _
    have := cntL_mem (n := n) ha
    rw [cnt_eq n s]
    omega
  · have h1 := wtL_mem hv (covT_args hc) ha
    have h2 := wt_bound hv (.mk s.name []) (by
      have := hc
      rw [covT_eq, Bool.and_eq_true] at this
      rw [covT_eq]
      show ((varN s.name || o.syms.contains s.name) && true) = true
      rw [this.1]; rfl)
    have e1 := wt_eq o s
    have e2 := wt_eq o (.mk s.name [])
    have h3 : wtL o (T.mk s.name []).args = 0 := rfl
    have h4 : (T.mk s.name []).name = s.name := rfl
    rw [h3, h4] at e2
    generalize (if varN s.name = true then o.var else symW o s.name) = w at *
    omega

/-! ### Codes -/
theorem cmpKBO_eq (o : Ord') (s t : T) : cmpKBO o s t = codeI (dq s t) (@decide (Kp o s t) (Classical.propDecidable _)) (@decide (Kp o t s) (Classical.propDecidable _)) := by
  have e1 : kboN o (nodes s + nodes t) s t = @decide (Kp o s t) (Classical.propDecidable _) := by
    unfold Kp
    cases kboN o (nodes s + nodes t) s t <;> simp
  have e2 : kboN o (nodes s + nodes t) t s = @decide (Kp o t s) (Classical.propDecidable _) := by
    rw [kbo_stable o (nodes s + nodes t) (nodes t + nodes s) t s (by omega) (Nat.le_refl _)]
    unfold Kp
    cases kboN o (nodes t + nodes s) t s <;> simp
  unfold cmpKBO
  rw [e1, e2]
theorem cmpLPO_eq (o : Ord') (s t : T) : cmpLPO o s t = codeI (dq s t) (@decide (Lp o s t) (Classical.propDecidable _)) (@decide (Lp o t s) (Classical.propDecidable _)) := by
  have e1 : lpoN o (nodes s + nodes t) s t = @decide (Lp o s t) (Classical.propDecidable _) := by
    unfold Lp
    cases lpoN o (nodes s + nodes t) s t <;> simp
  have e2 : lpoN o (nodes s + nodes t) t s = @decide (Lp o t s) (Classical.propDecidable _) := by
    rw [lpo_stable o (nodes s + nodes t) (nodes t + nodes s) t s (by omega) (Nat.le_refl _)]
    unfold Lp
    cases lpoN o (nodes t + nodes s) t s <;> simp
  unfold cmpLPO
  rw [e1, e2]
/-- A result with its arguments exchanged. -/
def rbI (c : Int) : Int := if c = 2 then 3 else if c = 3 then 2 else c
open Classical in
theorem code_back {R : T → T → Prop} {s t : T} (h : ¬ (R s t ∧ R t s)) : codeI (dq t s) (decide (R t s)) (decide (R s t)) = rbI (codeI (dq s t) (decide (R s t)) (decide (R t s))) := by
  have e : dq t s = dq s t := by
    rw [Bool.eq_iff_iff, dq_true, dq_true]
    exact ⟨Eq.symm, Eq.symm⟩
  rw [e]
  unfold codeI rbI
  cases dq s t
  · by_cases h1 : R s t
    · have h2 : ¬ R t s := fun h2 => h ⟨h1, h2⟩
      simp [h1, h2]
    · by_cases h2 : R t s <;> simp [h1, h2]
  · simp
open Classical in
theorem code_two {R : T → T → Prop} {s t : T} (hir : ∀ x, ¬ R x x) : codeI (dq s t) (decide (R s t)) (decide (R t s)) = 2 ↔ R s t := by
  unfold codeI
  cases hd : dq s t
  · by_cases h1 : R s t
    · simp [h1]
    · by_cases h2 : R t s <;> simp [h1, h2]
  · have := dq_true.1 hd
    subst this
    simp [hir s]
theorem kbo_back {o : Ord'} {s t : T} (ks : okT s = true) (kt : okT t = true) : cmpKBO o t s = rbI (cmpKBO o s t) := by
  rw [cmpKBO_eq, cmpKBO_eq]
  exact code_back (R := Kp o) fun ⟨h1, h2⟩ => Kp_irr o s (Kp_trans ks kt ks h1 h2)
theorem lpo_back (o : Ord') (s t : T) : cmpLPO o t s = rbI (cmpLPO o s t) := by
  rw [cmpLPO_eq, cmpLPO_eq]
  exact code_back (R := Lp o) fun ⟨h1, h2⟩ => Lp_irr o s (Lp_trans h1 h2)
theorem kbo_two (o : Ord') (s t : T) : cmpKBO o s t = 2 ↔ Kp o s t := by
  rw [cmpKBO_eq]
  exact code_two (R := Kp o) (Kp_irr o)
theorem lpo_two (o : Ord') (s t : T) : cmpLPO o s t = 2 ↔ Lp o s t := by
  rw [cmpLPO_eq]
  exact code_two (R := Lp o) (Lp_irr o)
end Go.Proofs.YtbikhinddomhpaaGreat
