/- SUBSTITUTIONS, AND THAT BOTH ORDERINGS ARE STABLE UNDER THEM. Plain. -/
import Derived.Test.YtbikhinddomhpaaGreatOm
namespace Go.Proofs.YtbikhinddomhpaaGreat
open Go Go.RowKit Go.Proofs.YtbikhinddomhpaaGreat.Abs

set_option linter.unusedSimpArgs false
set_option linter.unusedVariables false
set_option maxHeartbeats 1000000

/-- What a substitution gives for a variable. -/
def look : List (List UInt8 × T) → List UInt8 → Option T
  | [], _ => none
  | p :: u, n => if p.1 = n then some p.2 else look u n
def sub1 (u : List (List UInt8 × T)) (n : List UInt8) : T := (look u n).getD (.mk n [])
mutual
def sub (u : List (List UInt8 × T)) : T → T
  | .mk n us => if varN n then sub1 u n else .mk n (subL u us)
def subL (u : List (List UInt8 × T)) : List T → List T
  | [] => []
  | t :: ts => sub u t :: subL u ts
end
theorem subL_map (u : List (List UInt8 × T)) : ∀ ts : List T, subL u ts = ts.map (sub u)
  | [] => rfl
  | t :: ts => by rw [subL, subL_map u ts, List.map_cons]
theorem sub_var {u : List (List UInt8 × T)} {t : T} (h : varN t.name = true) : sub u t = sub1 u t.name := by
  obtain ⟨n, us⟩ := t
  have h : varN n = true := h
  show (if varN n then sub1 u n else T.mk n (subL u us)) = _
  rw [if_pos h]
  rfl
theorem sub_fun {u : List (List UInt8 × T)} {t : T} (h : varN t.name = false) : sub u t = .mk t.name (t.args.map (sub u)) := by
  obtain ⟨n, us⟩ := t
  have h : varN n = false := h
  show (if varN n then sub1 u n else T.mk n (subL u us)) = _
  rw [h, if_neg Bool.false_ne_true, subL_map]
  rfl
theorem sub_name {u : List (List UInt8 × T)} {t : T} (h : varN t.name = false) : (sub u t).name = t.name := by rw [sub_fun h]; rfl
theorem sub_args {u : List (List UInt8 × T)} {t : T} (h : varN t.name = false) : (sub u t).args = t.args.map (sub u) := by rw [sub_fun h]; rfl
theorem var_args {t : T} (h : okT t = true) (hv : varN t.name = true) : t.args = [] := by
  rw [okT_eq, hv, if_pos rfl] at h
  exact List.isEmpty_iff.1 h

/-! ### The path ordering is stable -/
theorem fd_sub (u : List (List UInt8 × T)) : ∀ {l r : List T} {a b : T}, fd l r = some (a, b) → sub u a ≠ sub u b → fd (l.map (sub u)) (r.map (sub u)) = some (sub u a, sub u b)
  | [], _, _, _, h, _ => by simp [fd] at h
  | _ :: _, [], _, _, h, _ => by simp [fd] at h
  | x :: l, y :: r, a, b, h, hne => by
    rw [fd] at h
    rw [List.map_cons, List.map_cons, fd]
    by_cases e : x = y
    · rw [if_pos (dq_true.2 e)] at h
      rw [if_pos (dq_true.2 (by rw [e]))]
      exact fd_sub u h hne
    · rw [if_neg (fun h => e (dq_true.1 h))] at h
      cases h
      rw [if_neg (fun h => hne (dq_true.1 h))]
theorem root_sub (o : Ord') (u : List (List UInt8 × T)) {s t : T} (hs : varN s.name = false) (ht : varN t.name = false) : rootC o (sub u s) (sub u t) = rootC o s t := by
  unfold rootC rk
  rw [sub_name hs, sub_name ht, sub_args hs, sub_args ht, List.length_map, List.length_map]
theorem Lp_sub {o : Ord'} (u : List (List UInt8 × T)) : ∀ (N : Nat) (s t : T), nodes s + nodes t ≤ N → Lp o s t → Lp o (sub u s) (sub u t) := by
  intro N
  induction N with
  | zero => intro s _ h; have := nodes_pos s; omega
  | succ N ih =>
    intro s t hN h
    obtain ⟨hs, h⟩ := (Lp_iff o s t).1 h
    refine (Lp_iff o _ _).2 ⟨by rw [sub_name hs]; exact hs, ?_⟩
    rw [sub_args hs]
    rcases h with ⟨a, ha, h⟩ | ⟨ht, hb, hr⟩
    · have na := arg_nodes ha
      refine Or.inl ⟨sub u a, List.mem_map_of_mem ha, ?_⟩
      rcases h with h | h
      · exact Or.inl (by rw [h])
      · exact Or.inr (ih a t (by omega) h)
    · refine Or.inr ⟨by rw [sub_name ht]; exact ht, ?_, ?_⟩
      · rw [sub_args ht]
        intro b hb'
        obtain ⟨c, hc, rfl⟩ := List.mem_map.1 hb'
        have nc := arg_nodes hc
        exact ih s c (by omega) (hb c hc)
      · rw [root_sub o u hs ht, sub_args ht]
        rcases hr with hr | ⟨hr, a, b, hf, hab⟩
        · exact Or.inl hr
        · have hm := fd_mem hf
          have na := arg_nodes hm.1
          have nb := arg_nodes hm.2
          have hab' := ih a b (by omega) hab
          exact Or.inr ⟨hr, _, _, fd_sub u hf (fun e => by rw [e] at hab'; exact Lp_irr o _ hab'), hab'⟩

/-! ### Sums over variables -/
def sumV (f : List UInt8 → Int) : List (List UInt8) → Int
  | [] => 0
  | x :: l => f x + sumV f l
theorem sumV_append (f : List UInt8 → Int) : ∀ l r : List (List UInt8), sumV f (l ++ r) = sumV f l + sumV f r
  | [], r => by simp [sumV]
  | x :: l, r => by simp only [List.cons_append, sumV, sumV_append f l r]; omega
theorem sumV_erase (f : List UInt8 → Int) : ∀ {l : List (List UInt8)} {x : List UInt8}, x ∈ l → sumV f l = f x + sumV f (l.erase x)
  | y :: l, x, h => by
    by_cases e : y = x
    · subst e
      rw [List.erase_cons_head, sumV]
    · rw [List.erase_cons_tail (by simpa using e)]
      have h : x ∈ l := by
        rcases List.mem_cons.1 h with h | h
        · exact (e h.symm).elim
        · exact h
      simp only [sumV, sumV_erase f h]
      omega
theorem sumV_nonneg {f : List UInt8 → Int} : ∀ {l : List (List UInt8)}, (∀ x ∈ l, 0 ≤ f x) → 0 ≤ sumV f l
  | [], _ => by simp [sumV]
  | x :: l, h => by
    have h1 := h x (by simp)
    have h2 := sumV_nonneg (l := l) fun y hy => h y (by simp [hy])
    simp only [sumV]
    omega
theorem sumV_le {f : List UInt8 → Int} : ∀ {l r : List (List UInt8)}, (∀ n, l.count n ≤ r.count n) → (∀ x ∈ r, 0 ≤ f x) → sumV f l ≤ sumV f r
  | [], r, _, h => by simpa [sumV] using sumV_nonneg h
  | x :: l, r, hc, h => by
    have hx : x ∈ r := by
      have := hc x
      rw [List.count_cons_self] at this
      exact List.count_pos_iff.1 (by omega)
    rw [sumV_erase f hx, sumV]
    have := sumV_le (f := f) (l := l) (r := r.erase x) (fun n => by
      have h1 := hc n
      rw [List.count_erase]
      rw [List.count_cons] at h1
      by_cases e : x = n
      · subst e
        simp only [beq_self_eq_true, if_true] at h1 ⊢
        omega
      · have e1 : (x == n) = false := by simpa using e
        have e2 : (n == x) = false := by simpa using fun h => e h.symm
        rw [e1] at h1
        simp only [e1, Bool.false_eq_true, if_false] at h1 ⊢
        omega) (fun y hy => h y (List.mem_of_mem_erase hy))
    omega
/-- Variables are counted. -/
theorem cnt_count {n : List UInt8} (hn : varN n = true) : ∀ t : T, okT t = true → cnt n t = (varsT t).count n := by
  refine T.ind fun t ih hk => ?_
  have hL : ∀ ts : List T, (∀ v ∈ ts, cnt n v = (varsT v).count n) → cntL n ts = (varsTL ts).count n := by
    intro ts
    induction ts with
    | nil => intro _; simp [varsTL, cntL]
    | cons v vs ih2 =>
      intro h
      simp only [varsTL, cntL, List.count_append, h v (by simp), ih2 fun w hw => h w (by simp [hw])]
  have hargs := hL t.args fun v hv => ih v hv (okT_args hk v hv)
  rw [varsT_eq, cnt_eq]
  cases hv : varN t.name
  · have hne : t.name ≠ n := fun e => by rw [e, hn] at hv; cases hv
    rw [if_neg Bool.false_ne_true, if_neg hne, hargs]
    omega
  · rw [var_args hk hv, if_pos rfl, List.count_cons]
    by_cases e : t.name = n
    · rw [if_pos e]; simp [cntL, e]
    · rw [if_neg e]; simp [cntL, e]
theorem vars_ok {t : T} (hk : okT t = true) (hv : varN t.name = true) : varsT t = [t.name] := by rw [varsT_eq, hv, if_pos rfl]
/-- Occurrences in what a substitution gives. -/
theorem cnt_sub {n : List UInt8} (hn : varN n = true) (u : List (List UInt8 × T)) : ∀ t : T, okT t = true → (cnt n (sub u t) : Int) = sumV (fun x => (cnt n (sub1 u x) : Int)) (varsT t) := by
  refine T.ind fun t ih hk => ?_
  have hL : ∀ ts : List T, (∀ v ∈ ts, (cnt n (sub u v) : Int) = sumV (fun x => (cnt n (sub1 u x) : Int)) (varsT v)) → (cntL n (ts.map (sub u)) : Int) = sumV (fun x => (cnt n (sub1 u x) : Int)) (varsTL ts) := by
    intro ts
    induction ts with
    | nil => intro _; simp [varsTL, cntL, sumV]
    | cons v vs ih2 =>
      intro h
      have h1 := h v (by simp)
      have h2 := ih2 fun w hw => h w (by simp [hw])
      simp only [varsTL, List.map_cons, cntL, sumV_append]
      omega
  have hargs := hL t.args fun v hv => ih v hv (okT_args hk v hv)
  cases hv : varN t.name
  · have hne : t.name ≠ n := fun e => by rw [e, hn] at hv; cases hv
    rw [cnt_eq, sub_name hv, sub_args hv, if_neg hne, varsT_eq, hv, if_neg Bool.false_ne_true]
    omega
  · rw [sub_var hv, vars_ok hk hv]
    simp [sumV]
theorem wt_sub (o : Ord') (u : List (List UInt8 × T)) : ∀ t : T, okT t = true → wt o (sub u t) = wt o t + sumV (fun x => wt o (sub1 u x) - o.var) (varsT t) := by
  refine T.ind fun t ih hk => ?_
  have hL : ∀ ts : List T, (∀ v ∈ ts, wt o (sub u v) = wt o v + sumV (fun x => wt o (sub1 u x) - o.var) (varsT v)) → wtL o (ts.map (sub u)) = wtL o ts + sumV (fun x => wt o (sub1 u x) - o.var) (varsTL ts) := by
    intro ts
    induction ts with
    | nil => intro _; simp [varsTL, wtL, sumV]
    | cons v vs ih2 =>
      intro h
      have h1 := h v (by simp)
      have h2 := ih2 fun w hw => h w (by simp [hw])
      simp only [varsTL, List.map_cons, wtL, sumV_append]
      omega
  have hargs := hL t.args fun v hv => ih v hv (okT_args hk v hv)
  cases hv : varN t.name
  · rw [wt_eq, wt_eq o t, sub_name hv, sub_args hv, hv, if_neg Bool.false_ne_true, varsT_eq, hv, if_neg Bool.false_ne_true]
    omega
  · rw [sub_var hv, vars_ok hk hv, wt_eq o t, var_args hk hv, hv, if_pos rfl]
    simp only [sumV, wtL]
    omega
theorem cov_sub {l : List (List UInt8)} {u : List (List UInt8 × T)} {x : List UInt8} : ∀ t : T, x ∈ varsT t → covT l (sub u t) = true → covT l (sub1 u x) = true := by
  refine T.ind fun t ih hx hc => ?_
  rw [varsT_eq] at hx
  cases hv : varN t.name
  · rw [hv, if_neg Bool.false_ne_true] at hx
    have hL : ∀ ts : List T, (∀ v ∈ ts, x ∈ varsT v → covT l (sub u v) = true → covT l (sub1 u x) = true) → x ∈ varsTL ts → (∀ v ∈ ts, covT l (sub u v) = true) → covT l (sub1 u x) = true := by
      intro ts
      induction ts with
      | nil => intro _ h; simp [varsTL] at h
      | cons v vs ih2 =>
        intro h hm hcs
        simp only [varsTL, List.mem_append] at hm
        rcases hm with hm | hm
        · exact h v (by simp) hm (hcs v (by simp))
        · exact ih2 (fun w hw => h w (by simp [hw])) hm fun w hw => hcs w (by simp [hw])
    refine hL t.args ih hx fun v hv' => ?_
    have := covT_args hc
    rw [sub_args hv] at this
    exact this _ (List.mem_map_of_mem hv')
  · rw [hv, if_pos rfl, List.mem_singleton] at hx
    rw [sub_var hv] at hc
    rw [hx]
    exact hc
theorem symW_var {o : Ord'} (hv : validO o = true) {n : List UInt8} (h : o.syms.contains n = true) : o.var ≤ symW o n := by
  obtain ⟨k, hk, hlt⟩ := cov_some h
  obtain ⟨h1, h2, h3, h4⟩ := validO_spec hv
  have h5 := h4 k hlt
  have hlt' : k < o.ws.length := by omega
  have e : symW o n = o.ws.getD k 0 := by simp [symW, hk]
  rw [e]
  exact h5.1
theorem wt_var {o : Ord'} (hv : validO o = true) {t : T} (hc : covT o.syms t = true) : o.var ≤ wt o t := by
  have hc' := hc
  rw [covT_eq, Bool.and_eq_true] at hc'
  have hb := (wtL_bound hv hc'.2).1
  rw [wt_eq]
  cases hn : varN t.name with
  | true => simp only [if_true]; omega
  | false =>
    have hcn := hc'.1
    rw [hn, Bool.false_or] at hcn
    have := symW_var hv hcn
    simp only [Bool.false_eq_true, if_false]
    omega

/-! ### The weight ordering is stable -/
theorem bal_count {s t : T} (ks : okT s = true) (kt : okT t = true) (h : bal s t = true) : ∀ n, (varsT t).count n ≤ (varsT s).count n := by
  intro n
  rw [bal_iff] at h
  by_cases hm : n ∈ varsT t
  · have hn := vars_var t hm
    have := h n hm
    rw [cnt_count hn t kt, cnt_count hn s ks] at this
    exact this
  · rw [List.count_eq_zero_of_not_mem hm]
    omega
theorem Kp_sub {o : Ord'} (hv : validO o = true) (u : List (List UInt8 × T)) : ∀ (N : Nat) (s t : T), nodes s + nodes t ≤ N → okT s = true → okT t = true → covT o.syms (sub u s) = true → Kp o s t → Kp o (sub u s) (sub u t) := by
  intro N
  induction N with
  | zero => intro s _ h; have := nodes_pos s; omega
  | succ N ih =>
    intro s t hN ks kt hc h
    obtain ⟨hb, h⟩ := (Kp_iff o s t).1 h
    have hcount := bal_count ks kt hb
    have w1 := wt_sub o u s ks
    have w2 := wt_sub o u t kt
    have w3 := sumV_le (f := fun x => wt o (sub1 u x) - o.var) hcount fun x hx => by
      have := wt_var hv (cov_sub s hx hc)
      show 0 ≤ wt o (sub1 u x) - o.var
      omega
    refine (Kp_iff o _ _).2 ⟨?_, ?_⟩
    · rw [bal_iff]
      intro n hn
      have hnv := vars_var _ hn
      have c1 := cnt_sub hnv u t kt
      have c2 := cnt_sub hnv u s ks
      have c3 := sumV_le (f := fun x => (cnt n (sub1 u x) : Int)) hcount fun x _ => by show (0 : Int) ≤ (cnt n (sub1 u x) : Int); omega
      omega
    · rcases h with h | ⟨hw, ⟨vs, vt⟩, hr⟩
      · left; omega
      · by_cases hlt : wt o (sub u t) < wt o (sub u s)
        · exact Or.inl hlt
        · refine Or.inr ⟨by omega, ⟨by rw [sub_name vs]; exact vs, by rw [sub_name vt]; exact vt⟩, ?_⟩
          rw [root_sub o u vs vt, sub_args vs, sub_args vt]
          rcases hr with hr | ⟨hr, a, b, hf, hab⟩
          · exact Or.inl hr
          · have hm := fd_mem hf
            have na := arg_nodes hm.1
            have nb := arg_nodes hm.2
            have hca : covT o.syms (sub u a) = true := by
              have := covT_args hc
              rw [sub_args vs] at this
              exact this _ (List.mem_map_of_mem hm.1)
            have hab' := ih a b (by omega) (okT_args ks a hm.1) (okT_args kt b hm.2) hca hab
            exact Or.inr ⟨hr, _, _, fd_sub u hf (fun e => by rw [e] at hab'; exact Kp_irr o _ hab'), hab'⟩
end Go.Proofs.YtbikhinddomhpaaGreat
