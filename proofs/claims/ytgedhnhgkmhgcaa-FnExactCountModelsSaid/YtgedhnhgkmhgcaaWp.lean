/- THE PLAIN LAW: the reference's count of models is the count of the numbered assignments that satisfy the set. -/
import Derived.Test.YtgedhnhgkmhgcaaWn
namespace Go.Proofs.Ytgedhnhgkmhgcaa
open Go

theorem status_zero (a : List Int) : ∀ (c : List Int) (f o : Int), 0 ≤ f → ((statusFrom a f o c).1 = 0 ↔ f = 0 ∧ ∀ x ∈ c, x ∉ a ∧ -x ∈ a)
  | [], f, o, _ => by simp [statusFrom]
  | x :: xs, f, o, hf => by
    simp only [statusFrom]
    by_cases h1 : x ∈ a
    · rw [if_pos (by simpa [hasI] using h1)]
      refine ⟨fun h => by simp at h, fun h => ((h.2 x (by simp)).1 h1).elim⟩
    · rw [if_neg (by simpa [hasI] using h1)]
      by_cases h2 : -x ∈ a
      · rw [if_pos (by simpa [hasI] using h2), status_zero a xs f o hf]
        simp [h1, h2]
      · rw [if_neg (by simpa [hasI] using h2), status_zero a xs (f + 1) x (by omega)]
        refine ⟨fun h => by omega, fun h => (h2 (h.2 x (by simp)).2).elim⟩

theorem isFalse_iff (a c : List Int) : isFalse a c = true ↔ ∀ x ∈ c, x ∉ a ∧ -x ∈ a := by
  unfold isFalse
  rw [beq_iff_eq, status_zero a c 0 0 (by omega)]
  simp

theorem sat_iff (a c : List Int) : sat a c = true ↔ ∃ x ∈ c, x ∈ a := by
  simp [sat, hasI]

/-- The assignments of d variables from v on that begin with a. -/
def leaves : Nat → List Int → Int → List (List Int)
  | 0, a, _ => [a]
  | d + 1, a, v => leaves d (a ++ [v]) (v + 1) ++ leaves d (a ++ [-v]) (v + 1)

/-- An assignment of the variables below v. -/
structure UpTo (a : List Int) (v : Int) : Prop where
  range : ∀ x ∈ a, 1 ≤ (x.natAbs : Int) ∧ (x.natAbs : Int) < v
  total : ∀ k : Int, 1 ≤ k → k < v → k ∈ a ∨ -k ∈ a
  one : ∀ x ∈ a, -x ∉ a

theorem upTo_nil : UpTo [] 1 := ⟨fun x hx => by simp at hx, fun k h1 h2 => by omega, fun x hx => by simp at hx⟩

theorem UpTo.snoc {a : List Int} {v y : Int} (h : UpTo a v) (hv : 1 ≤ v) (hy : y = v ∨ y = -v) : UpTo (a ++ [y]) (v + 1) where
  range := fun x hx => by
    rcases List.mem_append.1 hx with hx | hx
    · have := h.range x hx; omega
    · simp at hx; subst hx; omega
  total := fun k h1 h2 => by
    simp only [List.mem_append, List.mem_singleton]
    by_cases hk : k < v
    · rcases h.total k h1 hk with h | h
      · exact Or.inl (Or.inl h)
      · exact Or.inr (Or.inl h)
    · have : k = v := by omega
      subst this
      rcases hy with hy | hy
      · exact Or.inl (Or.inr hy.symm)
      · exact Or.inr (Or.inr hy.symm)
  one := fun x hx hn => by
    simp only [List.mem_append, List.mem_singleton] at hx hn
    rcases hx with hx | hx <;> rcases hn with hn | hn
    · exact h.one x hx hn
    · have := h.range x hx; omega
    · have := h.range _ hn; omega
    · omega

theorem leaves_upto : ∀ (d : Nat) (a : List Int) (v : Int), 1 ≤ v → UpTo a v → ∀ b ∈ leaves d a v, (∀ x ∈ a, x ∈ b) ∧ UpTo b (v + d)
  | 0, a, v, _, h, b, hb => by
    simp only [leaves, List.mem_singleton] at hb
    subst hb
    exact ⟨fun x hx => hx, by simpa using h⟩
  | d + 1, a, v, hv, h, b, hb => by
    simp only [leaves, List.mem_append] at hb
    rcases hb with hb | hb
    · have := leaves_upto d _ _ (by omega) (h.snoc hv (Or.inl rfl)) b hb
      exact ⟨fun x hx => this.1 x (by simp [hx]), by rw [show v + ((d + 1 : Nat) : Int) = v + 1 + d by omega]; exact this.2⟩
    · have := leaves_upto d _ _ (by omega) (h.snoc hv (Or.inr rfl)) b hb
      exact ⟨fun x hx => this.1 x (by simp [hx]), by rw [show v + ((d + 1 : Nat) : Int) = v + 1 + d by omega]; exact this.2⟩

theorem count_leaves (set : List (List Int)) : ∀ (d : Nat) (a : List Int) (v : Int), 1 ≤ v → UpTo a v → (∀ c ∈ set, ∀ x ∈ c, 1 ≤ (x.natAbs : Int) ∧ (x.natAbs : Int) < v + d) →
    countFrom set d a v = ((leaves d a v).countP fun b => set.all (sat b) : Nat)
  | 0, a, v, hv, h, hs => by
    simp only [countFrom, leaves, List.countP_cons, List.countP_nil]
    by_cases hf : set.any (isFalse a) = true
    · rw [if_pos hf]
      obtain ⟨c, hc, hfc⟩ := List.any_eq_true.1 hf
      have hnot : ¬ (set.all (sat a) = true) := fun hall => by
        have := List.all_eq_true.1 hall c hc
        obtain ⟨x, hx, hxa⟩ := (sat_iff a c).1 this
        exact ((isFalse_iff a c).1 hfc x hx).1 hxa
      simp [hnot]
    · rw [if_neg hf]
      have hall : set.all (sat a) = true := by
        refine List.all_eq_true.2 fun c hc => (sat_iff a c).2 ?_
        have hnf : ¬ isFalse a c = true := fun hh => hf (List.any_eq_true.2 ⟨c, hc, hh⟩)
        rw [isFalse_iff] at hnf
        obtain ⟨x, hx⟩ := Classical.not_forall.1 hnf
        obtain ⟨hxc, hx⟩ := Classical.not_imp.1 hx
        by_cases hxa : x ∈ a
        · exact ⟨x, hxc, hxa⟩
        · have hna : ¬ -x ∈ a := fun hh => hx ⟨hxa, hh⟩
          have hr := hs c hc x hxc
          rcases h.total (x.natAbs : Int) hr.1 (by omega) with ht | ht
          · rcases Int.natAbs_eq x with e | e
            · rw [← e] at ht; exact (hxa ht).elim
            · have : (x.natAbs : Int) = -x := by omega
              rw [this] at ht; exact (hna ht).elim
          · rcases Int.natAbs_eq x with e | e
            · rw [← e] at ht; exact (hna ht).elim
            · have : -(x.natAbs : Int) = x := by omega
              rw [this] at ht; exact (hxa ht).elim
      simp [hall]
  | d + 1, a, v, hv, h, hs => by
    by_cases hf : set.any (isFalse a) = true
    · have h0 : (leaves (d + 1) a v).countP (fun b => set.all (sat b)) = 0 := by
        rw [List.countP_eq_zero]
        intro b hb hall
        obtain ⟨c, hc, hfc⟩ := List.any_eq_true.1 hf
        obtain ⟨x, hx, hxb⟩ := (sat_iff b c).1 (List.all_eq_true.1 hall c hc)
        have hl := leaves_upto (d + 1) a v hv h b hb
        exact hl.2.one x hxb (hl.1 _ ((isFalse_iff a c).1 hfc x hx).2)
      rw [h0]
      simp only [countFrom]
      rw [if_pos hf]; rfl
    · simp only [countFrom]
      rw [if_neg hf, leaves, List.countP_append, count_leaves set d _ _ (by omega) (h.snoc hv (Or.inl rfl)) (fun c hc x hx => by have := hs c hc x hx; omega),
        count_leaves set d _ _ (by omega) (h.snoc hv (Or.inr rfl)) (fun c hc x hx => by have := hs c hc x hx; omega)]
      simp

theorem assignGo_app : ∀ (v num : Nat) (T : List Int), assignGo v num T = assignGo v num [] ++ T
  | 0, _, T => by simp [assignGo]
  | v + 1, num, T => by
    simp only [assignGo]
    rw [assignGo_app v (num / 2) (_ :: T), assignGo_app v (num / 2) [_]]
    simp

theorem range_two {α : Type} (g : Nat → α) : ∀ m : Nat, (List.range (2 * m)).map g = (List.range m).flatMap fun h => [g (2 * h), g (2 * h + 1)]
  | 0 => rfl
  | m + 1 => by
    rw [show 2 * (m + 1) = 2 * m + 1 + 1 by omega, List.range_succ, List.range_succ, List.range_succ]
    simp only [List.map_append, List.flatMap_append, range_two g m]
    simp

theorem leaves_last : ∀ (d : Nat) (a : List Int) (v : Int), leaves (d + 1) a v = (leaves d a v).flatMap fun b => [b ++ [v + d], b ++ [-(v + d)]]
  | 0, a, v => by simp [leaves]
  | d + 1, a, v => by
    rw [leaves, leaves_last d, leaves_last d, leaves, List.flatMap_append]
    have e : v + 1 + (d : Int) = v + ((d + 1 : Nat) : Int) := by omega
    rw [e]

theorem numbers_leaves : ∀ n : Nat, (List.range (2 ^ n)).map (fun k => assignGo n k []) = leaves n [] 1
  | 0 => by simp [leaves, assignGo]
  | n + 1 => by
    rw [Nat.pow_succ, Nat.mul_comm, range_two, leaves_last, ← numbers_leaves n, List.flatMap_map]
    congr 1
    funext h
    have e1 : (2 * h) % 2 = 0 := by omega
    have e2 : (2 * h) / 2 = h := by omega
    have e3 : (2 * h + 1) % 2 = 1 := by omega
    have e4 : (2 * h + 1) / 2 = h := by omega
    have e5 : ¬ (2 * h) % 2 = 1 := by omega
    simp only [assignGo]
    rw [if_neg e5, if_pos e3, e2, e4, assignGo_app n h [(n : Int) + 1], assignGo_app n h [-((n : Int) + 1)]]
    have e6 : (1 : Int) + n = n + 1 := by omega
    rw [e6]

theorem countM_eq (set : List (List Int)) (n : Nat) : ∀ k, countM set n k = (((List.range k).map (fun k => assignGo n k [])).countP fun b => set.all (sat b) : Nat)
  | 0 => rfl
  | k + 1 => by
    rw [List.range_succ, List.map_append, List.countP_append]
    simp only [countM]
    rw [countM_eq set n k]
    by_cases h : set.all (sat (assignGo n k [])) = true
    · simp [h]
    · simp [h]

theorem count_law (set : List (List Int)) (n : Nat) (hs : ∀ c ∈ set, ∀ x ∈ c, 1 ≤ (x.natAbs : Int) ∧ (x.natAbs : Int) ≤ n) : countFrom set n [] 1 = countM set n (2 ^ n) := by
  rw [countM_eq, numbers_leaves]
  exact count_leaves set n [] 1 (by omega) upTo_nil (fun c hc x hx => by have := hs c hc x hx; omega)

theorem propFrom_pos : ∀ (p : Int) (xs : List Int), 0 ≤ p → propFrom p xs = true → ∀ x ∈ xs, 1 ≤ (x.natAbs : Int)
  | _, [], _, _, x, hx => by cases hx
  | p, y :: ys, hp, h, x, hx => by
    simp only [propFrom, Bool.and_eq_true, decide_eq_true_eq] at h
    rcases List.mem_cons.1 hx with rfl | hx
    · omega
    · exact propFrom_pos _ ys (by omega) h.2 x hx

theorem counts_agree (set : List (List Int)) (n : Int) : (if validCount set n then countFrom set n.toNat [] 1 else 0) = (if validCount set n then countM set n.toNat (2 ^ n.toNat) else 0) := by
  by_cases h : validCount set n = true
  · rw [if_pos h, if_pos h]
    simp only [validCount, isClauses, Bool.and_eq_true, List.all_eq_true, decide_eq_true_eq] at h
    have hg := (greatestOf_le 0 set)
    refine count_law set n.toNat fun c hc x hx => ⟨propFrom_pos 0 c (by omega) (h.1.2 c hc) x hx, ?_⟩
    have := hg.2 c hc x hx
    omega
  · rw [if_neg h, if_neg h]
end Go.Proofs.Ytgedhnhgkmhgcaa
