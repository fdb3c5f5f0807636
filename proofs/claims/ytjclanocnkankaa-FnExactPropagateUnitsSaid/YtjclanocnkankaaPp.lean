/- PROPOSITIONAL CLAUSE SETS: the plain laws (validity, models, unit propagation, resolution, insertion). -/
import Derived.Test.YtjclanocnkankaaU
namespace Go.Proofs.Ytjclanocnkankaa
open Go Go.RowKit Go.Proofs.Ytjclanocnkankaa.Abs

/-! ### Clauses -/
def propFrom : Int → List Int → Bool
  | _, [] => true
  | p, x :: xs => decide (p < (x.natAbs : Int)) && decide ((x.natAbs : Int) ≤ 12) && propFrom x.natAbs xs
def isPropC (xs : List Int) : Bool := propFrom 0 xs
def isClauses (xss : List (List Int)) : Bool := decide (xss.length ≤ 40) && xss.all isPropC
def hasI (xs : List Int) (v : Int) : Bool := decide (v ∈ xs)
theorem hasI_iff {xs : List Int} {v : Int} : hasI xs v = true ↔ v ∈ xs := by simp [hasI]

theorem propFrom_small : ∀ {p : Int} {xs : List Int}, propFrom p xs = true → ∀ x ∈ xs, (x.natAbs : Int) ≤ 12
  | _, [], _, x, hx => by cases hx
  | p, y :: ys, h, x, hx => by
    simp only [propFrom, Bool.and_eq_true, decide_eq_true_eq] at h
    rcases List.mem_cons.1 hx with rfl | hx
    · exact h.1.2
    · exact propFrom_small h.2 x hx
theorem propFrom_pos : ∀ {p : Int} {xs : List Int}, propFrom p xs = true → ∀ x ∈ xs, p < (x.natAbs : Int)
  | _, [], _, x, hx => by cases hx
  | p, y :: ys, h, x, hx => by
    simp only [propFrom, Bool.and_eq_true, decide_eq_true_eq] at h
    rcases List.mem_cons.1 hx with rfl | hx
    · exact h.1.1
    · have := propFrom_pos h.2 x hx; omega
theorem propFrom_len : ∀ {p : Int} {xs : List Int}, propFrom p xs = true → 0 ≤ p → p ≤ 12 → (xs.length : Int) ≤ 12 - p
  | p, [], _, h0, h => by simp; omega
  | p, y :: ys, h, h0, _ => by
    simp only [propFrom, Bool.and_eq_true, decide_eq_true_eq] at h
    have := propFrom_len h.2 (by omega) (by omega)
    simp only [List.length_cons]; omega
theorem propC_len {xs : List Int} (h : isPropC xs = true) : xs.length ≤ 12 := by have := propFrom_len h (by omega) (by omega); omega
theorem propC_pos {xs : List Int} (h : isPropC xs = true) : ∀ x ∈ xs, 1 ≤ (x.natAbs : Int) ∧ (x.natAbs : Int) ≤ 12 := fun x hx => ⟨by have := propFrom_pos h x hx; omega, propFrom_small h x hx⟩
theorem propFrom_le : ∀ {p q : Int} {xs : List Int}, propFrom p xs = true → q ≤ p → propFrom q xs = true
  | _, _, [], _, _ => rfl
  | p, q, y :: ys, h, hq => by
    simp only [propFrom, Bool.and_eq_true, decide_eq_true_eq] at h ⊢
    exact ⟨⟨by omega, h.1.2⟩, h.2⟩
theorem propFrom_filter (g : Int → Bool) : ∀ {p : Int} {xs : List Int}, propFrom p xs = true → propFrom p (xs.filter g) = true
  | _, [], _ => rfl
  | p, y :: ys, h => by
    simp only [propFrom, Bool.and_eq_true, decide_eq_true_eq] at h
    rw [List.filter_cons]
    split
    · simp only [propFrom, Bool.and_eq_true, decide_eq_true_eq]
      exact ⟨h.1, propFrom_filter g h.2⟩
    · exact propFrom_le (propFrom_filter g h.2) (by omega)
/-- A clause holds no variable twice. -/
theorem propFrom_one : ∀ {p : Int} {xs : List Int}, propFrom p xs = true → ∀ x ∈ xs, ∀ y ∈ xs, x.natAbs = y.natAbs → x = y
  | _, [], _, x, hx, _, _, _ => by cases hx
  | p, z :: zs, h, x, hx, y, hy, e => by
    simp only [propFrom, Bool.and_eq_true, decide_eq_true_eq] at h
    rcases List.mem_cons.1 hx with h1 | h1 <;> rcases List.mem_cons.1 hy with h2 | h2
    · rw [h1, h2]
    · subst h1; have := propFrom_pos h.2 y h2; omega
    · subst h2; have := propFrom_pos h.2 x h1; omega
    · exact propFrom_one h.2 x h1 y h2 e

/-! ### Models -/
def greatestIn : Int → List Int → Int
  | m, [] => m
  | m, x :: xs => greatestIn (max m (x.natAbs : Int)) xs
def greatestOf : Int → List (List Int) → Int
  | m, [] => m
  | m, c :: cs => greatestOf (greatestIn m c) cs
theorem greatestIn_le : ∀ (m : Int) (c : List Int), m ≤ greatestIn m c ∧ ∀ x ∈ c, (x.natAbs : Int) ≤ greatestIn m c
  | m, [] => by simp [greatestIn]
  | m, x :: xs => by
    have ih := greatestIn_le (max m (x.natAbs : Int)) xs
    simp only [greatestIn]
    refine ⟨by omega, fun y hy => ?_⟩
    rcases List.mem_cons.1 hy with rfl | hy
    · omega
    · exact ih.2 y hy
theorem greatestOf_le : ∀ (m : Int) (set : List (List Int)), m ≤ greatestOf m set ∧ ∀ c ∈ set, ∀ x ∈ c, (x.natAbs : Int) ≤ greatestOf m set
  | m, [] => by simp [greatestOf]
  | m, c :: cs => by
    have ih := greatestOf_le (greatestIn m c) cs
    have h := greatestIn_le m c
    simp only [greatestOf]
    refine ⟨by omega, fun d hd x hx => ?_⟩
    rcases List.mem_cons.1 hd with rfl | hd
    · have := h.2 x hx; omega
    · exact ih.2 d hd x hx
theorem greatestIn_max : ∀ {m b : Int} {c : List Int}, m ≤ b → (∀ x ∈ c, (x.natAbs : Int) ≤ b) → greatestIn m c ≤ b
  | m, b, [], h, _ => h
  | m, b, x :: xs, h, hc => by
    have := hc x (by simp)
    exact greatestIn_max (m := max m (x.natAbs : Int)) (c := xs) (by omega) fun y hy => hc y (by simp [hy])
theorem greatestOf_max : ∀ {m b : Int} {set : List (List Int)}, m ≤ b → (∀ c ∈ set, ∀ x ∈ c, (x.natAbs : Int) ≤ b) → greatestOf m set ≤ b
  | m, b, [], h, _ => h
  | m, b, c :: cs, h, hc => greatestOf_max (m := greatestIn m c) (set := cs) (greatestIn_max h (hc c (by simp))) fun d hd => hc d (by simp [hd])

def statusFrom (a : List Int) : Int → Int → List Int → Int × Int
  | f, o, [] => (f, o)
  | f, o, x :: xs => if hasI a x then (-1, 0) else if hasI a (-x) then statusFrom a f o xs else statusFrom a (f + 1) x xs
def isFalse (a c : List Int) : Bool := decide ((statusFrom a 0 0 c).1 = 0)
def sat (a c : List Int) : Bool := c.any (hasI a)
def openL (a c : List Int) : List Int := c.filter fun l => !hasI a (-l)

/-- The status in terms of what is open. -/
theorem status_open (a : List Int) : ∀ (c : List Int) (f o : Int), 0 ≤ f → statusFrom a f o c = if sat a c then (-1, 0) else (f + ((openL a c).length : Nat), (openL a c).getLastD o)
  | [], f, o, _ => by simp [statusFrom, sat, openL]
  | x :: xs, f, o, hf => by
    rw [statusFrom]
    cases h1 : hasI a x with
    | true => simp [sat, h1]
    | false =>
      rw [if_neg (by simp)]
      have hs : sat a (x :: xs) = sat a xs := by simp [sat, h1]
      cases h2 : hasI a (-x) with
      | true =>
        have ho : openL a (x :: xs) = openL a xs := by simp [openL, h2]
        rw [if_pos rfl, status_open a xs f o hf, hs, ho]
      | false =>
        have ho : openL a (x :: xs) = x :: openL a xs := by simp [openL, h2]
        rw [if_neg (by simp), status_open a xs (f + 1) x (by omega), hs, ho]
        split
        · rfl
        · rw [Prod.mk.injEq]
          refine ⟨by simp only [List.length_cons]; omega, ?_⟩
          cases openL a xs <;> rfl
theorem isFalse_open (a c : List Int) : isFalse a c = (!sat a c && decide ((openL a c).length = 0)) := by
  unfold isFalse
  rw [status_open a c 0 0 (by omega)]
  cases sat a c
  · simp only [Bool.false_eq_true, if_false, Bool.not_false, Bool.true_and, Int.zero_add]
    exact decide_eq_decide.2 (by omega)
  · simp

theorem sat_iff (a c : List Int) : sat a c = true ↔ ∃ x ∈ c, x ∈ a := by
  simp [sat, hasI]
theorem isFalse_iff (a c : List Int) : isFalse a c = true ↔ ∀ x ∈ c, x ∉ a ∧ -x ∈ a := by
  rw [isFalse_open]
  simp only [Bool.and_eq_true, Bool.not_eq_true', decide_eq_true_eq, List.length_eq_zero_iff]
  rw [← Bool.not_eq_true, sat_iff]
  unfold openL
  rw [List.filter_eq_nil_iff]
  simp only [hasI, Bool.not_eq_true', decide_eq_false_iff_not, Classical.not_not]
  exact ⟨fun ⟨h1, h2⟩ x hx => ⟨fun ha => h1 ⟨x, hx, ha⟩, h2 x hx⟩, fun h => ⟨fun ⟨x, hx, ha⟩ => (h x hx).1 ha, fun x hx => (h x hx).2⟩⟩

/-- The assignments of d variables from v on that begin with a. -/
def leaves : Nat → List Int → Int → List (List Int)
  | 0, a, _ => [a]
  | d + 1, a, v => leaves d (a ++ [v]) (v + 1) ++ leaves d (a ++ [-v]) (v + 1)

/-- An assignment of the variables below v. -/
structure UpTo (a : List Int) (v : Int) : Prop where
  range : ∀ x ∈ a, 1 ≤ (x.natAbs : Int) ∧ (x.natAbs : Int) < v
  total : ∀ k : Int, 1 ≤ k → k < v → k ∈ a ∨ -k ∈ a
  one : ∀ x ∈ a, -x ∉ a

theorem upTo_nil : UpTo [] 1 := ⟨fun x hx => by simp at hx, fun k h1 h2 => by omega, fun x hx => by simp at hx⟩

theorem UpTo.snoc {a : List Int} {v y : Int} (h : UpTo a v) (hv : 1 ≤ v) (hy : y = v ∨ y = -v) : UpTo (a ++ [y]) (v + 1) where
  range := fun x hx => by
    rcases List.mem_append.1 hx with hx | hx
    · have := h.range x hx; omega
    · simp at hx; subst hx; omega
  total := fun k h1 h2 => by
    simp only [List.mem_append, List.mem_singleton]
    by_cases hk : k < v
    · rcases h.total k h1 hk with h | h
      · exact Or.inl (Or.inl h)
      · exact Or.inr (Or.inl h)
    · have : k = v := by omega
      subst this
      rcases hy with hy | hy
      · exact Or.inl (Or.inr hy.symm)
      · exact Or.inr (Or.inr hy.symm)
  one := fun x hx hn => by
    simp only [List.mem_append, List.mem_singleton] at hx hn
    rcases hx with hx | hx <;> rcases hn with hn | hn
    · exact h.one x hx hn
    · have := h.range x hx; omega
    · have := h.range _ hn; omega
    · omega

theorem leaves_upto : ∀ (d : Nat) (a : List Int) (v : Int), 1 ≤ v → UpTo a v → ∀ b ∈ leaves d a v, (∀ x ∈ a, x ∈ b) ∧ UpTo b (v + d)
  | 0, a, v, _, h, b, hb => by
    simp only [leaves, List.mem_singleton] at hb
    subst hb
    exact ⟨fun x hx => hx, by simpa using h⟩
  | d + 1, a, v, hv, h, b, hb => by
    simp only [leaves, List.mem_append] at hb
    rcases hb with hb | hb
    · have := leaves_upto d _ _ (by omega) (h.snoc hv (Or.inl rfl)) b hb
      exact ⟨fun x hx => this.1 x (by simp [hx]), by rw [show v + ((d + 1 : Nat) : Int) = v + 1 + d by omega]; exact this.2⟩
    · have := leaves_upto d _ _ (by omega) (h.snoc hv (Or.inr rfl)) b hb
      exact ⟨fun x hx => this.1 x (by simp [hx]), by rw [show v + ((d + 1 : Nat) : Int) = v + 1 + d by omega]; exact this.2⟩

/-- The reference's search: d variables are free from v on. -/
def searchFrom (set : List (List Int)) : Nat → List Int → Int → Option (List Int)
  | 0, a, _ => if set.any (isFalse a) then none else some a
  | d + 1, a, v => if set.any (isFalse a) then none else (searchFrom set d (a ++ [v]) (v + 1)).or (searchFrom set d (a ++ [-v]) (v + 1))

theorem search_leaves (set : List (List Int)) : ∀ (d : Nat) (a : List Int) (v : Int), 1 ≤ v → UpTo a v → (∀ c ∈ set, ∀ x ∈ c, 1 ≤ (x.natAbs : Int) ∧ (x.natAbs : Int) < v + d) →
    searchFrom set d a v = (leaves d a v).find? fun b => set.all (sat b)
  | 0, a, v, hv, h, hs => by
    simp only [searchFrom, leaves, List.find?_cons, List.find?_nil]
    by_cases hf : set.any (isFalse a) = true
    · rw [if_pos hf]
      obtain ⟨c, hc, hfc⟩ := List.any_eq_true.1 hf
      have hnot : ¬ (set.all (sat a) = true) := fun hall => by
        have := List.all_eq_true.1 hall c hc
        obtain ⟨x, hx, hxa⟩ := (sat_iff a c).1 this
        exact ((isFalse_iff a c).1 hfc x hx).1 hxa
      simp [hnot]
    · rw [if_neg hf]
      have hall : set.all (sat a) = true := by
        refine List.all_eq_true.2 fun c hc => (sat_iff a c).2 ?_
        have hnf : ¬ isFalse a c = true := fun hh => hf (List.any_eq_true.2 ⟨c, hc, hh⟩)
        rw [isFalse_iff] at hnf
        obtain ⟨x, hx⟩ := Classical.not_forall.1 hnf
        obtain ⟨hxc, hx⟩ := Classical.not_imp.1 hx
        by_cases hxa : x ∈ a
        · exact ⟨x, hxc, hxa⟩
        · have hna : ¬ -x ∈ a := fun hh => hx ⟨hxa, hh⟩
          have hr := hs c hc x hxc
          rcases h.total (x.natAbs : Int) hr.1 (by omega) with ht | ht
          · rcases Int.natAbs_eq x with e | e
            · rw [← e] at ht; exact (hxa ht).elim
            · have : (x.natAbs : Int) = -x := by omega
              rw [this] at ht; exact (hna ht).elim
          · rcases Int.natAbs_eq x with e | e
            · rw [← e] at ht; exact (hna ht).elim
            · have : -(x.natAbs : Int) = x := by omega
              rw [this] at ht; exact (hxa ht).elim
      simp [hall]
  | d + 1, a, v, hv, h, hs => by
    by_cases hf : set.any (isFalse a) = true
    · have h0 : (leaves (d + 1) a v).find? (fun b => set.all (sat b)) = none := by
        rw [List.find?_eq_none]
        intro b hb hall
        obtain ⟨c, hc, hfc⟩ := List.any_eq_true.1 hf
        obtain ⟨x, hx, hxb⟩ := (sat_iff b c).1 (List.all_eq_true.1 hall c hc)
        have hl := leaves_upto (d + 1) a v hv h b hb
        exact hl.2.one x hxb (hl.1 _ ((isFalse_iff a c).1 hfc x hx).2)
      rw [h0]
      simp only [searchFrom]
      rw [if_pos hf]
    · simp only [searchFrom]
      rw [if_neg hf, leaves, List.find?_append, search_leaves set d _ _ (by omega) (h.snoc hv (Or.inl rfl)) (fun c hc x hx => by have := hs c hc x hx; omega),
        search_leaves set d _ _ (by omega) (h.snoc hv (Or.inr rfl)) (fun c hc x hx => by have := hs c hc x hx; omega)]

/-- The assignment with a number, from behind: v variables are left. -/
def assignGo : Nat → Nat → List Int → List Int
  | 0, _, T => T
  | v + 1, num, T => assignGo v (num / 2) ((if num % 2 = 1 then -((v : Int) + 1) else (v : Int) + 1) :: T)
theorem assignGo_length : ∀ (v num : Nat) (T : List Int), (assignGo v num T).length = v + T.length
  | 0, _, T => by simp [assignGo]
  | v + 1, num, T => by rw [assignGo, assignGo_length]; simp; omega
theorem assignGo_app : ∀ (v num : Nat) (T : List Int), assignGo v num T = assignGo v num [] ++ T
  | 0, _, T => by simp [assignGo]
  | v + 1, num, T => by
    simp only [assignGo]
    rw [assignGo_app v (num / 2) (_ :: T), assignGo_app v (num / 2) [_]]
    simp
theorem range_two {α : Type} (g : Nat → α) : ∀ m : Nat, (List.range (2 * m)).map g = (List.range m).flatMap fun h => [g (2 * h), g (2 * h + 1)]
  | 0 => rfl
  | m + 1 => by
    rw [show 2 * (m + 1) = 2 * m + 1 + 1 by omega, List.range_succ, List.range_succ, List.range_succ]
    simp only [List.map_append, List.flatMap_append, range_two g m]
    simp
theorem leaves_last : ∀ (d : Nat) (a : List Int) (v : Int), leaves (d + 1) a v = (leaves d a v).flatMap fun b => [b ++ [v + d], b ++ [-(v + d)]]
  | 0, a, v => by simp [leaves]
  | d + 1, a, v => by
    rw [leaves, leaves_last d, leaves_last d, leaves, List.flatMap_append]
    have e : v + 1 + (d : Int) = v + ((d + 1 : Nat) : Int) := by omega
    rw [e]
theorem numbers_leaves : ∀ n : Nat, (List.range (2 ^ n)).map (fun k => assignGo n k []) = leaves n [] 1
  | 0 => by simp [leaves, assignGo]
  | n + 1 => by
    rw [Nat.pow_succ, Nat.mul_comm, range_two, leaves_last, ← numbers_leaves n, List.flatMap_map]
    congr 1
    funext h
    have e1 : (2 * h) % 2 = 0 := by omega
    have e2 : (2 * h) / 2 = h := by omega
    have e3 : (2 * h + 1) % 2 = 1 := by omega
    have e4 : (2 * h + 1) / 2 = h := by omega
    have e5 : ¬ (2 * h) % 2 = 1 := by omega
    simp only [assignGo]
    rw [if_neg e5, if_pos e3, e2, e4, assignGo_app n h [(n : Int) + 1], assignGo_app n h [-((n : Int) + 1)]]
    have e6 : (1 : Int) + n = n + 1 := by omega
    rw [e6]

/-- The first number from k on whose assignment satisfies the set. -/
def firstFrom (set : List (List Int)) (n : Nat) : Nat → Nat → Option (List Int)
  | 0, _ => none
  | d + 1, k => if set.all (sat (assignGo n k [])) then some (assignGo n k []) else firstFrom set n d (k + 1)
theorem firstFrom_find (set : List (List Int)) (n : Nat) : ∀ (d k : Nat), firstFrom set n d k = ((List.range' k d).map (fun k => assignGo n k [])).find? fun b => set.all (sat b)
  | 0, k => rfl
  | d + 1, k => by
    rw [firstFrom, List.range'_succ, List.map_cons, List.find?_cons, firstFrom_find set n d (k + 1)]
    cases set.all (sat (assignGo n k [])) <;> rfl
theorem first_law (set : List (List Int)) (n : Nat) (hs : ∀ c ∈ set, ∀ x ∈ c, 1 ≤ (x.natAbs : Int) ∧ (x.natAbs : Int) ≤ n) : searchFrom set n [] 1 = firstFrom set n (2 ^ n) 0 := by
  rw [firstFrom_find, ← List.range_eq_range', numbers_leaves]
  exact search_leaves set n [] 1 (by omega) upTo_nil (fun c hc x hx => by have := hs c hc x hx; omega)
theorem small_of_valid {set : List (List Int)} (h : isClauses set = true) : ∀ c ∈ set, ∀ x ∈ c, 1 ≤ (x.natAbs : Int) ∧ (x.natAbs : Int) ≤ 12 := by
  simp only [isClauses, Bool.and_eq_true, List.all_eq_true] at h
  exact fun c hc => propC_pos (h.2 c hc)

/-! ### Insertion -/
def put : List Int → Int → List Int
  | [], x => [x]
  | c :: cs, x => if c.natAbs < x.natAbs then c :: put cs x else x :: c :: cs
theorem put_mem : ∀ {cs : List Int} {x y : Int}, y ∈ put cs x ↔ y ∈ cs ∨ y = x
  | [], x, y => by simp [put]
  | c :: cs, x, y => by
    rw [put]
    split
    · simp only [List.mem_cons, put_mem, or_assoc]
    · simp only [List.mem_cons]; exact ⟨fun h => h.elim Or.inr Or.inl, fun h => h.elim Or.inr Or.inl⟩
theorem put_length : ∀ (cs : List Int) (x : Int), (put cs x).length = cs.length + 1
  | [], x => rfl
  | c :: cs, x => by
    rw [put]
    split
    · simp [put_length cs x]
    · rfl
theorem put_prop : ∀ {p : Int} {cs : List Int} {x : Int}, propFrom p cs = true → p < (x.natAbs : Int) → (x.natAbs : Int) ≤ 12 → (∀ c ∈ cs, c.natAbs ≠ x.natAbs) → propFrom p (put cs x) = true
  | p, [], x, _, h1, h2, _ => by simp [put, propFrom, h1, h2]
  | p, c :: cs, x, h, h1, h2, h3 => by
    simp only [propFrom, Bool.and_eq_true, decide_eq_true_eq] at h
    have hc := h3 c (by simp)
    rw [put]
    split
    · simp only [propFrom, Bool.and_eq_true, decide_eq_true_eq]
      exact ⟨h.1, put_prop h.2 (by omega) h2 fun d hd => h3 d (by simp [hd])⟩
    · simp only [propFrom, Bool.and_eq_true, decide_eq_true_eq]
      exact ⟨⟨h1, h2⟩, ⟨⟨by omega, h.1.2⟩, h.2⟩⟩
/-- Behind all: put at the end. -/
theorem put_last : ∀ {cs : List Int} {x : Int}, (∀ c ∈ cs, c.natAbs < x.natAbs) → put cs x = cs ++ [x]
  | [], x, _ => rfl
  | c :: cs, x, h => by
    rw [put, if_pos (h c (by simp)), put_last fun d hd => h d (by simp [hd])]
    rfl
theorem put_before : ∀ {cs : List Int} {x y : Int}, ¬ y.natAbs < x.natAbs → put (cs ++ [y]) x = put cs x ++ [y]
  | [], x, y, h => by simp [put, h]
  | c :: cs, x, y, h => by
    simp only [List.cons_append, put]
    split
    · rw [put_before h]; rfl
    · rfl

/-- An element goes down past the greater ones. -/
def sink (x : Int) : List Int → List Int → List Int
  | [], B => x :: B
  | y :: R, B => if x.natAbs < y.natAbs then sink x R (y :: B) else (y :: R).reverse ++ x :: B
/-- Increasing by their variables. -/
def incr : List Int → Prop
  | [] => True
  | c :: cs => (∀ d ∈ cs, c.natAbs < d.natAbs) ∧ incr cs
theorem incr_snoc : ∀ {cs : List Int} {y : Int}, incr (cs ++ [y]) ↔ incr cs ∧ ∀ c ∈ cs, c.natAbs < y.natAbs
  | [], y => by simp [incr]
  | c :: cs, y => by
    simp only [List.cons_append, incr, incr_snoc, List.mem_append, List.mem_cons, List.not_mem_nil, or_false]
    constructor
    · rintro ⟨h1, h2, h3⟩
      refine ⟨⟨fun d hd => h1 d (Or.inl hd), h2⟩, fun d hd => ?_⟩
      rcases hd with rfl | hd
      · exact h1 y (Or.inr rfl)
      · exact h3 d hd
    · rintro ⟨⟨h1, h2⟩, h3⟩
      refine ⟨fun d hd => ?_, h2, fun d hd => h3 d (Or.inr hd)⟩
      rcases hd with hd | rfl
      · exact h1 d hd
      · exact h3 c (Or.inl rfl)
theorem incr_put : ∀ {cs : List Int} {x : Int}, incr cs → (∀ c ∈ cs, c.natAbs ≠ x.natAbs) → incr (put cs x)
  | [], x, _, _ => by simp [put, incr]
  | c :: cs, x, h, hx => by
    have hc := hx c (by simp)
    rw [put]
    split
    · refine ⟨fun d hd => ?_, incr_put h.2 fun d hd => hx d (by simp [hd])⟩
      rcases put_mem.1 hd with hd | rfl
      · exact h.1 d hd
      · assumption
    · refine ⟨fun d hd => ?_, h⟩
      rcases List.mem_cons.1 hd with rfl | hd
      · omega
      · have := h.1 d hd; omega
theorem propFrom_incr : ∀ {p : Int} {xs : List Int}, propFrom p xs = true → incr xs
  | _, [], _ => trivial
  | p, y :: ys, h => by
    simp only [propFrom, Bool.and_eq_true, decide_eq_true_eq] at h
    exact ⟨fun d hd => by have := propFrom_pos h.2 d hd; omega, propFrom_incr h.2⟩
theorem sink_put (x : Int) : ∀ (R B : List Int), incr R.reverse → (∀ c ∈ R, c.natAbs ≠ x.natAbs) → sink x R B = put R.reverse x ++ B
  | [], B, _, _ => rfl
  | y :: R, B, h, hx => by
    rw [List.reverse_cons] at h ⊢
    have h' := incr_snoc.1 h
    have hy := hx y (by simp)
    rw [sink]
    split
    · rw [sink_put x R (y :: B) h'.1 fun c hc => hx c (by simp [hc]), put_before (by omega)]
      simp
    · rw [put_last]
      · simp
      · intro c hc
        rcases List.mem_append.1 hc with hc | hc
        · have := h'.2 c hc; omega
        · simp at hc; subst hc; omega

/-- Different variables all. -/
def diffv : List Int → Prop
  | [] => True
  | c :: cs => (∀ d ∈ cs, d.natAbs ≠ c.natAbs) ∧ diffv cs
theorem diffv_snoc : ∀ {cs : List Int} {y : Int}, diffv (cs ++ [y]) ↔ diffv cs ∧ ∀ c ∈ cs, c.natAbs ≠ y.natAbs
  | [], y => by simp [diffv]
  | c :: cs, y => by
    simp only [List.cons_append, diffv, diffv_snoc, List.mem_append, List.mem_cons, List.not_mem_nil, or_false]
    constructor
    · rintro ⟨h1, h2, h3⟩
      refine ⟨⟨fun d hd => h1 d (Or.inl hd), h2⟩, fun d hd => ?_⟩
      rcases hd with rfl | hd
      · exact fun e => h1 y (Or.inr rfl) e.symm
      · exact h3 d hd
    · rintro ⟨⟨h1, h2⟩, h3⟩
      refine ⟨fun d hd => ?_, h2, fun d hd => h3 d (Or.inr hd)⟩
      rcases hd with hd | rfl
      · exact h1 d hd
      · exact fun e => h3 c (Or.inl rfl) e.symm
theorem incr_diffv : ∀ {cs : List Int}, incr cs → diffv cs
  | [], _ => trivial
  | c :: cs, h => ⟨fun d hd e => by have := h.1 d hd; omega, incr_diffv h.2⟩
abbrev puts (acc l : List Int) : List Int := l.foldl put acc
theorem puts_mem : ∀ {l acc : List Int} {y : Int}, y ∈ puts acc l ↔ y ∈ acc ∨ y ∈ l
  | [], acc, y => by simp [puts]
  | x :: l, acc, y => by
    show y ∈ puts (put acc x) l ↔ _
    rw [puts_mem, put_mem]
    simp [or_assoc]
theorem puts_length : ∀ (l acc : List Int), (puts acc l).length = acc.length + l.length
  | [], acc => rfl
  | x :: l, acc => by
    show (puts (put acc x) l).length = _
    rw [puts_length l, put_length]; simp; omega
theorem puts_incr : ∀ {l acc : List Int}, incr acc → diffv l → (∀ x ∈ l, ∀ c ∈ acc, c.natAbs ≠ x.natAbs) → incr (puts acc l)
  | [], acc, h, _, _ => h
  | x :: l, acc, h, hd, hx => puts_incr (l := l) (acc := put acc x) (incr_put h (hx x (by simp))) hd.2 fun y hy c hc => by
    rcases put_mem.1 hc with hc | rfl
    · exact hx y (by simp [hy]) c hc
    · exact fun e => hd.1 y hy e.symm
theorem puts_self : ∀ {l acc : List Int}, incr (acc ++ l) → puts acc l = acc ++ l
  | [], acc, _ => by simp [puts]
  | x :: l, acc, h => by
    have e : acc ++ x :: l = (acc ++ [x]) ++ l := by simp
    rw [e] at h ⊢
    have h1 : ∀ c ∈ acc, c.natAbs < x.natAbs := by
      clear e
      induction l generalizing x acc with
      | nil => rw [List.append_nil] at h; exact (incr_snoc.1 h).2
      | cons z l ih =>
        have : ∀ (a b : List Int), incr (a ++ b) → incr a := by
          intro a b
          induction a with
          | nil => intro _; trivial
          | cons y a ih => exact fun h => ⟨fun d hd => h.1 d (by simp [hd]), ih h.2⟩
        exact (incr_snoc.1 (this _ _ h)).2
    show puts (put acc x) l = _
    rw [put_last h1, puts_self h]

/-! ### Unit propagation -/
def unitB (a c : List Int) : Bool := !sat a c && decide ((openL a c).length ≤ 1)
def pu (set : List (List Int)) : Nat → List Int → List Int × Int
  | n, out => match set.findIdx? (unitB out) with
    | none => (out, -1)
    | some i => match openL out (set.getD i []), n with
      | [], _ => (out, (i : Nat))
      | _ :: _, 0 => (out, 0)
      | x :: _, n + 1 => pu set n (put out x)

theorem open_new {out c : List Int} (hs : ∀ x ∈ c, 1 ≤ (x.natAbs : Int) ∧ (x.natAbs : Int) ≤ 12) (hu : unitB out c = true) {x : Int} {l : List Int} (ho : openL out c = x :: l) :
    1 ≤ (x.natAbs : Int) ∧ (x.natAbs : Int) ≤ 12 ∧ ∀ y ∈ out, y.natAbs ≠ x.natAbs := by
  have hm : x ∈ openL out c := by rw [ho]; simp
  unfold openL at hm
  rw [List.mem_filter] at hm
  refine ⟨(hs x hm.1).1, (hs x hm.1).2, fun y hy e => ?_⟩
  have hn : -x ∉ out := by simpa [hasI] using hm.2
  have hp : x ∉ out := fun h => by
    unfold unitB at hu
    rw [(sat_iff out c).2 ⟨x, hm.1, h⟩] at hu
    simp at hu
  rcases Int.natAbs_eq_natAbs_iff.1 e with e | e
  · subst e; exact hp hy
  · subst e; exact hn hy

theorem getD_mem {set : List (List Int)} {p : List Int → Bool} {i : Nat} (h : set.findIdx? p = some i) : ∃ hi : i < set.length, set.getD i [] = set[i] ∧ p set[i] = true := by
  rw [List.findIdx?_eq_some_iff_getElem] at h
  obtain ⟨hi, h1, _⟩ := h
  exact ⟨hi, by simp [List.getD_eq_getElem?_getD, hi], h1⟩

/-! ### Resolution -/
/-- What the program gathers: without v, -v and doubles; none if an atom stands with both signs. -/
def gather (v : Int) : List Int → List Int → Option (List Int)
  | [], out => some out
  | l :: r, out => if l = v ∨ l = -v ∨ l ∈ out then gather v r out else if -l ∈ out then none else gather v r (out ++ [l])
/-- The reference's second loop. -/
def merge (v : Int) : List Int → List Int → Option (List Int)
  | [], out => some out
  | l :: r, out => if l = -v ∨ l ∈ out then merge v r out else if -l ∈ out then none else merge v r (put out l)

theorem gather_first {v : Int} : ∀ {l acc : List Int}, incr (acc ++ l) → (∀ x ∈ l, x ≠ -v) → gather v l acc = some (acc ++ l.filter fun x => decide (x ≠ v))
  | [], acc, _, _ => by simp [gather]
  | x :: l, acc, h, hv => by
    have h0 : ∀ c ∈ acc, c.natAbs < x.natAbs := by
      have e : acc ++ x :: l = (acc ++ [x]) ++ l := by simp
      rw [e] at h
      have : ∀ (a b : List Int), incr (a ++ b) → incr a := by
        intro a b
        induction a with
        | nil => intro _; trivial
        | cons y a ih => exact fun h => ⟨fun d hd => h.1 d (by simp [hd]), ih h.2⟩
      exact (incr_snoc.1 (this _ _ h)).2
    rw [gather]
    by_cases hx : x = v
    · rw [if_pos (Or.inl hx)]
      have hi : incr (acc ++ l) := by
        clear hv h0
        induction acc with
        | nil => exact h.2
        | cons y a ih => exact ⟨fun d hd => h.1 d (by rcases List.mem_append.1 hd with hd | hd <;> simp [hd]), ih h.2⟩
      rw [gather_first hi fun y hy => hv y (by simp [hy])]
      simp [hx]
    · have h1 : ¬ (x = v ∨ x = -v ∨ x ∈ acc) := by
        rintro (h | h | h)
        · exact hx h
        · exact hv x (by simp) h
        · have := h0 x h; omega
      have h2 : ¬ -x ∈ acc := fun h => by have := h0 _ h; omega
      rw [if_neg h1, if_neg h2, gather_first (by simpa using h) fun y hy => hv y (by simp [hy])]
      simp [hx]

theorem gather_app (v : Int) : ∀ (a b acc : List Int), gather v (a ++ b) acc = (gather v a acc).bind (gather v b)
  | [], b, acc => rfl
  | x :: a, b, acc => by
    simp only [List.cons_append, gather]
    split
    · exact gather_app v a b acc
    · split
      · rfl
      · exact gather_app v a b _

/-- What the reference merges is what the program gathers, sorted. -/
theorem merge_gather {v : Int} : ∀ {l out : List Int}, (∀ x ∈ l, x ≠ v) → merge v l (puts [] out) = (gather v l out).map (puts [])
  | [], out, _ => rfl
  | x :: l, out, hv => by
    have hm : ∀ y : Int, y ∈ puts [] out ↔ y ∈ out := fun y => by rw [puts_mem]; simp
    have hx := hv x (by simp)
    have ih := fun o => merge_gather (v := v) (l := l) (out := o) fun y hy => hv y (by simp [hy])
    rw [merge, gather]
    simp only [hm, hx, false_or]
    split
    · exact ih out
    · split
      · rfl
      · rw [← ih (out ++ [x])]
        show merge v l _ = merge v l ((out ++ [x]).foldl put [])
        rw [List.foldl_append]
        rfl

theorem gather_diffv {v : Int} : ∀ {l out r : List Int}, gather v l out = some r → diffv out → diffv r
  | [], out, r, h, hd => by cases h; exact hd
  | x :: l, out, r, h, hd => by
    rw [gather] at h
    split at h
    · exact gather_diffv h hd
    · rename_i h1
      split at h
      · cases h
      · rename_i h2
        refine gather_diffv h (diffv_snoc.2 ⟨hd, fun c hc e => ?_⟩)
        rcases Int.natAbs_eq_natAbs_iff.1 e with e | e
        · subst e; exact h1 (Or.inr (Or.inr hc))
        · subst e; exact h2 hc
theorem gather_mem {v : Int} : ∀ {l out r : List Int}, gather v l out = some r → ∀ x ∈ r, x ∈ out ∨ x ∈ l
  | [], out, r, h, x, hx => by cases h; exact Or.inl hx
  | y :: l, out, r, h, x, hx => by
    rw [gather] at h
    split at h
    · rcases gather_mem h x hx with h | h
      · exact Or.inl h
      · exact Or.inr (by simp [h])
    · split at h
      · cases h
      · rcases gather_mem h x hx with h | h
        · rcases List.mem_append.1 h with h | h
          · exact Or.inl h
          · simp at h; subst h; exact Or.inr (by simp)
        · exact Or.inr (by simp [h])
/-- Few variables: a list of different ones among 1..12 has at most 12 elements. -/
theorem diffv_len {l : List Int} (h : diffv l) (hs : ∀ x ∈ l, 1 ≤ (x.natAbs : Int) ∧ (x.natAbs : Int) ≤ 12) : l.length ≤ 12 := by
  have key : ∀ (l : List Int) (acc : List Int), propFrom 0 acc = true → diffv l → (∀ x ∈ l, 1 ≤ (x.natAbs : Int) ∧ (x.natAbs : Int) ≤ 12) → (∀ x ∈ l, ∀ c ∈ acc, c.natAbs ≠ x.natAbs) → propFrom 0 (puts acc l) = true := by
    intro l
    induction l with
    | nil => exact fun acc h _ _ _ => h
    | cons x l ih =>
      intro acc h hd hs hx
      refine ih (put acc x) (put_prop h (by have := hs x (by simp); omega) (hs x (by simp)).2 (hx x (by simp))) hd.2 (fun y hy => hs y (by simp [hy])) fun y hy c hc => ?_
      rcases put_mem.1 hc with hc | rfl
      · exact hx y (by simp [hy]) c hc
      · exact fun e => hd.1 y hy e.symm
  have := propC_len (key l [] rfl h hs fun _ _ c hc => by cases hc)
  rw [puts_length] at this
  simpa using this
end Go.Proofs.Ytjclanocnkankaa
