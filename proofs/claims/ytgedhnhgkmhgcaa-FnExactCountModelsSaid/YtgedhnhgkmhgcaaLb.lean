/- WHAT THE WALKS SHARE: facts about abstract values, and searches in lists. -/
import Derived.Test.YtgedhnhgkmhgcaaTy
import Derived.Test.YtgedhnhgkmhgcaaAb15
namespace Go.Proofs.Ytgedhnhgkmhgcaa
set_option linter.unusedVariables false
open Go Go.RowKit Go.Proofs.Ytgedhnhgkmhgcaa.Abs

@[simp] theorem noIdsLL_map {α : Type} (f : α → List A) (xs : List α) : noIdsLL (xs.map f) = xs.all fun x => noIdsL (f x) := by
  induction xs <;> simp_all [noIdsLL]
@[simp] theorem noIdsL_map {α : Type} (f : α → A) (xs : List α) : noIdsL (xs.map f) = xs.all fun x => noIds (f x) := by
  induction xs <;> simp_all [noIdsL]
@[simp] theorem noIdsL_app (xs ys : List A) : noIdsL (xs ++ ys) = (noIdsL xs && noIdsL ys) := by
  induction xs with
  | nil => simp [noIdsL]
  | cons x xs ih => simp [noIdsL, ih, Bool.and_assoc]
@[simp] theorem noIdsLL_app (xs ys : List (List A)) : noIdsLL (xs ++ ys) = (noIdsLL xs && noIdsLL ys) := by
  induction xs with
  | nil => simp [noIdsLL]
  | cons x xs ih => simp [noIdsLL, ih, Bool.and_assoc]
theorem flat_tr {a : A} (h : flat a = true) : flat a = true := h
theorem noIdsLL_tr {xs : List (List A)} (h : noIdsLL xs = true) : noIdsLL xs = true := h
theorem in1_of {a : A} (h : noIds a = true) (n r : Nat) : in1 n r a = true := by
  cases a <;> simp_all [in1, noIds]
theorem in1s_of : ∀ {cs : List A}, noIdsL cs = true → ∀ n r, cs.all (in1 n r) = true
  | [], _, _, _ => rfl
  | c :: cs, h, n, r => by
    simp only [noIdsL, Bool.and_eq_true] at h
    simp only [List.all_cons, Bool.and_eq_true]
    exact ⟨in1_of h.1 n r, in1s_of h.2 n r⟩
theorem in1_mem {cs : List A} (h : noIdsL cs = true) (n r : Nat) : ∀ x ∈ cs, in1 n r x = true := fun x hx => List.all_eq_true.1 (in1s_of h n r) x hx

theorem in1_top (n r : Nat)  : in1 n r (.top ) = true := by simp [in1, noIds]
theorem in1_val (n r : Nat) (v : Value) : in1 n r (.val v) = true := by simp [in1, noIds]
theorem in1_emp (n r : Nat)  : in1 n r (.emp ) = true := by simp [in1, noIds]
theorem in1_sl (n r : Nat) (k : Nat) (xs : List (List A)) : in1 n r (.sl k xs) = noIdsLL xs := by simp [in1, noIds]
theorem in1_agg (n r : Nat) (cs : List A) : in1 n r (.agg cs) = noIdsL cs := by simp [in1, noIds]
theorem in1_elt (n r : Nat) (cs : List A) (o : Nat) : in1 n r (.elt cs o) = noIdsL cs := by simp [in1, noIds]
theorem in1_fn (n r : Nat) (f : FuncId) (cs : List A) : in1 n r (.fn f cs) = noIdsL cs := by simp [in1, noIds]
theorem in1_tup (n r : Nat) (cs : List A) : in1 n r (.tup cs) = noIdsL cs := by simp [in1, noIds]
theorem in1_ptr (n r : Nat) (i o : Nat) : in1 n r (.ptr i o) = decide (i < n) := rfl
theorem in1_row (n r : Nat) (i l : Nat) : in1 n r (.row i l) = decide (i < r) := rfl
theorem in1_rptr (n r : Nat) (i l k a b : Nat) : in1 n r (.rptr i l k a b) = decide (i < r) := rfl
theorem inA_top (n r : Nat)  : inA n r (.top ) = true := by simp [inA, in1, noIds]
theorem inA_val (n r : Nat) (v : Value) : inA n r (.val v) = true := by simp [inA, in1, noIds]
theorem inA_emp (n r : Nat)  : inA n r (.emp ) = true := by simp [inA, in1, noIds]
theorem inA_sl (n r : Nat) (k : Nat) (xs : List (List A)) : inA n r (.sl k xs) = noIdsLL xs := by simp [inA, in1, noIds]
theorem inA_agg (n r : Nat) (cs : List A) : inA n r (.agg cs) = cs.all (in1 n r) := rfl
theorem inA_elt (n r : Nat) (cs : List A) (o : Nat) : inA n r (.elt cs o) = noIdsL cs := by simp [inA, in1, noIds]
theorem inA_fn (n r : Nat) (f : FuncId) (cs : List A) : inA n r (.fn f cs) = cs.all (in1 n r) := rfl
theorem inA_tup (n r : Nat) (cs : List A) : inA n r (.tup cs) = cs.all (in1 n r) := rfl
theorem inA_ptr (n r : Nat) (i o : Nat) : inA n r (.ptr i o) = decide (i < n) := rfl
theorem inA_row (n r : Nat) (i l : Nat) : inA n r (.row i l) = decide (i < r) := rfl
theorem inA_rptr (n r : Nat) (i l k a b : Nat) : inA n r (.rptr i l k a b) = decide (i < r) := rfl

abbrev vi (n : Int) : A := .val (.int .i64 n)
abbrev vb (b : Bool) : A := .val (.bool b)
abbrev ints (xs : List Int) : A := .sl 1 (xs.map fun x => [.val (.int .i64 x)])
abbrev intss (xss : List (List Int)) : A := .sl 1 (xss.map fun x => [.sl 1 (x.map fun y => [.val (.int .i64 y)])])

/-- The place of the first element with p, counted from k. -/
def idxFrom {α : Type} (p : α → Bool) : Nat → List α → Int
  | _, [] => -1
  | k, x :: xs => if p x then (k : Int) else idxFrom p (k + 1) xs

theorem idxFrom_any {α : Type} (p : α → Bool) : ∀ (k : Nat) (xs : List α), decide (0 ≤ idxFrom p k xs) = xs.any p
  | _, [] => by simp [idxFrom]
  | k, x :: xs => by
    simp only [idxFrom, List.any_cons]
    have ih := idxFrom_any p (k + 1) xs
    by_cases h : p x = true
    · simp [h]
    · simpa [h] using ih

/-- A row that is filled from the front: k elements stand, the others are as they were made. -/
def fill {α : Type} (F : α → List A) (z : List A) (xs : List α) (k : Nat) : List (List A) := (xs.take k).map F ++ List.replicate (xs.length - k) z
section
variable {α : Type} {F : α → List A} {z : List A} {xs : List α} {k : Nat}
theorem fill_zero : fill F z xs 0 = List.replicate xs.length z := by simp [fill]
theorem fill_all : fill F z xs xs.length = xs.map F := by simp [fill]
theorem fill_length (h : k ≤ xs.length) : (fill F z xs k).length = xs.length := by simp [fill]; omega
theorem fill_get (h : k < xs.length) : (fill F z xs k)[k]? = some z := by
  unfold fill
  have e : ((xs.take k).map F).length = k := by simp; omega
  rw [List.getElem?_append_right (by rw [e]; omega), e, Nat.sub_self, List.getElem?_replicate, if_pos (by omega)]
theorem fill_at (h : k < xs.length) : ∀ h', (fill F z xs k)[k]'h' = z := fun h' => (List.getElem?_eq_some_iff.1 (fill_get h)).2
theorem fill_set (h : k < xs.length) : (fill F z xs k).set k (F xs[k]) = fill F z xs (k + 1) := by
  unfold fill
  have e : ((xs.take k).map F).length = k := by simp; omega
  rw [List.set_append_right _ _ (by omega), e, Nat.sub_self]
  rw [show xs.length - k = (xs.length - (k + 1)) + 1 by omega, List.replicate_succ, List.set_cons_zero, List.take_succ_eq_append_getElem h, List.map_append]
  simp only [List.map_cons, List.map_nil, List.append_assoc, List.cons_append, List.nil_append]
theorem fill_mem {n r : Nat} (h1 : ∀ x, (F x).all (inA n r) = true) (h2 : z.all (inA n r) = true) : ∀ x ∈ fill F z xs k, ∀ y ∈ x, inA n r y = true := by
  intro x hx y hy
  simp only [fill, List.mem_append, List.mem_map, List.mem_replicate] at hx
  rcases hx with ⟨a, _, rfl⟩ | ⟨_, rfl⟩
  · exact List.all_eq_true.1 (h1 a) y hy
  · exact List.all_eq_true.1 h2 y hy
theorem fill_in {n r : Nat} (h1 : ∀ x, (F x).all (inA n r) = true) (h2 : z.all (inA n r) = true) : (fill F z xs k).flatten.all (inA n r) = true := by
  simp only [fill, List.flatten_append, List.all_append, List.all_flatten, List.all_map, Bool.and_eq_true]
  exact ⟨List.all_eq_true.2 fun x _ => h1 x, List.all_eq_true.2 fun y hy => by rw [(List.mem_replicate.1 hy).2]; exact h2⟩
end
end Go.Proofs.Ytgedhnhgkmhgcaa
