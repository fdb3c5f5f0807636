/- WHAT THE LAWS' HELPERS SHARE: what is left of a size, rows that are filled. -/
import Derived.Test.YtbikhinddomhpaaGreatU
namespace Go.Proofs.YtbikhinddomhpaaGreat
open Go Go.RowKit Go.Proofs.YtbikhinddomhpaaGreat.Abs

set_option linter.unusedSimpArgs false
set_option linter.unusedVariables false
set_option maxHeartbeats 1000000

def left1 (left n : Int) : Int := if 0 ≤ left - n then left - n else -1

theorem left1_neg {left n : Int} (h : left < n) : left1 left n = -1 := if_neg (by omega)
theorem left1_pos {left n : Int} (h : n ≤ left) : left1 left n = left - n := if_pos (by omega)
theorem left1_zero {b : Int} (h : 0 ≤ b) : left1 b ((0 : Nat) : Int) = b := by unfold left1; simp [h]
theorem left1_sub (b m n : Int) : left1 (b - m) n = left1 b (m + n) := by unfold left1; rw [Int.sub_sub]
theorem left1_le (b n : Int) (h : 0 ≤ b) (hn : 0 ≤ n) : left1 b n ≤ b := by unfold left1; split <;> omega
theorem left1_ge (b n : Int) : -1 ≤ left1 b n := by unfold left1; split <;> omega
theorem left1_add {b m n : Int} (h : m ≤ b) : left1 (left1 b m) n = left1 b (m + n) := by rw [left1_pos h, left1_sub]

/-! ### Copies -/
def part {α : Type} (f : α → List A) (z : List A) (xs : List α) (i : Nat) : List (List A) := (xs.take i).map f ++ List.replicate (xs.length - i) z

section
variable {α : Type} {f : α → List A} {z : List A} {xs : List α}
theorem part_zero : rRep xs.length z = part f z xs 0 := by simp [part, rRep]
theorem part_end : part f z xs xs.length = xs.map f := by simp [part]
theorem part_length {i : Nat} (h : i ≤ xs.length) : (part f z xs i).length = xs.length := by simp [part]; omega
theorem part_get {i : Nat} (h : i < xs.length) : rGet (part f z xs i) i = some z := by
  unfold rGet part
  rw [List.getElem?_append_right (by simp; omega)]
  simp
  rw [List.getElem?_replicate, if_pos (by omega)]
theorem part_set {i : Nat} (h : i < xs.length) : rSet (part f z xs i) i (f xs[i]) = part f z xs (i + 1) := by
  unfold rSet part
  have e : xs.length - i = (xs.length - (i + 1)) + 1 := by omega
  rw [List.set_append_right _ _ (by simp; omega), e, List.replicate_succ]
  simp only [List.length_map, List.length_take, Nat.min_eq_left (Nat.le_of_lt h), Nat.sub_self, List.set_cons_zero]
  rw [← List.take_append_getElem h, List.map_append]
  simp
end
theorem cOver_1 (a b : A) : cOver [a] 0 [b] = [b] := rfl
theorem cOver_2 (a b c d : A) : cOver [a, b] 0 [c, d] = [c, d] := rfl
theorem pMake_len {b n : Nat} (hb : (b : Int) * (n : Int) ≤ 281474976710656) (hn : n ≤ 1048576) : pMake b (vi n) (vi n) = some n := by
  show (if _ then _ else _) = _
  rw [if_pos (show FitM b n n from ⟨by omega, Int.le_refl _, hb, by omega⟩), Int.toNat_natCast]

theorem pSlice_take {k : Nat} {xs : List (List A)} {i : Nat} (h : i ≤ xs.length) : pSlice k (.sl k xs) none (some (vi i)) = some (.sl k (xs.take i)) := by
  simp only [pSlice, pBound, Option.bind_some]
  rw [if_pos ⟨trivial, Int.le_refl _, by omega, by omega⟩]
  simp
theorem pSlice_drop {k : Nat} {xs : List (List A)} {i : Nat} (h : i ≤ xs.length) : pSlice k (.sl k xs) (some (vi i)) none = some (.sl k (xs.drop i)) := by
  simp only [pSlice, pBound, Option.bind_some]
  rw [if_pos ⟨trivial, by omega, by omega, by omega⟩]
  simp

/-! ### Marks -/
def iota (k : Int) : Nat → List Int
  | 0 => []
  | n + 1 => k :: iota (k + 1) n
theorem iota_length : ∀ (k : Int) (n : Nat), (iota k n).length = n
  | _, 0 => rfl
  | k, n + 1 => by simp [iota, iota_length (k + 1) n]
section
variable {α : Type} {f : α → List A} (M r : List α) (x : α)
theorem mid_get : rGet ((M ++ x :: r).map f) M.length = some (f x) := by
  unfold rGet
  rw [List.getElem?_map, List.getElem?_append_right (Nat.le_refl _)]
  simp
theorem mid_set (y : α) : rSet ((M ++ x :: r).map f) M.length (f y) = ((M ++ [y]) ++ r).map f := by
  unfold rSet
  simp only [List.map_append, List.map_cons, List.append_assoc, List.cons_append]
  rw [List.set_append_right _ _ (by simp)]
  simp
theorem mid_ix : pIx ((M ++ x :: r).map f).length (vi (M.length : Nat)) = some M.length := pIx_lt (by simp)
theorem mid_addr {k : Nat} : pIndexAddr k (.sl k ((M ++ x :: r).map f)) (vi (M.length : Nat)) = some (.elt (f x) 0) := by
  rw [pIndexAddr_map (by simp)]
  simp
theorem mid_lt : ((M.length : Nat) : Int) < (((M ++ x :: r).length : Nat) : Int) := by simp only [List.length_append, List.length_cons]; omega
end
section
variable (M R : List (List A)) (x y : List A)
theorem row_get : rGet (M ++ x :: R) M.length = some x := by
  unfold rGet
  rw [List.getElem?_append_right (Nat.le_refl _)]
  simp
theorem row_set : rSet (M ++ x :: R) M.length y = M ++ y :: R := by
  unfold rSet
  rw [List.set_append_right _ _ (by simp)]
  simp
theorem row_ix : pIx (M ++ x :: R).length (vi (M.length : Nat)) = some M.length := pIx_lt (by simp)
end
end Go.Proofs.YtbikhinddomhpaaGreat
