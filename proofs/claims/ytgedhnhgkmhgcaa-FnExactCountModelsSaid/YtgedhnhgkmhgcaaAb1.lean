/- ABSTRACT VALUES: what a Go value stands for, apart from where it lies in memory; and what stays true of it when memory grows. -/
import Derived.WalkKit
namespace Go.Proofs.Ytgedhnhgkmhgcaa.Abs
open Go Go.RowKit

/-- What is known of a value. Objects of the call's own (variables with an address, rows that it fills) stand as numbers into a store. -/
inductive A where
  | top
  | val (v : Value)
  | emp
  | sl (k : Nat) (xs : List (List A))
  | agg (cs : List A)
  | elt (cs : List A) (off : Nat)
  | fn (f : FuncId) (caps : List A)
  | tup (cs : List A)
  | ptr (id off : Nat)
  | row (id n : Nat)
  | rptr (id n k i j : Nat)
  deriving Inhabited

/-- Where the objects of the store lie: variables: a block each; rows: none yet, or a block and a capacity. -/
structure M where
  bx : List Nat
  rw : List (Option (Nat × Nat))

def M.blocks (m : M) : List Nat := m.bx ++ m.rw.filterMap fun h => h.map Prod.fst

def hdr (h : Option (Nat × Nat)) (n : Nat) : Value → Prop := fun v =>
  match h with
  | none => ∃ a, v = .slice a n 0
  | some (b, cap) => v = .slice (some ⟨b, 0, none⟩) n cap

section
variable (w : World) (O : Nat → Prop) (m : M) (ls : List Nat)
mutual
def rel : A → Value → Prop
  | .top, _ => True
  | .val x, v => v = x
  | .emp, v => ∃ a, v = .slice a 0 0
  | .sl k xs, v => ∃ a cap, v = .slice a xs.length cap ∧ xs.length ≤ cap ∧ cap ≤ 9223372036854775807 ∧
      (xs = [] ∨ ∃ b off, a = some ⟨b, off, none⟩ ∧ b < w.heap.size ∧ ¬ O b ∧ relRows k b off xs)
  | .agg cs, v => ∃ vs : List Value, v = .agg vs.toArray ∧ relL cs vs
  | .elt cs off, v => ∃ b o, v = .pointer (some ⟨b, o + off, none⟩) ∧ b < w.heap.size ∧ ¬ O b ∧ relCells b o cs
  | .fn f caps, v => ∃ vs : List Value, v = .func (.func f) #[] vs.toArray ∧ relL caps vs
  | .tup cs, v => ∃ vs : List Value, v = .tuple vs.toArray ∧ relL cs vs
  | .ptr id off, v => ∃ b, m.bx[id]? = some b ∧ v = .pointer (some ⟨b, off, none⟩)
  | .row id n, v => ∃ l, ls[id]? = some l ∧ n ≤ l ∧ (∃ a c, v = .slice a n c) ∧ (n = l → ∃ h, m.rw[id]? = some h ∧ hdr h n v)
  | .rptr id n k i j, v => ∃ l, ls[id]? = some l ∧ n ≤ l ∧ (∃ ad, v = .pointer (some ad)) ∧ (n = l → ∃ b cap, m.rw[id]? = some (some (b, cap)) ∧ v = .pointer (some ⟨b, i * k + j, none⟩))
def relL : List A → List Value → Prop
  | [], vs => vs = []
  | c :: cs, vs => ∃ v r, vs = v :: r ∧ rel c v ∧ relL cs r
def relCells (b off : Nat) : List A → Prop
  | [] => True
  | c :: cs => (∃ v, w.cell? ⟨b, off, none⟩ = some v ∧ rel c v) ∧ relCells b (off + 1) cs
def relRows (k b off : Nat) : List (List A) → Prop
  | [] => True
  | x :: xs => x.length = k ∧ relCells b off x ∧ relRows k b (off + k) xs
end
end

/-- Memory that both worlds have alike: all old blocks that are no objects of the store. -/
structure Mono (w : World) (O : Nat → Prop) (m : M) (ls : List Nat) (w' : World) (O' : Nat → Prop) (m' : M) (ls' : List Nat) : Prop where
  size : w.heap.size ≤ w'.heap.size
  keep : ∀ b : Nat, b < w.heap.size → ¬ O b → w'.heap[b]? = w.heap[b]?
  own : ∀ b : Nat, b < w.heap.size → ¬ O b → ¬ O' b
  bx : ∀ (id b : Nat), m.bx[id]? = some b → m'.bx[id]? = some b
  rw : ∀ (id l : Nat), ls[id]? = some l → ∃ l', ls'[id]? = some l' ∧ l ≤ l' ∧ (l = l' → m'.rw[id]? = m.rw[id]?)

theorem cell_lt {w : World} {b off : Nat} {v : Value} (h : w.cell? ⟨b, off, none⟩ = some v) : b < w.heap.size := by
  unfold World.cell? at h
  cases hb : w.heap[b]? with
  | none => simp [hb] at h
  | some o => exact (Array.getElem?_eq_some_iff.1 hb).1

theorem Mono.cell {w : World} {O : Nat → Prop} {m : M} {ls : List Nat} {w' : World} {O' : Nat → Prop} {m' : M} {ls' : List Nat} (h : Mono w O m ls w' O' m' ls')
    {b off : Nat} (hb : b < w.heap.size) (hO : ¬ O b) : w'.cell? ⟨b, off, none⟩ = w.cell? ⟨b, off, none⟩ := by
  unfold World.cell?
  simp only [h.keep b hb hO]

section
variable {w : World} {O : Nat → Prop} {m : M} {ls : List Nat} {w' : World} {O' : Nat → Prop} {m' : M} {ls' : List Nat}

mutual
theorem rel_mono (h : Mono w O m ls w' O' m' ls') : ∀ (a : A) (v : Value), rel w O m ls a v → rel w' O' m' ls' a v
  | .top, _, _ => by simp [rel]
  | .val x, v, hr => by simpa [rel] using hr
  | .emp, v, hr => by simpa [rel] using hr
  | .sl k xs, v, hr => by
    simp only [rel] at hr ⊢
    obtain ⟨a, cap, h1, h2, h3, h4⟩ := hr
    refine ⟨a, cap, h1, h2, h3, ?_⟩
    rcases h4 with h4 | ⟨b, off, h5, h6, h7, h8⟩
    · exact Or.inl h4
    · exact Or.inr ⟨b, off, h5, Nat.lt_of_lt_of_le h6 h.size, h.own b h6 h7, relRows_mono h k b off xs h6 h7 h8⟩
  | .agg cs, v, hr => by
    simp only [rel] at hr ⊢
    obtain ⟨vs, h1, h2⟩ := hr
    exact ⟨vs, h1, relL_mono h cs vs h2⟩
  | .elt cs off, v, hr => by
    simp only [rel] at hr ⊢
    obtain ⟨b, o, h1, h2, h3, h4⟩ := hr
    exact ⟨b, o, h1, Nat.lt_of_lt_of_le h2 h.size, h.own b h2 h3, relCells_mono h b o cs h2 h3 h4⟩
  | .fn f caps, v, hr => by
    simp only [rel] at hr ⊢
    obtain ⟨vs, h1, h2⟩ := hr
    exact ⟨vs, h1, relL_mono h caps vs h2⟩
  | .tup cs, v, hr => by
    simp only [rel] at hr ⊢
    obtain ⟨vs, h1, h2⟩ := hr
    exact ⟨vs, h1, relL_mono h cs vs h2⟩
  | .ptr id off, v, hr => by
    simp only [rel] at hr ⊢
    obtain ⟨b, h1, h2⟩ := hr
    exact ⟨b, h.bx _ _ h1, h2⟩
  | .row id n, v, hr => by
    simp only [rel] at hr ⊢
    obtain ⟨l, h1, h2, h0, h3⟩ := hr
    obtain ⟨l', g1, g2, g3⟩ := h.rw id l h1
    refine ⟨l', g1, Nat.le_trans h2 g2, h0, fun e => ?_⟩
    have e1 : n = l := by omega
    rw [g3 (by omega)]
    exact h3 e1
  | .rptr id n k i j, v, hr => by
    simp only [rel] at hr ⊢
    obtain ⟨l, h1, h2, h0, h3⟩ := hr
    obtain ⟨l', g1, g2, g3⟩ := h.rw id l h1
    refine ⟨l', g1, Nat.le_trans h2 g2, h0, fun e => ?_⟩
    have e1 : n = l := by omega
    rw [g3 (by omega)]
    exact h3 e1
theorem relL_mono (h : Mono w O m ls w' O' m' ls') : ∀ (cs : List A) (vs : List Value), relL w O m ls cs vs → relL w' O' m' ls' cs vs
  | [], vs, hr => by simpa [relL] using hr
  | c :: cs, vs, hr => by
    simp only [relL] at hr ⊢
    obtain ⟨v, r, h1, h2, h3⟩ := hr
    exact ⟨v, r, h1, rel_mono h c v h2, relL_mono h cs r h3⟩
theorem relCells_mono (h : Mono w O m ls w' O' m' ls') (b off : Nat) : ∀ (cs : List A), b < w.heap.size → ¬ O b → relCells w O m ls b off cs → relCells w' O' m' ls' b off cs
  | [], _, _, _ => by simp [relCells]
  | c :: cs, hb, hO, hr => by
    simp only [relCells] at hr ⊢
    obtain ⟨⟨v, h1, h2⟩, h3⟩ := hr
    exact ⟨⟨v, by rw [h.cell hb hO]; exact h1, rel_mono h c v h2⟩, relCells_mono h b (off + 1) cs hb hO h3⟩
theorem relRows_mono (h : Mono w O m ls w' O' m' ls') (k b off : Nat) : ∀ (xs : List (List A)), b < w.heap.size → ¬ O b → relRows w O m ls k b off xs → relRows w' O' m' ls' k b off xs
  | [], _, _, _ => by simp [relRows]
  | x :: xs, hb, hO, hr => by
    simp only [relRows] at hr ⊢
    obtain ⟨h1, h2, h3⟩ := hr
    exact ⟨h1, relCells_mono h b off x hb hO h2, relRows_mono h k b (off + k) xs hb hO h3⟩
end
end
end Go.Proofs.Ytgedhnhgkmhgcaa.Abs
