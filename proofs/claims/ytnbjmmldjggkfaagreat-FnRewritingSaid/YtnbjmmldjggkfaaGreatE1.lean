/- VALUES AND STATES: plain data (A), what a slot holds (V), objects of the call's own (Obj), and how they stand in memory. -/
import Derived.WalkKit
namespace Go.Proofs.YtnbjmmldjggkfaaGreat.Abs
open Go Go.RowKit

/-- Output as it was; as many questions drawn, or more. -/
def Quiet (w w' : World) : Prop := w'.output = w.output ∧ w.drawn ≤ w'.drawn
theorem Quiet.refl (w : World) : Quiet w w := ⟨rfl, Nat.le_refl _⟩
theorem Quiet.trans {a b c : World} (k : Quiet b c) (h : Quiet a b) : Quiet a c := ⟨k.1.trans h.1, Nat.le_trans h.2 k.2⟩
/-- Memory below a number stays. -/
structure Below (B : Nat) (w w' : World) : Prop where
  os : w'.os = w.os
  tape : w'.tape = w.tape
  output : Quiet w w'
  size : w.heap.size ≤ w'.heap.size
  block : ∀ k, k < B → w'.heap[k]? = w.heap[k]?
theorem Below.kit {B : Nat} {w w' : World} (h : Below B w w') : RowKit.Below B w w' := ⟨h.os, h.tape, h.output.1, h.size, h.block⟩
theorem Below.refl (B : Nat) (w : World) : Below B w w := ⟨rfl, rfl, Quiet.refl w, Nat.le_refl _, fun _ _ => rfl⟩
theorem Below.drew {B : Nat} {a w : World} (h : Below B a w) : Below B a w.drew := ⟨h.os, h.tape, ⟨h.output.1, Nat.le_succ_of_le h.output.2⟩, h.size, h.block⟩
theorem Below.alloc {B : Nat} {a w : World} (h : Below B a w) (hB : B ≤ w.heap.size) (o : Go.Obj) : Below B a (w.alloc o) :=
  have k := h.kit.alloc hB o
  ⟨k.os, k.tape, ⟨k.output, h.output.2⟩, k.size, k.block⟩

/-- Plain data: a Go value apart from where it lies. -/
inductive A where
  | top
  | val (v : Value)
  | sl (k : Nat) (xs : List (List A))
  | agg (cs : List A)
  | elt (cs : List A) (off : Nat)
  | fn (f : FuncId) (caps : List A)
  | tup (cs : List A)
  | mp (xs : List (List A))
  deriving Inhabited

/-- What a slot holds: data, or a reference to an object of the call's own. -/
inductive V where
  | top
  | nil (k : Nat)
  | d (a : A)
  | agg (cs : List V)
  | tup (cs : List V)
  | fn (f : FuncId) (caps : List V)
  | ptr (id off : Nat)
  | row (id : Nat)
  | rptr (id i k j : Nat)
  | win (id k off n : Nat)
  | ub (n : Nat) (neg : Bool)
  | sub (id i k j : Nat)
  deriving Inhabited

/-- An object: none yet; given up; a variable with an address, a row that the call may turn, a row that is turned no more, a row with all that its cells lead to. -/
inductive Obj where
  | dead
  | gone
  | box (cs : List V)
  | row (k : Nat) (xs : List (List A))
  | fro (k : Nat) (xs : List (List A))
  | tre (fin : Bool) (k : Nat) (xs : List (List A))
  | map (xs : List (List A))
  deriving Inhabited

/-- Where an object lies: nowhere; in one block; in a block whose cells lead to further blocks of its own (done, or still being made). -/
inductive Hd where
  | none
  | blk (b cap len : Nat)
  | tre (fin : Bool) (b cap len : Nat) (ks : List Hd)
  | mp (b : Nat)

def hdr : Hd → Value → Prop
  | .none, v => ∃ a, v = .slice a 0 0
  | .blk b cap n, v => v = .slice (some ⟨b, 0, Option.none⟩) n cap
  | .tre _ b cap n _, v => v = .slice (some ⟨b, 0, Option.none⟩) n cap
  | .mp b, v => v = .map (some b)

def Hd.len : Hd → Nat
  | .none => 0
  | .blk _ _ n => n
  | .tre _ _ _ n _ => n
  | .mp _ => 0

/-- Its first block. -/
def Hd.root : Hd → Option Nat
  | .none => Option.none
  | .blk b _ _ => some b
  | .tre _ b _ _ _ => some b
  | .mp b => some b

mutual
/-- All its blocks. -/
def Hd.blocks : Hd → List Nat
  | .none => []
  | .blk b _ _ => [b]
  | .tre _ b _ _ ks => b :: Hd.blocksL ks
  | .mp b => [b]
def Hd.blocksL : List Hd → List Nat
  | [] => []
  | h :: hs => h.blocks ++ Hd.blocksL hs
end

/-- The same, or a tree in the making that went on. -/
def Hd.le (h h' : Hd) : Prop := h' = h ∨ ∃ b c n ks f ks', h = .tre false b c n ks ∧ h' = .tre f b c n ks'

/-- What goes on no more. -/
def Hd.fixed : Hd → Bool
  | .tre f _ _ _ _ => f
  | _ => true
theorem Hd.le.eq {h h' : Hd} (l : h.le h') (k : h.fixed = true) : h' = h := by
  rcases l with rfl | ⟨b, c, n, ks, f, ks', rfl, rfl⟩
  · rfl
  · cases k
theorem Hd.le_refl (h : Hd) : h.le h := Or.inl rfl
theorem Hd.le.trans {a b c : Hd} (h : a.le b) (k : b.le c) : a.le c := by
  rcases h with rfl | ⟨b0, c0, n, ks, f, ks', rfl, rfl⟩
  · exact k
  · rcases k with rfl | ⟨b1, c1, n1, ks1, f1, ks1', e, rfl⟩
    · exact Or.inr ⟨_, _, _, _, _, _, rfl, rfl⟩
    · cases e
      exact Or.inr ⟨_, _, _, _, _, _, rfl, rfl⟩
theorem Hd.le.hdr {h h' : Hd} (l : h.le h') {v : Value} (k : hdr h v) : hdr h' v := by
  rcases l with rfl | ⟨b0, c0, n, ks, f, ks', rfl, rfl⟩
  · exact k
  · exact k
theorem Hd.le.root {h h' : Hd} (l : h.le h') : h'.root = h.root := by
  rcases l with rfl | ⟨b0, c0, n, ks, f, ks', rfl, rfl⟩ <;> rfl
theorem Hd.le.blk {b c n : Nat} {h : Hd} (l : (Hd.blk b c n).le h) : h = .blk b c n := by
  rcases l with rfl | ⟨b0, c0, n, ks, f, ks', e, rfl⟩
  · rfl
  · cases e
/-- The place is not a map's. -/
def Hd.isSl : Hd → Bool
  | .mp _ => false
  | _ => true
/-- A tree is done. -/
def Hd.freeze : Hd → Hd
  | .tre _ b c n ks => .tre true b c n ks
  | h => h
theorem Hd.le_freeze (h : Hd) : h.le h.freeze := by
  cases h with
  | none => exact Or.inl rfl
  | blk => exact Or.inl rfl
  | mp => exact Or.inl rfl
  | tre f b c n ks =>
    cases f with
    | true => exact Or.inl rfl
    | false => exact Or.inr ⟨_, _, _, _, _, _, rfl, rfl⟩
theorem Hd.freeze_blocks (h : Hd) : h.freeze.blocks = h.blocks := by cases h <;> simp [Hd.freeze, Hd.blocks]
theorem Hd.freeze_eq {h : Hd} (e : h.fixed = true) : h.freeze = h := by
  cases h with
  | none => rfl
  | blk => rfl
  | mp => rfl
  | tre f b c n ks => simp only [Hd.fixed] at e; subst e; rfl
theorem Hd.root_mem {h : Hd} {b : Nat} (e : h.root = some b) : b ∈ h.blocks := by
  cases h with
  | none => cases e
  | blk => cases e; simp [Hd.blocks]
  | tre => cases e; simp [Hd.blocks]
  | mp => cases e; simp [Hd.blocks]

section
variable (w : World) (O : Nat → Prop)
mutual
def rel : A → Value → Prop
  | .top, _ => True
  | .val x, v => v = x
  | .sl k xs, v => ∃ a cap, v = .slice a xs.length cap ∧ xs.length ≤ cap ∧ cap ≤ 9223372036854775807 ∧
      (xs = [] ∨ ∃ b off, a = some ⟨b, off, none⟩ ∧ b < w.heap.size ∧ ¬ O b ∧ relRows k b off xs)
  | .agg cs, v => ∃ vs : List Value, v = .agg vs.toArray ∧ relL cs vs
  | .elt cs off, v => ∃ b o, v = .pointer (some ⟨b, o + off, none⟩) ∧ b < w.heap.size ∧ ¬ O b ∧ relCells b o cs
  | .fn f caps, v => ∃ vs : List Value, v = .func (.func f) #[] vs.toArray ∧ relL caps vs
  | .tup cs, v => ∃ vs : List Value, v = .tuple vs.toArray ∧ relL cs vs
  | .mp xs, v => (xs = [] ∧ v = .map none) ∨ ∃ b es clock, v = .map (some b) ∧ b < w.heap.size ∧ ¬ O b ∧ w.heap[b]? = some (.map es clock) ∧ relEs xs es.toList
def relEs : List (List A) → List MapEntry → Prop
  | [], es => es = []
  | x :: xs, es => ∃ e r, es = e :: r ∧ relL x [e.key, e.val] ∧ relEs xs r
def relL : List A → List Value → Prop
  | [], vs => vs = []
  | c :: cs, vs => ∃ v r, vs = v :: r ∧ rel c v ∧ relL cs r
def relCells (b off : Nat) : List A → Prop
  | [] => True
  | c :: cs => (∃ v, w.cell? ⟨b, off, none⟩ = some v ∧ v.oneCell' = true ∧ rel c v) ∧ relCells b (off + 1) cs
def relRows (k b off : Nat) : List (List A) → Prop
  | [] => True
  | x :: xs => x.length = k ∧ relCells b off x ∧ relRows k b (off + k) xs
end
end

/-- Memory that was still stays: blocks that are nobody's to turn. -/
structure MonoW (w : World) (O : Nat → Prop) (w' : World) (O' : Nat → Prop) : Prop where
  size : w.heap.size ≤ w'.heap.size
  keep : ∀ b : Nat, b < w.heap.size → ¬ O b → w'.heap[b]? = w.heap[b]?
  own : ∀ b : Nat, b < w.heap.size → ¬ O b → ¬ O' b

theorem MonoW.refl (w : World) (O : Nat → Prop) : MonoW w O w O := ⟨Nat.le_refl _, fun _ _ _ => rfl, fun _ _ h => h⟩
theorem MonoW.sub {w : World} {O O' : Nat → Prop} (h : ∀ b, O' b → O b) : MonoW w O w O' := ⟨Nat.le_refl _, fun _ _ _ => rfl, fun b _ hn ho => hn (h b ho)⟩

theorem MonoW.cell {w w' : World} {O O' : Nat → Prop} (h : MonoW w O w' O') {b off : Nat} (hb : b < w.heap.size) (hO : ¬ O b) : w'.cell? ⟨b, off, none⟩ = w.cell? ⟨b, off, none⟩ := by
  unfold World.cell?
  simp only [h.keep b hb hO]

section
variable {w : World} {O : Nat → Prop} {w' : World} {O' : Nat → Prop}
mutual
theorem rel_mono (h : MonoW w O w' O') : ∀ (a : A) (v : Value), rel w O a v → rel w' O' a v
  | .top, _, _ => by simp [rel]
  | .val x, v, hr => by simpa [rel] using hr
  | .sl k xs, v, hr => by
    simp only [rel] at hr ⊢
    obtain ⟨a, cap, h1, h2, h3, h4⟩ := hr
    refine ⟨a, cap, h1, h2, h3, ?_⟩
    rcases h4 with h4 | ⟨b, off, h5, h6, h7, h8⟩
    · exact Or.inl h4
    · exact Or.inr ⟨b, off, h5, Nat.lt_of_lt_of_le h6 h.size, h.own b h6 h7, relRows_mono h k b off xs h6 h7 h8⟩
  | .agg cs, v, hr => by
    simp only [rel] at hr ⊢
    obtain ⟨vs, h1, h2⟩ := hr
    exact ⟨vs, h1, relL_mono h cs vs h2⟩
  | .elt cs off, v, hr => by
    simp only [rel] at hr ⊢
    obtain ⟨b, o, h1, h2, h3, h4⟩ := hr
    exact ⟨b, o, h1, Nat.lt_of_lt_of_le h2 h.size, h.own b h2 h3, relCells_mono h b o cs h2 h3 h4⟩
  | .fn f caps, v, hr => by
    simp only [rel] at hr ⊢
    obtain ⟨vs, h1, h2⟩ := hr
    exact ⟨vs, h1, relL_mono h caps vs h2⟩
  | .tup cs, v, hr => by
    simp only [rel] at hr ⊢
    obtain ⟨vs, h1, h2⟩ := hr
    exact ⟨vs, h1, relL_mono h cs vs h2⟩
  | .mp xs, v, hr => by
    simp only [rel] at hr ⊢
    rcases hr with hr | ⟨b, es, c, h1, h2, h3, h4, h5⟩
    · exact Or.inl hr
    · exact Or.inr ⟨b, es, c, h1, Nat.lt_of_lt_of_le h2 h.size, h.own b h2 h3, by rw [h.keep b h2 h3]; exact h4, relEs_mono h xs _ h5⟩
theorem relEs_mono (h : MonoW w O w' O') : ∀ (xs : List (List A)) (es : List MapEntry), relEs w O xs es → relEs w' O' xs es
  | [], es, hr => by simpa [relEs] using hr
  | x :: xs, es, hr => by
    simp only [relEs] at hr ⊢
    obtain ⟨e, r, h1, h2, h3⟩ := hr
    exact ⟨e, r, h1, relL_mono h x _ h2, relEs_mono h xs r h3⟩
theorem relL_mono (h : MonoW w O w' O') : ∀ (cs : List A) (vs : List Value), relL w O cs vs → relL w' O' cs vs
  | [], vs, hr => by simpa [relL] using hr
  | c :: cs, vs, hr => by
    simp only [relL] at hr ⊢
    obtain ⟨v, r, h1, h2, h3⟩ := hr
    exact ⟨v, r, h1, rel_mono h c v h2, relL_mono h cs r h3⟩
theorem relCells_mono (h : MonoW w O w' O') (b off : Nat) : ∀ (cs : List A), b < w.heap.size → ¬ O b → relCells w O b off cs → relCells w' O' b off cs
  | [], _, _, _ => by simp [relCells]
  | c :: cs, hb, hO, hr => by
    simp only [relCells] at hr ⊢
    obtain ⟨⟨v, h1, h0, h2⟩, h3⟩ := hr
    exact ⟨⟨v, by rw [h.cell hb hO]; exact h1, h0, rel_mono h c v h2⟩, relCells_mono h b (off + 1) cs hb hO h3⟩
theorem relRows_mono (h : MonoW w O w' O') (k b off : Nat) : ∀ (xs : List (List A)), b < w.heap.size → ¬ O b → relRows w O k b off xs → relRows w' O' k b off xs
  | [], _, _, _ => by simp [relRows]
  | x :: xs, hb, hO, hr => by
    simp only [relRows] at hr ⊢
    obtain ⟨h1, h2, h3⟩ := hr
    exact ⟨h1, relCells_mono h b off x hb hO h2, relRows_mono h k b (off + k) xs hb hO h3⟩
end

theorem relL_get : ∀ {cs : List A} {vs : List Value} {i : Nat} {c : A}, relL w O cs vs → cs[i]? = some c → ∃ v, vs[i]? = some v ∧ rel w O c v
  | [], _, _, _, _, h => by simp at h
  | x :: cs, vs, i, c, hr, h => by
    simp only [relL] at hr
    obtain ⟨v, r, rfl, h2, h3⟩ := hr
    cases i with
    | zero => simp at h; subst h; exact ⟨v, by simp, h2⟩
    | succ i => simp at h; obtain ⟨u, h4, h5⟩ := relL_get h3 h; exact ⟨u, by simpa using h4, h5⟩

theorem relL_length : ∀ {cs : List A} {vs : List Value}, relL w O cs vs → vs.length = cs.length
  | [], _, h => by simp only [relL] at h; simp [h]
  | x :: cs, vs, hr => by
    simp only [relL] at hr
    obtain ⟨v, r, rfl, _, h3⟩ := hr
    simp [relL_length h3]

theorem relL_append : ∀ {cs : List A} {vs : List Value} {ds : List A} {us : List Value}, relL w O cs vs → relL w O ds us → relL w O (cs ++ ds) (vs ++ us)
  | [], vs, ds, us, h, k => by simp only [relL] at h; simpa [h] using k
  | c :: cs, vs, ds, us, h, k => by
    simp only [relL] at h
    obtain ⟨v, r, rfl, h2, h3⟩ := h
    simp only [List.cons_append, relL]
    exact ⟨v, r ++ us, rfl, h2, relL_append h3 k⟩

theorem relL_drop : ∀ {cs : List A} {vs : List Value} (n : Nat), relL w O cs vs → relL w O (cs.drop n) (vs.drop n)
  | cs, vs, 0, h => by simpa using h
  | [], vs, n + 1, h => by simp only [relL] at h; subst h; simp [relL]
  | c :: cs, vs, n + 1, h => by
    simp only [relL] at h
    obtain ⟨v, r, rfl, _, h3⟩ := h
    simpa using relL_drop n h3

theorem relL_take : ∀ {cs : List A} {vs : List Value} (n : Nat), relL w O cs vs → relL w O (cs.take n) (vs.take n)
  | cs, vs, 0, h => by simp [relL]
  | [], vs, n + 1, h => by simp only [relL] at h; subst h; simp [relL]
  | c :: cs, vs, n + 1, h => by
    simp only [relL] at h
    obtain ⟨v, r, rfl, h2, h3⟩ := h
    simp only [List.take_succ_cons, relL]
    exact ⟨v, _, rfl, h2, relL_take n h3⟩

/-- Cells put over others. -/
def over {α : Type} (cs : List α) (off : Nat) (ds : List α) : List α := cs.take off ++ ds ++ cs.drop (off + ds.length)

theorem relL_over {cs ds : List A} {vs us : List Value} {off : Nat} (h : relL w O cs vs) (k : relL w O ds us) : relL w O (over cs off ds) (over vs off us) := by
  unfold over
  rw [← relL_length k]
  exact relL_append (relL_append (relL_take off h) k) (relL_drop _ h)

theorem cell_lt {w : World} {b off : Nat} {v : Value} (h : w.cell? ⟨b, off, none⟩ = some v) : b < w.heap.size := by
  unfold World.cell? at h
  cases hb : w.heap[b]? with
  | none => simp [hb] at h
  | some o => exact (Array.getElem?_eq_some_iff.1 hb).1
end

/-! ### Reading memory -/

/-- The cells from an address on hold these values. -/
def Reads (w : World) (b off : Nat) (vs : List Value) : Prop := ∀ j v, vs[j]? = some v → w.cell? ⟨b, off + j, none⟩ = some v

def OneCells (vs : List Value) : Prop := ∀ v ∈ vs, v.oneCell' = true

section
variable {w : World} {O : Nat → Prop}

theorem relCells_reads : ∀ {cs : List A} {b off : Nat}, relCells w O b off cs → ∃ vs, relL w O cs vs ∧ Reads w b off vs ∧ OneCells vs
  | [], b, off, _ => ⟨[], by simp [relL], fun j v h => by simp at h, fun v h => by cases h⟩
  | c :: cs, b, off, h => by
    simp only [relCells] at h
    obtain ⟨⟨v, h1, h0, h2⟩, h3⟩ := h
    obtain ⟨vs, h4, h5, h6⟩ := relCells_reads h3
    refine ⟨v :: vs, ?_, fun j u hj => ?_, fun u hu => ?_⟩
    · simp only [relL]; exact ⟨v, vs, rfl, h2, h4⟩
    · cases j with
      | zero => simp at hj; subst hj; exact h1
      | succ j => simp at hj; have := h5 j u hj; rwa [show off + 1 + j = off + (j + 1) by omega] at this
    · rcases List.mem_cons.1 hu with rfl | hu
      · exact h0
      · exact h6 u hu

theorem cells_of_reads : ∀ {cs : List A} {vs : List Value} {b off : Nat}, relL w O cs vs → Reads w b off vs → OneCells vs → relCells w O b off cs
  | [], _, _, _, _, _, _ => by simp [relCells]
  | c :: cs, vs, b, off, h, hr, ho => by
    simp only [relL] at h
    obtain ⟨v, r, rfl, h2, h3⟩ := h
    simp only [relCells]
    refine ⟨⟨v, by simpa using hr 0 v (by simp), ho v (by simp), h2⟩, cells_of_reads h3 (fun j u hj => ?_) fun u hu => ho u (by simp [hu])⟩
    have := hr (j + 1) u (by simpa using hj)
    rwa [show off + (j + 1) = off + 1 + j by omega] at this

theorem Reads.drop {b off : Nat} {vs : List Value} (h : Reads w b off vs) (n : Nat) : Reads w b (off + n) (vs.drop n) := fun j v hj => by
  have := h (n + j) v (by simpa using hj)
  rwa [show off + (n + j) = off + n + j by omega] at this

theorem Reads.take {b off : Nat} {vs : List Value} (h : Reads w b off vs) (n : Nat) : Reads w b off (vs.take n) := fun j v hj => by
  have : j < n := by
    have := (List.getElem?_eq_some_iff.1 hj).1
    simp at this
    omega
  exact h j v (by simpa [List.getElem?_take, this] using hj)

theorem Reads.block {b : Nat} {c : Array Value} {T : TypeId} {fz : Nat × Nat} (h : w.heap[b]? = some (.cells c T fz)) : Reads w b 0 c.toList := fun j v hj => by
  simp only [World.cell?, h, Nat.zero_add]
  simpa using hj

theorem OneCells.take {vs : List Value} (h : OneCells vs) (n : Nat) : OneCells (vs.take n) := fun v hv => h v (List.mem_of_mem_take hv)
theorem OneCells.drop {vs : List Value} (h : OneCells vs) (n : Nat) : OneCells (vs.drop n) := fun v hv => h v (List.mem_of_mem_drop hv)
theorem OneCells.append {vs us : List Value} (h : OneCells vs) (k : OneCells us) : OneCells (vs ++ us) := fun v hv => (List.mem_append.1 hv).elim (h v) (k v)
theorem OneCells.over {vs us : List Value} (h : OneCells vs) (k : OneCells us) (n : Nat) : OneCells (over vs n us) := ((h.take _).append k).append (h.drop _)

theorem relRows_get {k b : Nat} : ∀ {xs : List (List A)} {off i : Nat} {x : List A}, relRows w O k b off xs → xs[i]? = some x → x.length = k ∧ relCells w O b (off + i * k) x
  | [], off, i, x, _, h => by simp at h
  | y :: xs, off, i, x, hr, h => by
    simp only [relRows] at hr
    obtain ⟨h1, h2, h3⟩ := hr
    cases i with
    | zero => simp at h; subst h; exact ⟨h1, by simpa using h2⟩
    | succ i =>
      simp at h
      have := relRows_get h3 h
      refine ⟨this.1, ?_⟩
      rw [show off + (i + 1) * k = off + k + i * k by rw [Nat.add_mul]; omega]
      exact this.2

theorem relRows_drop {k b : Nat} : ∀ {xs : List (List A)} {off : Nat} (n : Nat), relRows w O k b off xs → n ≤ xs.length → relRows w O k b (off + n * k) (xs.drop n)
  | xs, off, 0, h, _ => by simpa using h
  | [], off, n + 1, _, hn => by simp at hn
  | x :: xs, off, n + 1, h, hn => by
    simp only [relRows] at h
    have := relRows_drop n h.2.2 (by simpa using hn)
    rw [show off + (n + 1) * k = off + k + n * k by rw [Nat.add_mul]; omega]
    simpa using this

theorem relRows_take {k b : Nat} : ∀ {xs : List (List A)} {off : Nat} (n : Nat), relRows w O k b off xs → relRows w O k b off (xs.take n)
  | xs, off, 0, _ => by simp [relRows]
  | [], off, n + 1, _ => by simp [relRows]
  | x :: xs, off, n + 1, h => by
    simp only [relRows] at h
    simp only [List.take_succ_cons, relRows]
    exact ⟨h.1, h.2.1, relRows_take n h.2.2⟩

theorem rows_of_flat {k b : Nat} : ∀ {xs : List (List A)} {vs : List Value} {off : Nat}, (∀ x ∈ xs, x.length = k) → relL w O xs.flatten vs → Reads w b off vs → OneCells vs → relRows w O k b off xs
  | [], _, _, _, _, _, _ => by simp [relRows]
  | x :: xs, vs, off, hk, h, hr, ho => by
    simp only [relRows]
    have hx := hk x (by simp)
    have h1 : relL w O x (vs.take k) := by
      have := relL_take k h
      rw [List.flatten_cons, ← hx, List.take_left' rfl] at this
      rw [← hx]; exact this
    have h2 : relL w O xs.flatten (vs.drop k) := by
      have := relL_drop k h
      rw [List.flatten_cons, ← hx, List.drop_left' rfl] at this
      rw [← hx]; exact this
    exact ⟨hx, cells_of_reads h1 (hr.take k) (ho.take k), rows_of_flat (fun y hy => hk y (by simp [hy])) h2 (hr.drop k) (ho.drop k)⟩

theorem flat_of_rows {k b : Nat} : ∀ {l : List (List A)} {off : Nat}, relRows w O k b off l → ∃ vs, relL w O l.flatten vs ∧ Reads w b off vs ∧ OneCells vs ∧ ∀ y ∈ l, y.length = k
  | [], off, _ => ⟨[], by simp [relL], fun j v hj => by simp at hj, (fun v h => by cases h), by simp⟩
  | y :: l, off, hr => by
    simp only [relRows] at hr
    obtain ⟨g1, g2, g3⟩ := hr
    obtain ⟨vs, g4, g5, g0⟩ := relCells_reads g2
    obtain ⟨us, g6, g7, g9, g8⟩ := flat_of_rows g3
    refine ⟨vs ++ us, by rw [List.flatten_cons]; exact relL_append g4 g6, ?_, g0.append g9, ?_⟩
    · intro j u hj
      have hl := relL_length g4
      by_cases hjv : j < vs.length
      · rw [List.getElem?_append_left hjv] at hj
        exact g5 j u hj
      · rw [List.getElem?_append_right (by omega)] at hj
        have := g7 _ u hj
        rwa [show off + k + (j - vs.length) = off + j by omega] at this
    · intro z hz
      rcases List.mem_cons.1 hz with rfl | hz
      · exact g1
      · exact g8 z hz

theorem len_flat {α : Type} {k : Nat} : ∀ {xs : List (List α)}, (∀ x ∈ xs, x.length = k) → xs.flatten.length = xs.length * k
  | [], _ => by simp
  | x :: xs, h => by
    rw [List.flatten_cons, List.length_append, h x (by simp), len_flat fun y hy => h y (by simp [hy]), List.length_cons, Nat.add_mul]
    omega
end
end Go.Proofs.YtnbjmmldjggkfaaGreat.Abs
