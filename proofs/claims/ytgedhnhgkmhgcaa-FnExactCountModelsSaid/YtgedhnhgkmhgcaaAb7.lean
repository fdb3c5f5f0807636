/- OPERATIONS THAT TURN THE STORE: new variables, stores, rows that are made and grown. -/
import Derived.Test.YtgedhnhgkmhgcaaAb6
namespace Go.Proofs.Ytgedhnhgkmhgcaa.Abs
open Go Go.RowKit

section
variable {P : Program} {o : Oper} {ρ : Operand → A} {bx bx' : List (List A)} {rw rw' : List (Nat × List (List A))}

/-- One operation that may turn the store: what it hands back, and the store behind it. -/
def ROp (P : Program) (o : Oper) (ρ : Operand → A) (bx : List (List A)) (rw : List (Nat × List (List A))) (r : A) (bx' : List (List A)) (rw' : List (Nat × List (List A))) : Prop :=
  ∀ (w : World) (O0 : Nat → Prop) (m : M) (ev : Operand → Value), Store w O0 m bx rw → (∀ x ∈ o.op.operands, rel w (Ow O0 m) m (lens rw) (ρ x) (ev x)) →
    ∃ v w' m', ((execOp ev o).run P w = .ok (.value v) w' ∨ ((execOp ev o).run P w = .ok .skip w' ∧ v = undef)) ∧ Era w m (lens rw) w' m' (lens rw') ∧ Store w' O0 m' bx' rw' ∧
      rel w' (Ow O0 m') m' (lens rw') r v

theorem SOp.of_rop {s : St} {r : A} {K : St → Prop} (h : ROp P o (St.ev s.fr) s.bx s.rw r bx' rw') (hk : K ⟨putA s.fr o.dst r, bx', rw', s.nb, s.nx⟩) : SOp P o s K := by
  intro we m0 ls0 O0 m a w N Q hs hN
  obtain ⟨v, w', m', h1, h2, h3, h4⟩ := h w O0 m a.eval hs.store fun x _ => rel_ev hs.fr x
  have hfr := relL_mono (h2.mono O0) _ _ hs.fr
  have hs' : Sim we m0 ls0 O0 m' ⟨s.fr, bx', rw', s.nb, s.nx⟩ a w' := ⟨hs.defers, hs.nb, hs.nx, hs.era.trans h2, h3, hfr⟩
  have hfin := hN m' _ _ w' hk (sim_put hs' o.dst h4)
  unfold Oper.wp
  rcases h1 with h1 | ⟨h1, rfl⟩ <;> rw [h1] <;> simp only [Oper.upon] <;> exact hfin

theorem Store.build {w w' : World} {O0 : Nat → Prop} {m m' : M} (hs : Store w O0 m bx rw) (hm : Mono w (Ow O0 m) m (lens rw) w' (Ow O0 m') m' (lens rw'))
    (bxl : m'.bx.length = bx'.length) (rwl : m'.rw.length = rw'.length) (nd : m'.blocks.Nodup) (blk : ∀ b ∈ m'.blocks, b < w'.heap.size ∧ ¬ O0 b)
    (hbox : ∀ (id b : Nat) cs, m'.bx[id]? = some b → bx'[id]? = some cs → (m.bx[id]? = some b ∧ bx[id]? = some cs ∧ w'.heap[b]? = w.heap[b]?) ∨ ∃ c T, w'.heap[b]? = some (.cells c T (0, 0)) ∧ relL w' (Ow O0 m') m' (lens rw') cs c.toList)
    (hrow : ∀ (id : Nat) h k xs, m'.rw[id]? = some h → rw'[id]? = some (k, xs) → (m.rw[id]? = some h ∧ rw[id]? = some (k, xs) ∧ ∀ b cap, h = some (b, cap) → w'.heap[b]? = w.heap[b]?) ∨ rowOk w' (Ow O0 m') m' (lens rw') k xs h) :
    Store w' O0 m' bx' rw' where
  bxl := bxl
  rwl := rwl
  nd := nd
  blk := blk
  old := fun b hb => Nat.lt_of_lt_of_le (hs.old b hb) hm.size
  box := fun id b cs h1 h2 => by
    rcases hbox id b cs h1 h2 with ⟨h3, h4, h5⟩ | h3
    · obtain ⟨c, T, h6, h7⟩ := hs.box id b cs h3 h4
      exact ⟨c, T, by rw [h5]; exact h6, relL_mono hm _ _ h7⟩
    · exact h3
  row := fun id h k xs h1 h2 => by
    rcases hrow id h k xs h1 h2 with ⟨h3, h4, h5⟩ | h3
    · exact rowOk_mono hm h5 (hs.row id h k xs h3 h4)
    · exact h3

/-- The world after a new block. -/
theorem below_alloc (w : World) (ob : Obj) : Below w.heap.size w (w.alloc ob) := (Below.refl _ w).alloc (Nat.le_refl _) ob
theorem heap_alloc_new (w : World) (ob : Obj) : (w.alloc ob).heap[w.heap.size]? = some ob := by
  show (w.heap.push ob)[w.heap.size]? = some ob
  simp
theorem size_alloc' (w : World) (ob : Obj) : (w.alloc ob).heap.size = w.heap.size + 1 := by
  show (w.heap.push ob).size = _
  simp

theorem blocks_addBx (m : M) (b : Nat) : ∀ x, x ∈ (⟨m.bx ++ [b], m.rw⟩ : M).blocks ↔ x ∈ m.blocks ∨ x = b := by
  intro x; simp only [M.blocks, List.mem_append, List.mem_singleton]
  constructor
  · rintro ((h | h) | h)
    · exact Or.inl (Or.inl h)
    · exact Or.inr h
    · exact Or.inl (Or.inr h)
  · rintro ((h | h) | h)
    · exact Or.inl (Or.inl h)
    · exact Or.inr h
    · exact Or.inl (Or.inr h)

/-- a new variable -/
theorem era_addBx {w w' : World} {m : M} {ls : List Nat} (hb : Below w.heap.size w w') : Era w m ls w' ⟨m.bx ++ [w.heap.size], m.rw⟩ ls where
  os := hb.os
  tape := hb.tape
  output := hb.output
  size := hb.size
  keep := fun b h _ => hb.block b h
  new := fun b h => by
    rcases (blocks_addBx m _ b).1 h with h | h
    · exact Or.inl h
    · exact Or.inr (by omega)
  bx := fun id b h => by
    have := (List.getElem?_eq_some_iff.1 h).1
    show (m.bx ++ [w.heap.size])[id]? = some b
    rw [List.getElem?_append_left this]; exact h
  rw := fun id l h => ⟨l, h, Nat.le_refl _, fun _ => rfl⟩

theorem store_addBx {w w' : World} {O0 : Nat → Prop} {m : M} (hs : Store w O0 m bx rw) (hb : Below w.heap.size w w') (hsz : w.heap.size < w'.heap.size) {c : Array Value} {T : TypeId}
    (hc : w'.heap[w.heap.size]? = some (.cells c T (0, 0))) {cs : List A} (hr : relL w (Ow O0 m) m (lens rw) cs c.toList) : Store w' O0 ⟨m.bx ++ [w.heap.size], m.rw⟩ (bx ++ [cs]) rw := by
  have hm := (era_addBx (m := m) (ls := lens rw) hb).mono O0
  have hnew : ∀ b ∈ m.blocks, b ≠ w.heap.size := fun b h => Nat.ne_of_lt (hs.blk b h).1
  refine hs.build hm (by simp [hs.bxl]) hs.rwl ?_ ?_ ?_ ?_
  · have : (⟨m.bx ++ [w.heap.size], m.rw⟩ : M).blocks.Perm (w.heap.size :: m.blocks) := by
      simp only [M.blocks, List.append_assoc, List.singleton_append]
      exact List.perm_middle
    rw [this.nodup_iff]
    exact List.nodup_cons.2 ⟨fun h => hnew _ h rfl, hs.nd⟩
  · intro b h
    rcases (blocks_addBx m _ b).1 h with h | h
    · exact ⟨Nat.lt_of_lt_of_le (hs.blk b h).1 hb.size, (hs.blk b h).2⟩
    · subst h; exact ⟨hsz, fun ho => Nat.lt_irrefl _ (hs.old _ ho)⟩
  · intro id b ds h1 h2
    by_cases hid : id < m.bx.length
    · rw [List.getElem?_append_left hid] at h1
      rw [List.getElem?_append_left (by rw [← hs.bxl]; exact hid)] at h2
      exact Or.inl ⟨h1, h2, hb.block b (hs.blk b (mem_blocks_bx h1)).1⟩
    · have e : id = m.bx.length := by
        have := (List.getElem?_eq_some_iff.1 h1).1
        simp at this; omega
      subst e
      simp only [List.getElem?_concat_length, Option.some.injEq] at h1
      rw [hs.bxl, List.getElem?_concat_length] at h2
      simp only [Option.some.injEq] at h2
      subst h1 h2
      exact Or.inr ⟨c, T, hc, relL_mono hm _ _ hr⟩
  · intro id h k xs h1 h2
    exact Or.inl ⟨h1, h2, fun b cap e => by subst e; exact hb.block b (hs.blk b (mem_blocks_rw h1)).1⟩

def okCell : A → Bool
  | .top => false
  | .val v => v.oneCell'
  | .agg _ => false
  | .tup _ => false
  | _ => true

/-- The cells that a value takes in memory. -/
def cellsOf? : A → Option (List A)
  | .agg cs => some cs
  | a => if okCell a then some [a] else none

theorem rel_okCell {w : World} {O : Nat → Prop} {m : M} {ls : List Nat} {a : A} {v : Value} (h : rel w O m ls a v) (hk : okCell a = true) : v.oneCell' = true := by
  cases a <;> simp only [okCell, Bool.false_eq_true] at hk <;> simp only [rel] at h
  case val x => subst h; exact hk
  case emp => obtain ⟨a, rfl⟩ := h; rfl
  case sl => obtain ⟨a, cap, rfl, _⟩ := h; rfl
  case elt => obtain ⟨b, o, rfl, _⟩ := h; rfl
  case fn => obtain ⟨vs, rfl, _⟩ := h; rfl
  case ptr => obtain ⟨b, _, rfl⟩ := h; rfl
  case row id n => obtain ⟨l, _, _, ⟨a, c, rfl⟩, _⟩ := h; rfl
  case rptr => obtain ⟨l, _, _, ⟨ad, rfl⟩, _⟩ := h; rfl

theorem cells_one {v : Value} (h : v.oneCell' = true) : v.cells = #[v] := by
  cases v <;> first | rfl | (simp [Value.oneCell'] at h)

end
end Go.Proofs.Ytgedhnhgkmhgcaa.Abs
