/- ABSTRACT STATES: a frame of abstract values and a store of the call's own objects; the rules for code, and how a walk over them gives a contract. -/
import Derived.Test.YtgedhnhgkmhgcaaAb1
import Derived.LoopN
namespace Go.Proofs.Ytgedhnhgkmhgcaa.Abs
open Go Go.RowKit

structure St where
  fr : List A
  bx : List (List A)
  rw : List (Nat × List (List A))
  nb : Nat
  nx : Nat

def lens (rw : List (Nat × List (List A))) : List Nat := rw.map fun r => r.2.length

def Ow (O0 : Nat → Prop) (m : M) : Nat → Prop := fun b => O0 b ∨ b ∈ m.blocks

def rowOk (w : World) (O : Nat → Prop) (m : M) (ls : List Nat) (k : Nat) (xs : List (List A)) : Option (Nat × Nat) → Prop
  | none => xs = []
  | some (b, cap) => xs.length ≤ cap ∧ cap ≤ 9223372036854775807 ∧ (∀ x ∈ xs, x.length = k) ∧ ∃ c T, w.heap[b]? = some (.cells c T (0, 0)) ∧ c.size = cap * k ∧
      relL w O m ls xs.flatten (c.toList.take (xs.length * k))

structure Store (w : World) (O0 : Nat → Prop) (m : M) (bx : List (List A)) (rw : List (Nat × List (List A))) : Prop where
  bxl : m.bx.length = bx.length
  rwl : m.rw.length = rw.length
  nd : m.blocks.Nodup
  blk : ∀ b ∈ m.blocks, b < w.heap.size ∧ ¬ O0 b
  old : ∀ b, O0 b → b < w.heap.size
  box : ∀ (id b : Nat) cs, m.bx[id]? = some b → bx[id]? = some cs → ∃ c T, w.heap[b]? = some (.cells c T (0, 0)) ∧ relL w (Ow O0 m) m (lens rw) cs c.toList
  row : ∀ (id : Nat) h k xs, m.rw[id]? = some h → rw[id]? = some (k, xs) → rowOk w (Ow O0 m) m (lens rw) k xs h

/-- From the world in which the call (or the era) began. -/
structure Era (we : World) (m0 : M) (ls0 : List Nat) (w : World) (m : M) (ls : List Nat) : Prop where
  os : w.os = we.os
  tape : w.tape = we.tape
  output : w.output = we.output
  size : we.heap.size ≤ w.heap.size
  keep : ∀ b : Nat, b < we.heap.size → b ∉ m0.blocks → w.heap[b]? = we.heap[b]?
  new : ∀ b ∈ m.blocks, b ∈ m0.blocks ∨ we.heap.size ≤ b
  bx : ∀ (id b : Nat), m0.bx[id]? = some b → m.bx[id]? = some b
  rw : ∀ (id l : Nat), ls0[id]? = some l → ∃ l', ls[id]? = some l' ∧ l ≤ l' ∧ (l = l' → m.rw[id]? = m0.rw[id]?)

theorem Era.refl (w : World) (m : M) (ls : List Nat) : Era w m ls w m ls :=
  ⟨rfl, rfl, rfl, Nat.le_refl _, fun _ _ _ => rfl, fun _ h => Or.inl h, fun _ _ h => h, fun _ l h => ⟨l, h, Nat.le_refl _, fun _ => rfl⟩⟩

theorem Era.trans {w1 w2 w3 : World} {m1 m2 m3 : M} {l1 l2 l3 : List Nat} (h : Era w1 m1 l1 w2 m2 l2) (k : Era w2 m2 l2 w3 m3 l3) : Era w1 m1 l1 w3 m3 l3 where
  os := k.os.trans h.os
  tape := k.tape.trans h.tape
  output := k.output.trans h.output
  size := Nat.le_trans h.size k.size
  keep := fun b hb hn => by
    have h1 := h.keep b hb hn
    have h2 : b ∉ m2.blocks := fun hm => by
      rcases h.new b hm with h3 | h3
      · exact hn h3
      · omega
    exact (k.keep b (Nat.lt_of_lt_of_le hb h.size) h2).trans h1
  new := fun b hb => by
    rcases k.new b hb with h1 | h1
    · exact h.new b h1
    · exact Or.inr (Nat.le_trans h.size h1)
  bx := fun id b hb => k.bx id b (h.bx id b hb)
  rw := fun id l hl => by
    obtain ⟨l', h1, h2, h3⟩ := h.rw id l hl
    obtain ⟨l'', g1, g2, g3⟩ := k.rw id l' h1
    exact ⟨l'', g1, Nat.le_trans h2 g2, fun e => (g3 (by omega)).trans (h3 (by omega))⟩

theorem Era.mono {we w : World} {m0 m : M} {ls0 ls : List Nat} (h : Era we m0 ls0 w m ls) (O0 : Nat → Prop) : Mono we (Ow O0 m0) m0 ls0 w (Ow O0 m) m ls where
  size := h.size
  keep := fun b hb hn => h.keep b hb fun hm => hn (Or.inr hm)
  own := fun b hb hn ho => by
    rcases ho with ho | ho
    · exact hn (Or.inl ho)
    · rcases h.new b ho with h1 | h1
      · exact hn (Or.inr h1)
      · omega
  bx := h.bx
  rw := h.rw

structure Sim (we : World) (m0 : M) (ls0 : List Nat) (O0 : Nat → Prop) (m : M) (s : St) (a : Act) (w : World) : Prop where
  defers : a.defers = []
  nb : ls0.length ≤ s.nb
  nx : m0.bx.length ≤ s.nx
  era : Era we m0 ls0 w m (lens s.rw)
  store : Store w O0 m s.bx s.rw
  fr : relL w (Ow O0 m) m (lens s.rw) s.fr a.tmps.toList

def post (we : World) (m0 : M) (ls0 : List Nat) (O0 : Nat → Prop) (Q : Exit → St → Prop) : Exit → Act → World → Prop :=
  fun e a w => ∃ m s, Q e s ∧ Sim we m0 ls0 O0 m s a w

def AWP (P : Program) (c : Code) (Q : Exit → St → Prop) (s : St) : Prop :=
  ∀ we m0 ls0 O0 m a w, Sim we m0 ls0 O0 m s a w → c.wp P (post we m0 ls0 O0 Q) a w

section
variable {P : Program} {Q Q' : Exit → St → Prop} {s : St}

theorem AWP.mono {c : Code} (h : AWP P c Q s) (hq : ∀ e s, Q e s → Q' e s) : AWP P c Q' s :=
  fun we m0 ls0 O0 m a w hs => wp_mono (h we m0 ls0 O0 m a w hs) fun _ _ _ ⟨m', s', h1, h2⟩ => ⟨m', s', hq _ _ h1, h2⟩

theorem AWP.skip (h : Q .normal s) : AWP P .skip Q s := fun _ _ _ _ m _ _ hs => wp_skip ⟨m, s, h, hs⟩
theorem AWP.exit {id : Nat} (h : Q (.exit id) s) : AWP P (.exit id) Q s := fun _ _ _ _ m _ _ hs => wp_exit ⟨m, s, h, hs⟩
theorem AWP.ret (h : Q .ret s) : AWP P .ret Q s := fun _ _ _ _ m _ _ hs => wp_ret ⟨m, s, h, hs⟩
theorem AWP.label {l : Nat} (h : Q .normal s) : AWP P (.label l) Q s := fun _ _ _ _ m _ _ hs => wp_label ⟨m, s, h, hs⟩

/-- What follows, behind a normal end. -/
def andThen (K : St → Prop) (Q : Exit → St → Prop) : Exit → St → Prop
  | .normal, s => K s
  | e, s => Q e s

theorem AWP.seq {x y : Code} (h : AWP P x (andThen (AWP P y Q) Q) s) : AWP P (.seq x y) Q s := by
  intro we m0 ls0 O0 m a w hs
  refine wp_seq (wp_mono (h we m0 ls0 O0 m a w hs) ?_)
  rintro e a' w' ⟨m', s', h1, h2⟩
  cases e with
  | normal => exact h1 we m0 ls0 O0 m' a' w' h2
  | exit id => exact ⟨m', s', h1, h2⟩
  | goto l => exact ⟨m', s', h1, h2⟩
  | ret => exact ⟨m', s', h1, h2⟩
  | panic ch => exact ⟨m', s', h1, h2⟩
  | outgrown => exact ⟨m', s', h1, h2⟩

def inBlk (id : Nat) (Q : Exit → St → Prop) : Exit → St → Prop
  | .exit id', s => if id' = id then Q .normal s else Q (.exit id') s
  | e, s => Q e s

theorem AWP.block {id : Nat} {c : Code} (h : AWP P c (inBlk id Q) s) : AWP P (.block id c) Q s := by
  intro we m0 ls0 O0 m a w hs
  refine wp_block (wp_mono (h we m0 ls0 O0 m a w hs) ?_)
  rintro e a' w' ⟨m', s', h1, h2⟩
  cases e with
  | normal => exact ⟨m', s', h1, h2⟩
  | exit id' =>
    simp only [Exit.inBlock]
    by_cases hid : id' = id
    · simp only [inBlk, hid, if_true] at h1
      rw [if_pos hid]; exact ⟨m', s', h1, h2⟩
    · simp only [inBlk, hid, if_false] at h1
      rw [if_neg hid]; exact ⟨m', s', h1, h2⟩
  | goto l => exact ⟨m', s', h1, h2⟩
  | ret => exact ⟨m', s', h1, h2⟩
  | panic ch => exact ⟨m', s', h1, h2⟩
  | outgrown => exact ⟨m', s', h1, h2⟩

theorem relL_get {w : World} {O : Nat → Prop} {m : M} {ls : List Nat} : ∀ {cs : List A} {vs : List Value} {i : Nat} {c : A}, relL w O m ls cs vs → cs[i]? = some c → ∃ v, vs[i]? = some v ∧ rel w O m ls c v
  | [], _, _, _, _, h => by simp at h
  | x :: cs, vs, i, c, hr, h => by
    simp only [relL] at hr
    obtain ⟨v, r, rfl, h2, h3⟩ := hr
    cases i with
    | zero => simp at h; subst h; exact ⟨v, by simp, h2⟩
    | succ i => simp at h; obtain ⟨u, h4, h5⟩ := relL_get h3 h; exact ⟨u, by simpa using h4, h5⟩

theorem relL_length {w : World} {O : Nat → Prop} {m : M} {ls : List Nat} : ∀ {cs : List A} {vs : List Value}, relL w O m ls cs vs → vs.length = cs.length
  | [], _, h => by simp only [relL] at h; simp [h]
  | x :: cs, vs, hr => by
    simp only [relL] at hr
    obtain ⟨v, r, rfl, _, h3⟩ := hr
    simp [relL_length h3]

/-- An operand's abstract value: a nil slice as the empty one. -/
def liftV : Value → A
  | .slice none 0 0 => .emp
  | v => .val v

def St.ev (fr : List A) : Operand → A
  | .tmp t => fr.getD t (.val undef)
  | .const v => liftV v
  | .global g => .val (.pointer (some ⟨g, 0, none⟩))
  | .func f => .fn f []

theorem rel_lift {w : World} {O : Nat → Prop} {m : M} {ls : List Nat} (v : Value) : rel w O m ls (liftV v) v := by
  unfold liftV
  split
  · simp only [rel]; exact ⟨none, rfl⟩
  · simp [rel]

theorem rel_ev {w : World} {O : Nat → Prop} {m : M} {ls : List Nat} {fr : List A} {a : Act} (h : relL w O m ls fr a.tmps.toList) (x : Operand) : rel w O m ls (St.ev fr x) (a.eval x) := by
  cases x with
  | tmp t =>
    simp only [St.ev, Act.eval]
    cases ht : fr[t]? with
    | some c =>
      obtain ⟨v, h1, h2⟩ := relL_get h ht
      rw [List.getD_eq_getElem?_getD, ht]
      rw [Array.getD_eq_getD_getElem?, ← Array.getElem?_toList, h1]
      simpa using h2
    | none =>
      have hl := relL_length h
      have : a.tmps[t]? = none := by
        rw [← Array.getElem?_toList]
        rw [List.getElem?_eq_none_iff] at ht ⊢
        omega
      rw [List.getD_eq_getElem?_getD, ht, Array.getD_eq_getD_getElem?, this]
      simp [rel]
  | const v => exact rel_lift v
  | global g => simp [St.ev, Act.eval, rel]
  | func f => simp only [St.ev, Act.eval, rel, relL]; exact ⟨[], rfl, rfl⟩

theorem AWP.cond {c : Operand} {x y : Code} {b : Bool} (hc : St.ev s.fr c = .val (.bool b)) (ht : b = true → AWP P x Q s) (hf : b = false → AWP P y Q s) : AWP P (.cond c x y) Q s := by
  intro we m0 ls0 O0 m a w hs
  have h := rel_ev hs.fr c
  rw [hc] at h
  simp only [rel] at h
  refine wp_cond_split h (fun e => ht e we m0 ls0 O0 m a w hs) (fun e => hf e we m0 ls0 O0 m a w hs)

/-- s is at least as much known as s'. -/
def Le (s s' : St) : Prop := ∀ we m0 ls0 O0 m a w, Sim we m0 ls0 O0 m s a w → ∃ m', Sim we m0 ls0 O0 m' s' a w

theorem Le.refl (s : St) : Le s s := fun _ _ _ _ m _ _ h => ⟨m, h⟩

theorem AWP.weaken {c : Code} {s' : St} (hl : Le s s') (h : AWP P c Q s') : AWP P c Q s := by
  intro we m0 ls0 O0 m a w hs
  obtain ⟨m', hs'⟩ := hl we m0 ls0 O0 m a w hs
  exact h we m0 ls0 O0 m' a w hs'

theorem AWP.loop {ι : Type} {c : Code} (I : ι → St) (μ : ι → Nat) (i0 : ι) (h0 : Le s (I i0))
    (round : ∀ i, AWP P c (andThen (fun s' => ∃ j, μ j < μ i ∧ Le s' (I j)) Q) (I i)) : AWP P (.loop c) Q s := by
  intro we m0 ls0 O0 m a w hs
  have key : ∀ n i m a w, μ i < n → Sim we m0 ls0 O0 m (I i) a w → Code.rounds P c (post we m0 ls0 O0 Q) n a w := by
    intro n
    induction n with
    | zero => intro i m a w h; omega
    | succ n ih =>
      intro i m a w hi hs
      rw [rounds_succ]
      refine wp_mono (round i we m0 ls0 O0 m a w hs) ?_
      rintro e a' w' ⟨m', s', h1, h2⟩
      cases e with
      | normal =>
        obtain ⟨j, hj, hle⟩ := h1
        obtain ⟨m'', h3⟩ := hle _ _ _ _ _ _ _ h2
        exact ih j m'' a' w' (by omega) h3
      | exit id => exact ⟨m', s', h1, h2⟩
      | goto l => exact ⟨m', s', h1, h2⟩
      | ret => exact ⟨m', s', h1, h2⟩
      | panic ch => exact ⟨m', s', h1, h2⟩
      | outgrown => exact ⟨m', s', h1, h2⟩
  obtain ⟨m', hs'⟩ := h0 we m0 ls0 O0 m a w hs
  exact wp_loop_rounds (μ i0 + 1) (key _ i0 m' a w (Nat.lt_succ_self _) hs')

end

/-! ### Contracts -/

/-- A call that makes memory of its own at most, and hands back r. -/
def Enters (P : Program) (f : FuncId) : Prop := ∀ (args : Array Value) (w : World), (callFunc f args).run P w = .ok (.enter f args) w

theorem enters_mk {P : Program} {f : FuncId} {fn : Func} {c : Code} (hf : P.funcs[f]? = some fn) (hn : (fn.name == "runtime.NumGoroutine") = false) (hb : fn.body = some c) : Enters P f := by
  intro args w
  simp [callFunc, hf, hb]
  simpa using hn

def Pure (P : Program) (f : FuncId) (As : List A) (r : A) : Prop := Enters P f ∧
  ∀ (O : Nat → Prop) (w : World) (vs : List Value), (∀ b, O b → b < w.heap.size) → relL w O ⟨[], []⟩ [] As vs →
    Calls P f vs.toArray w fun e w' => ∃ v, e = .returned v ∧ Below w.heap.size w w' ∧ rel w' O ⟨[], []⟩ [] r v

/-- A call that may turn the objects of a store that it is handed. -/
def ACall (P : Program) (f : FuncId) (bx : List (List A)) (rw : List (Nat × List (List A))) (As : List A) (R : A → List (List A) → List (Nat × List (List A)) → Prop) : Prop := Enters P f ∧
  ∀ (O0 : Nat → Prop) (w : World) (m : M) (vs : List Value), Store w O0 m bx rw → relL w (Ow O0 m) m (lens rw) As vs →
    Calls P f vs.toArray w fun e w' => ∃ v m' r bx' rw', e = .returned v ∧ Era w m (lens rw) w' m' (lens rw') ∧ Store w' O0 m' bx' rw' ∧
      rel w' (Ow O0 m') m' (lens rw') r v ∧ R r bx' rw'

/-- What the function hands back at this state. -/
def Res (P : Program) (fn : Func) (s : St) (r : A) : Prop :=
  ∀ we m0 ls0 O0 m a w, Sim we m0 ls0 O0 m s a w → ∃ v, (results fn a.tmps).run P w = .ok v w ∧ rel w (Ow O0 m) m (lens s.rw) r v

def atEnd (P : Program) (fn : Func) (R : A → List (List A) → List (Nat × List (List A)) → Prop) : Exit → St → Prop
  | .ret, s => ∃ r, Res P fn s r ∧ R r s.bx s.rw
  | .normal, s => ∃ r, Res P fn s r ∧ R r s.bx s.rw
  | _, _ => False

theorem relL_append {w : World} {O : Nat → Prop} {m : M} {ls : List Nat} : ∀ {cs : List A} {vs : List Value} {ds : List A} {us : List Value}, relL w O m ls cs vs → relL w O m ls ds us → relL w O m ls (cs ++ ds) (vs ++ us)
  | [], vs, ds, us, h, k => by simp only [relL] at h; simpa [h] using k
  | c :: cs, vs, ds, us, h, k => by
    simp only [relL] at h
    obtain ⟨v, r, rfl, h2, h3⟩ := h
    simp only [List.cons_append, relL]
    exact ⟨v, r ++ us, rfl, h2, relL_append h3 k⟩

theorem relL_replicate {w : World} {O : Nat → Prop} {m : M} {ls : List Nat} (v : Value) : ∀ n, relL w O m ls (List.replicate n (.val v)) (List.replicate n v)
  | 0 => by simp [relL]
  | n + 1 => by
    simp only [List.replicate_succ, relL, rel]
    exact ⟨v, _, rfl, rfl, relL_replicate v n⟩

def frame0 (n : Nat) (As : List A) : List A := As ++ List.replicate (n - As.length) (.val undef)

theorem ACall.of_awp {P : Program} {f : FuncId} {fn : Func} {c : Code} {bx : List (List A)} {rw : List (Nat × List (List A))} {As : List A} {R : A → List (List A) → List (Nat × List (List A)) → Prop}
    (hf : P.funcs[f]? = some fn) (hnm : (fn.name == "runtime.NumGoroutine") = false) (hb : fn.body = some c) (h : AWP P c (atEnd P fn R) ⟨frame0 fn.ntmps As, bx, rw, rw.length, bx.length⟩) : ACall P f bx rw As R := by
  refine ⟨enters_mk hf hnm hb, ?_⟩
  intro O0 w m vs hst hrel
  refine calls_of_wp hf hb ?_
  have hl := relL_length hrel
  have hs : Sim w m (lens rw) O0 m ⟨frame0 fn.ntmps As, bx, rw, rw.length, bx.length⟩ { tmps := vs.toArray ++ Array.replicate (fn.ntmps - vs.toArray.size) undef, defers := [] } w := by
    refine ⟨rfl, by simp [lens], by rw [hst.bxl]; exact Nat.le_refl _, Era.refl _ _ _, hst, ?_⟩
    simp only [frame0, Array.toList_append, Array.toList_replicate]
    have e : vs.toArray.size = As.length := by simpa using hl
    rw [e]
    exact relL_append hrel (relL_replicate _ _)
  refine wp_mono (h _ _ _ _ _ _ _ hs) ?_
  rintro e a' w' ⟨m', s', h1, h2⟩
  cases e with
  | ret =>
    obtain ⟨r, h3, h4⟩ := h1
    obtain ⟨v, h5, h6⟩ := h3 _ _ _ _ _ _ _ h2
    exact ⟨h2.defers, v, h5, v, m', r, s'.bx, s'.rw, rfl, h2.era, h2.store, h6, h4⟩
  | normal =>
    obtain ⟨r, h3, h4⟩ := h1
    obtain ⟨v, h5, h6⟩ := h3 _ _ _ _ _ _ _ h2
    exact ⟨h2.defers, v, h5, v, m', r, s'.bx, s'.rw, rfl, h2.era, h2.store, h6, h4⟩
  | exit id => exact h1.elim
  | goto l => exact h1.elim
  | panic ch => exact h1.elim
  | outgrown => exact h1.elim

/-! ### Values without objects -/

mutual
def noIds : A → Bool
  | .top => true
  | .val _ => true
  | .emp => true
  | .sl _ xs => noIdsLL xs
  | .agg cs => noIdsL cs
  | .elt cs _ => noIdsL cs
  | .fn _ caps => noIdsL caps
  | .tup cs => noIdsL cs
  | .ptr _ _ => false
  | .row _ _ => false
  | .rptr _ _ _ _ _ => false
def noIdsL : List A → Bool
  | [] => true
  | c :: cs => noIds c && noIdsL cs
def noIdsLL : List (List A) → Bool
  | [] => true
  | x :: xs => noIdsL x && noIdsLL xs
end

/-- The worlds' part of 'Mono', for values without objects. -/
structure MonoW (w : World) (O : Nat → Prop) (w' : World) (O' : Nat → Prop) : Prop where
  size : w.heap.size ≤ w'.heap.size
  keep : ∀ b : Nat, b < w.heap.size → ¬ O b → w'.heap[b]? = w.heap[b]?
  own : ∀ b : Nat, b < w.heap.size → ¬ O b → ¬ O' b

theorem MonoW.cell {w w' : World} {O O' : Nat → Prop} (h : MonoW w O w' O') {b off : Nat} (hb : b < w.heap.size) (hO : ¬ O b) : w'.cell? ⟨b, off, none⟩ = w.cell? ⟨b, off, none⟩ := by
  unfold World.cell?
  simp only [h.keep b hb hO]

section
variable {w : World} {O : Nat → Prop} {m : M} {ls : List Nat} {w' : World} {O' : Nat → Prop} {m' : M} {ls' : List Nat}
mutual
theorem rel_shut (h : MonoW w O w' O') : ∀ (a : A) (v : Value), noIds a = true → rel w O m ls a v → rel w' O' m' ls' a v
  | .top, _, _, _ => by simp [rel]
  | .val x, v, _, hr => by simpa [rel] using hr
  | .emp, v, _, hr => by simpa [rel] using hr
  | .sl k xs, v, hn, hr => by
    simp only [rel] at hr ⊢
    obtain ⟨a, cap, h1, h2, h3, h4⟩ := hr
    refine ⟨a, cap, h1, h2, h3, ?_⟩
    rcases h4 with h4 | ⟨b, off, h5, h6, h7, h8⟩
    · exact Or.inl h4
    · exact Or.inr ⟨b, off, h5, Nat.lt_of_lt_of_le h6 h.size, h.own b h6 h7, relRows_shut h k b off xs (by simpa [noIds] using hn) h6 h7 h8⟩
  | .agg cs, v, hn, hr => by
    simp only [rel] at hr ⊢
    obtain ⟨vs, h1, h2⟩ := hr
    exact ⟨vs, h1, relL_shut h cs vs (by simpa [noIds] using hn) h2⟩
  | .elt cs off, v, hn, hr => by
    simp only [rel] at hr ⊢
    obtain ⟨b, o, h1, h2, h3, h4⟩ := hr
    exact ⟨b, o, h1, Nat.lt_of_lt_of_le h2 h.size, h.own b h2 h3, relCells_shut h b o cs (by simpa [noIds] using hn) h2 h3 h4⟩
  | .fn f caps, v, hn, hr => by
    simp only [rel] at hr ⊢
    obtain ⟨vs, h1, h2⟩ := hr
    exact ⟨vs, h1, relL_shut h caps vs (by simpa [noIds] using hn) h2⟩
  | .tup cs, v, hn, hr => by
    simp only [rel] at hr ⊢
    obtain ⟨vs, h1, h2⟩ := hr
    exact ⟨vs, h1, relL_shut h cs vs (by simpa [noIds] using hn) h2⟩
  | .ptr id off, v, hn, _ => by simp [noIds] at hn
  | .row id n, v, hn, _ => by simp [noIds] at hn
  | .rptr id n k i j, v, hn, _ => by simp [noIds] at hn
theorem relL_shut (h : MonoW w O w' O') : ∀ (cs : List A) (vs : List Value), noIdsL cs = true → relL w O m ls cs vs → relL w' O' m' ls' cs vs
  | [], vs, _, hr => by simpa [relL] using hr
  | c :: cs, vs, hn, hr => by
    simp only [relL] at hr ⊢
    simp only [noIdsL, Bool.and_eq_true] at hn
    obtain ⟨v, r, h1, h2, h3⟩ := hr
    exact ⟨v, r, h1, rel_shut h c v hn.1 h2, relL_shut h cs r hn.2 h3⟩
theorem relCells_shut (h : MonoW w O w' O') (b off : Nat) : ∀ (cs : List A), noIdsL cs = true → b < w.heap.size → ¬ O b → relCells w O m ls b off cs → relCells w' O' m' ls' b off cs
  | [], _, _, _, _ => by simp [relCells]
  | c :: cs, hn, hb, hO, hr => by
    simp only [relCells] at hr ⊢
    simp only [noIdsL, Bool.and_eq_true] at hn
    obtain ⟨⟨v, h1, h2⟩, h3⟩ := hr
    exact ⟨⟨v, by rw [h.cell hb hO]; exact h1, rel_shut h c v hn.1 h2⟩, relCells_shut h b (off + 1) cs hn.2 hb hO h3⟩
theorem relRows_shut (h : MonoW w O w' O') (k b off : Nat) : ∀ (xs : List (List A)), noIdsLL xs = true → b < w.heap.size → ¬ O b → relRows w O m ls k b off xs → relRows w' O' m' ls' k b off xs
  | [], _, _, _, _ => by simp [relRows]
  | x :: xs, hn, hb, hO, hr => by
    simp only [relRows] at hr ⊢
    simp only [noIdsLL, Bool.and_eq_true] at hn
    obtain ⟨h1, h2, h3⟩ := hr
    exact ⟨h1, relCells_shut h b off x hn.1 hb hO h2, relRows_shut h k b (off + k) xs hn.2 hb hO h3⟩
end
end

end Go.Proofs.Ytgedhnhgkmhgcaa.Abs
