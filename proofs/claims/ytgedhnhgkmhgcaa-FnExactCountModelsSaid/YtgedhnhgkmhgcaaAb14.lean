/- LOOPS OVER ABSTRACT STATES: what the round writes is forgotten, but for what is said of it; objects made in a round are given up at its end. -/
import Derived.Test.YtgedhnhgkmhgcaaAb13
namespace Go.Proofs.Ytgedhnhgkmhgcaa.Abs
open Go Go.RowKit

/-! ### Steps of a walk -/
section
variable {P : Program} {D : Nat → Option TI} {Q : Exit → St → Prop} {K : St → Prop} {s : St}
theorem AWP.regionK (hD : TyOk P D) {id : Nat} {l : List Oper} (h : ∀ K : St → Prop, (∀ s, Q .normal s → K s) → slex P D l.toArray K l s) : AWP P (.region id l.toArray false) Q s :=
  AWP.regionV hD (h _ fun _ h => h)
theorem AWP.drawK (hD : TyOk P D) {id : Nat} {l : List Oper} (hm : P.follows .mixedOrders = true) (hB : Region.lexB .any l.toArray = true)
    (h : ∀ K : List A → Prop, (∀ fr, Q .normal ⟨fr, s.bx, s.rw, s.nb, s.nx⟩ → K fr) → dlex P D l.toArray s.bx s.rw K l s.fr) : AWP P (.region id l.toArray true) Q s :=
  AWP.drawV hD hm hB (h _ fun _ h => h)
def guardS (want : Bool) (a : A) (y n u : Prop) : Prop :=
  match a with
  | .val (.bool b) => (b = want → y) ∧ (b = (!want) → n)
  | .val (.tuple _) => u
  | _ => False
theorem slex_nil {ops : Array Oper} (h : K s) : slex P D ops K [] s := h
theorem slex_step {ops : Array Oper} {rest : List Oper} {dst : Option Tmp} {op : Op} {t : TypeId} {pos : String} {af : Array Edge}
    (h : ∀ K' : St → Prop, (∀ s, slex P D ops K rest s → K' s) → sval P D op dst s K') : slex P D ops K (⟨dst, op, t, pos, af, none⟩ :: rest) s := by
  have := h _ (fun _ h => h)
  obtain ⟨fr, bx, rw, nb, nx⟩ := s
  simp only [slex, guardV]; exact this
theorem slex_guard {ops : Array Oper} {rest : List Oper} {dst : Option Tmp} {op : Op} {t : TypeId} {pos : String} {af : Array Edge} {j : Nat} {want : Bool} {d : Nat} {a : A} {fr : List A} {bx : List (List A)} {rw : List (Nat × List (List A))} {nb nx : Nat}
    (hd : (ops[j]?).bind (·.dst) = some d) (ha : fr.getD d .top = a)
    (h : ∀ (Y : List A → Prop) (N : St → Prop), (∀ fr, slex P D ops K (⟨dst, op, t, pos, af, none⟩ :: rest) ⟨fr, bx, rw, nb, nx⟩ → Y fr) → (∀ s, slex P D ops K rest s → N s) →
      guardS want a (Y (fr.set d (.val (.bool want)))) (N ⟨putA (fr.set d (.val (.bool (!want)))) dst (.val undef), bx, rw, nb, nx⟩) (N ⟨putA fr dst (.val undef), bx, rw, nb, nx⟩)) : slex P D ops K (⟨dst, op, t, pos, af, some (j, want)⟩ :: rest) ⟨fr, bx, rw, nb, nx⟩ := by
  have h1 := h (fun fr => slex P D ops K (⟨dst, op, t, pos, af, none⟩ :: rest) ⟨fr, bx, rw, nb, nx⟩) (fun s => slex P D ops K rest s) (fun _ h => h) (fun _ h => h)
  subst ha
  simp only [slex, guardV] at h1 ⊢
  simp only [hd]
  rw [List.getD_eq_getElem?_getD] at h1
  cases hf : fr[d]? with
  | none => simp [hf, guardS] at h1
  | some c =>
    simp only [hf, Option.getD_some, guardS] at h1 ⊢
    cases c with
    | val v => cases v <;> first | exact h1 | exact (show False from h1).elim
    | _ => exact (show False from h1).elim
theorem dlex_nil {ops : Array Oper} {bx : List (List A)} {rw : List (Nat × List (List A))} {K : List A → Prop} {fr : List A} (h : K fr) : dlex P D ops bx rw K [] fr := h
theorem dlex_step {ops : Array Oper} {bx : List (List A)} {rw : List (Nat × List (List A))} {K : List A → Prop} {fr : List A} {rest : List Oper} {dst : Option Tmp} {op : Op} {t : TypeId} {pos : String} {af : Array Edge}
    (h : ∀ K' : List A → Prop, (∀ fr, dlex P D ops bx rw K rest fr → K' fr) → qval P D bx rw op (St.ev fr) fun r => K' (putA fr dst r)) : dlex P D ops bx rw K (⟨dst, op, t, pos, af, none⟩ :: rest) fr := by
  have := h _ (fun _ h => h)
  simp only [dlex, guardV]; exact this
theorem dlex_guard {ops : Array Oper} {bx : List (List A)} {rw : List (Nat × List (List A))} {K : List A → Prop} {fr : List A} {rest : List Oper} {dst : Option Tmp} {op : Op} {t : TypeId} {pos : String} {af : Array Edge} {j : Nat} {want : Bool} {d : Nat} {a : A}
    (hd : (ops[j]?).bind (·.dst) = some d) (ha : fr.getD d .top = a)
    (h : ∀ (Y : List A → Prop) (N : List A → Prop), (∀ fr, dlex P D ops bx rw K (⟨dst, op, t, pos, af, none⟩ :: rest) fr → Y fr) → (∀ fr, dlex P D ops bx rw K rest fr → N fr) →
      guardS want a (Y (fr.set d (.val (.bool want)))) (N (putA (fr.set d (.val (.bool (!want)))) dst (.val undef))) (N (putA fr dst (.val undef)))) : dlex P D ops bx rw K (⟨dst, op, t, pos, af, some (j, want)⟩ :: rest) fr := by
  have h1 := h (fun fr => dlex P D ops bx rw K (⟨dst, op, t, pos, af, none⟩ :: rest) fr) (fun fr => dlex P D ops bx rw K rest fr) (fun _ h => h) (fun _ h => h)
  subst ha
  simp only [dlex, guardV] at h1 ⊢
  simp only [hd]
  rw [List.getD_eq_getElem?_getD] at h1
  cases hf : fr[d]? with
  | none => simp [hf, guardS] at h1
  | some c =>
    simp only [hf, Option.getD_some, guardS] at h1 ⊢
    cases c with
    | val v => cases v <;> first | exact h1 | exact (show False from h1).elim
    | _ => exact (show False from h1).elim
theorem regionD {Q : Exit → St → Prop} (hD : TyOk P D) {id : Nat} {l : List Oper} (hm : P.follows .mixedOrders = true) (hB : Region.lexB .any l.toArray = true)
    (h : dlex P D l.toArray s.bx s.rw (fun fr => Q .normal ⟨fr, s.bx, s.rw, s.nb, s.nx⟩) l s.fr) : AWP P (.region id l.toArray true) Q s := AWP.drawV hD hm hB h
theorem andThen_n (h : K s) : andThen K Q .normal s := h
theorem andThen_e {id : Nat} (h : Q (.exit id) s) : andThen K Q (.exit id) s := h
theorem andThen_r (h : Q .ret s) : andThen K Q .ret s := h
theorem inBlk_n {id : Nat} (h : Q .normal s) : inBlk id Q .normal s := h
theorem inBlk_r {id : Nat} (h : Q .ret s) : inBlk id Q .ret s := h
theorem inBlk_x {id : Nat} (h : Q .normal s) : inBlk id Q (.exit id) s := by simp only [inBlk, if_true]; exact h
theorem inBlk_e {id id' : Nat} (hne : Nat.beq id' id = false) (h : Q (.exit id') s) : inBlk id Q (.exit id') s := by
  have : id' ≠ id := Nat.ne_of_beq_eq_false hne
  simp only [inBlk, if_neg this]; exact h
end

/-! ### Forgetting -/
def SubL : List A → List A → Prop
  | [], [] => True
  | a :: as, b :: bs => (b = .top ∨ a = b) ∧ SubL as bs
  | _, _ => False

def in1 (n r : Nat) : A → Bool
  | .ptr id _ => decide (id < n)
  | .row id _ => decide (id < r)
  | .rptr id _ _ _ _ => decide (id < r)
  | a => noIds a

/-- A value that names only the first n variables and the first r rows. -/
def inA (n r : Nat) : A → Bool
  | .agg cs => cs.all (in1 n r)
  | .tup cs => cs.all (in1 n r)
  | .fn _ cs => cs.all (in1 n r)
  | a => in1 n r a

section
variable {w : World} {O O' : Nat → Prop} {m m' : M} {ls ls' : List Nat} {n r : Nat}

structure Cut (w : World) (O O' : Nat → Prop) (m m' : M) (ls ls' : List Nat) (n r : Nat) : Prop where
  own : ∀ b, ¬ O b → ¬ O' b
  bx : ∀ id b : Nat, id < n → m.bx[id]? = some b → m'.bx[id]? = some b
  rw : ∀ id : Nat, id < r → ls'[id]? = ls[id]? ∧ m'.rw[id]? = m.rw[id]?

theorem Cut.monoW (h : Cut w O O' m m' ls ls' n r) : MonoW w O w O' := ⟨Nat.le_refl _, fun _ _ _ => rfl, fun b _ hn => h.own b hn⟩

theorem rel_in1 (h : Cut w O O' m m' ls ls' n r) {a : A} {v : Value} (hr : rel w O m ls a v) (hi : in1 n r a = true) : rel w O' m' ls' a v := by
  cases a with
  | ptr id off =>
    simp only [in1, decide_eq_true_eq] at hi
    simp only [rel] at hr ⊢
    obtain ⟨b, h1, h2⟩ := hr
    exact ⟨b, h.bx id b hi h1, h2⟩
  | row id k =>
    simp only [in1, decide_eq_true_eq] at hi
    simp only [rel] at hr ⊢
    rw [(h.rw id hi).1, (h.rw id hi).2]
    exact hr
  | rptr id k a i j =>
    simp only [in1, decide_eq_true_eq] at hi
    simp only [rel] at hr ⊢
    rw [(h.rw id hi).1, (h.rw id hi).2]
    exact hr
  | _ => exact rel_shut h.monoW _ _ hi hr

theorem relL_in1 (h : Cut w O O' m m' ls ls' n r) : ∀ {cs : List A} {vs : List Value}, relL w O m ls cs vs → cs.all (in1 n r) = true → relL w O' m' ls' cs vs
  | [], _, hr, _ => by simpa [relL] using hr
  | c :: cs, vs, hr, hi => by
    simp only [relL, List.all_cons, Bool.and_eq_true] at hr hi ⊢
    obtain ⟨v, t, rfl, h1, h2⟩ := hr
    exact ⟨v, t, rfl, rel_in1 h h1 hi.1, relL_in1 h h2 hi.2⟩

theorem rel_inA (h : Cut w O O' m m' ls ls' n r) {a : A} {v : Value} (hr : rel w O m ls a v) (hi : inA n r a = true) : rel w O' m' ls' a v := by
  cases a with
  | agg cs => simp only [rel, inA] at hr hi ⊢; obtain ⟨vs, h1, h2⟩ := hr; exact ⟨vs, h1, relL_in1 h h2 hi⟩
  | tup cs => simp only [rel, inA] at hr hi ⊢; obtain ⟨vs, h1, h2⟩ := hr; exact ⟨vs, h1, relL_in1 h h2 hi⟩
  | fn f cs => simp only [rel, inA] at hr hi ⊢; obtain ⟨vs, h1, h2⟩ := hr; exact ⟨vs, h1, relL_in1 h h2 hi⟩
  | _ => exact rel_in1 h hr hi

theorem relL_inA (h : Cut w O O' m m' ls ls' n r) : ∀ {cs : List A} {vs : List Value}, relL w O m ls cs vs → cs.all (inA n r) = true → relL w O' m' ls' cs vs
  | [], _, hr, _ => by simpa [relL] using hr
  | c :: cs, vs, hr, hi => by
    simp only [relL, List.all_cons, Bool.and_eq_true] at hr hi ⊢
    obtain ⟨v, t, rfl, h1, h2⟩ := hr
    exact ⟨v, t, rfl, rel_inA h h1 hi.1, relL_inA h h2 hi.2⟩

theorem relL_sub : ∀ {as bs : List A} {vs : List Value}, relL w O m ls as vs → SubL as bs → relL w O m ls bs vs
  | [], [], _, h, _ => h
  | a :: as, b :: bs, vs, h, hs => by
    simp only [relL, SubL] at h hs ⊢
    obtain ⟨v, t, rfl, h1, h2⟩ := h
    refine ⟨v, t, rfl, ?_, relL_sub h2 hs.2⟩
    rcases hs.1 with rfl | rfl
    · simp [rel]
    · exact h1
  | [], _ :: _, _, _, hs => hs.elim
  | _ :: _, [], _, _, hs => hs.elim
end

/-- Slots are forgotten; variables and rows behind the first n and r are given up. -/
theorem Le.drop {s s' : St} (n r : Nat) (hn : s'.bx = s.bx.take n) (hr : s'.rw = s.rw.take r) (hnx : s.nx ≤ n) (hnb : s.nb ≤ r) (h1 : s'.nx = s.nx) (h2 : s'.nb = s.nb) (hf : SubL s.fr s'.fr)
    (hin : s'.fr.all (inA n r) = true) (hbx : s'.bx.all (fun cs => cs.all (inA n r)) = true) (hrw : s'.rw.all (fun q => q.2.flatten.all (inA n r)) = true) : Le s s' := by
  intro we m0 ls0 O0 m a w hs
  obtain ⟨fr', bx', rw', nb', nx'⟩ := s'
  simp only at hn hr h1 h2 hf hin hbx hrw
  subst hn hr h1 h2
  let m' : M := ⟨m.bx.take n, m.rw.take r⟩
  have hlens : lens (s.rw.take r) = (lens s.rw).take r := by simp [lens, List.map_take]
  have hsub : ∀ b, b ∈ m'.blocks → b ∈ m.blocks := by
    intro b hb
    simp only [M.blocks, List.mem_append, List.mem_filterMap, m'] at hb ⊢
    rcases hb with hb | ⟨x, hx, h⟩
    · exact Or.inl (List.mem_of_mem_take hb)
    · exact Or.inr ⟨x, List.mem_of_mem_take hx, h⟩
  have hcut : Cut w (Ow O0 m) (Ow O0 m') m m' (lens s.rw) (lens (s.rw.take r)) n r := by
    refine ⟨fun b hb ho => ?_, fun id b hid h => ?_, fun id hid => ⟨?_, ?_⟩⟩
    · rcases ho with ho | ho
      · exact hb (Or.inl ho)
      · exact hb (Or.inr (hsub b ho))
    · show (m.bx.take n)[id]? = some b
      rw [List.getElem?_take, if_pos hid]; exact h
    · rw [hlens, List.getElem?_take, if_pos hid]
    · show (m.rw.take r)[id]? = m.rw[id]?
      rw [List.getElem?_take, if_pos hid]
  refine ⟨m', hs.defers, hs.nb, hs.nx, ?_, ?_, ?_⟩
  · refine ⟨hs.era.os, hs.era.tape, hs.era.output, hs.era.size, hs.era.keep, fun b hb => hs.era.new b (hsub b hb), fun id b h => ?_, fun id l h => ?_⟩
    · have h1 := hs.era.bx id b h
      have h2 := (List.getElem?_eq_some_iff.1 h).1
      have h3 := hs.nx
      exact hcut.bx id b (by omega) h1
    · obtain ⟨l', g1, g2, g3⟩ := hs.era.rw id l h
      have h2 := (List.getElem?_eq_some_iff.1 h).1
      have h3 := hs.nb
      have h4 := hcut.rw id (by omega)
      exact ⟨l', by rw [h4.1]; exact g1, g2, fun e => by rw [h4.2]; exact g3 e⟩
  · refine ⟨by simp [m', hs.store.bxl], by simp [m', hs.store.rwl], ?_, fun b hb => hs.store.blk b (hsub b hb), hs.store.old, fun id b cs h3 h4 => ?_, fun id h k xs h3 h4 => ?_⟩
    · have hnd := hs.store.nd
      have hsl : m'.blocks.Sublist m.blocks := by
        simp only [M.blocks, m']
        exact (List.take_sublist _ _).append ((List.take_sublist _ _).filterMap _)
      exact hsl.nodup hnd
    · have hid : id < n := by
        have := (List.getElem?_eq_some_iff.1 h4).1
        simp at this; omega
      have h3' : m.bx[id]? = some b := by
        have : (m.bx.take n)[id]? = some b := h3
        rwa [List.getElem?_take, if_pos hid] at this
      have h4' : s.bx[id]? = some cs := by rwa [List.getElem?_take, if_pos hid] at h4
      obtain ⟨c, T, g1, g2⟩ := hs.store.box id b cs h3' h4'
      exact ⟨c, T, g1, relL_inA hcut g2 (List.all_eq_true.1 hbx cs (List.mem_of_getElem? h4))⟩
    · have hid : id < r := by
        have := (List.getElem?_eq_some_iff.1 h4).1
        simp at this; omega
      have h3' : m.rw[id]? = some h := by
        have : (m.rw.take r)[id]? = some h := h3
        rwa [List.getElem?_take, if_pos hid] at this
      have h4' : s.rw[id]? = some (k, xs) := by rwa [List.getElem?_take, if_pos hid] at h4
      have hrow := hs.store.row id h k xs h3' h4'
      cases h with
      | none => exact hrow
      | some bc =>
        obtain ⟨q1, q2, q3, c, T, q4, q5, q6⟩ := hrow
        exact ⟨q1, q2, q3, c, T, q4, q5, relL_inA hcut q6 (List.all_eq_true.1 hrw _ (List.mem_of_getElem? h4))⟩
  · exact relL_inA hcut (relL_sub hs.fr hf) hin

theorem Le.drop2 {s s' : St} (hn : s'.bx = s.bx.take s'.bx.length) (hr : s'.rw = s.rw.take s'.rw.length) (hnx : s.nx ≤ s'.bx.length) (hnb : s.nb ≤ s'.rw.length) (h1 : s'.nx = s.nx) (h2 : s'.nb = s.nb) (hf : SubL s.fr s'.fr)
    (hin : s'.fr.all (inA s'.bx.length s'.rw.length) = true) (hbx : s'.bx.all (fun cs => cs.all (inA s'.bx.length s'.rw.length)) = true) (hrw : s'.rw.all (fun q => q.2.flatten.all (inA s'.bx.length s'.rw.length)) = true) : Le s s' :=
  Le.drop _ _ hn hr hnx hnb h1 h2 hf hin hbx hrw

/-! ### What a round writes -/
def dstsOps : List Oper → List Nat
  | [] => []
  | o :: os => (match o.dst with | some d => d :: dstsOps os | none => dstsOps os)

def dsts : Code → List Nat
  | .region _ ops _ => dstsOps ops.toList
  | .seq a b => dsts a ++ dsts b
  | .cond _ a b => dsts a ++ dsts b
  | .block _ a => dsts a
  | .loop a => dsts a
  | .scope a => dsts a
  | _ => []

def topAll : List Nat → List A → List A
  | [], fr => fr
  | d :: ds, fr => topAll ds (fr.set d .top)

def upd : List (Nat × A) → List A → List A
  | [], fr => fr
  | (d, a) :: l, fr => upd l (fr.set d a)

section
variable {P : Program} {Q : Exit → St → Prop} {s : St}

/-- A loop: the slots that the round writes are forgotten but for those named. -/
theorem AWP.loopU {ι : Type} {c : Code} (l : ι → List (Nat × A)) (μ : ι → Nat) (i0 : ι) (h0 : Le s ⟨upd (l i0) (topAll (dsts c) s.fr), s.bx, s.rw, s.nb, s.nx⟩)
    (round : ∀ i, AWP P c (andThen (fun s' => ∃ j, μ j < μ i ∧ Le s' ⟨upd (l j) (topAll (dsts c) s.fr), s.bx, s.rw, s.nb, s.nx⟩) Q) ⟨upd (l i) (topAll (dsts c) s.fr), s.bx, s.rw, s.nb, s.nx⟩) : AWP P (.loop c) Q s :=
  AWP.loop (fun i => ⟨upd (l i) (topAll (dsts c) s.fr), s.bx, s.rw, s.nb, s.nx⟩) μ i0 h0 round

/-- The same, where the round turns the store. -/
theorem AWP.loopS {ι : Type} {c : Code} (l : ι → List (Nat × A)) (bx : ι → List (List A)) (rw : ι → List (Nat × List (List A))) (μ : ι → Nat) (i0 : ι)
    (h0 : Le s ⟨upd (l i0) (topAll (dsts c) s.fr), bx i0, rw i0, s.nb, s.nx⟩)
    (round : ∀ i, AWP P c (andThen (fun s' => ∃ j, μ j < μ i ∧ Le s' ⟨upd (l j) (topAll (dsts c) s.fr), bx j, rw j, s.nb, s.nx⟩) Q) ⟨upd (l i) (topAll (dsts c) s.fr), bx i, rw i, s.nb, s.nx⟩) : AWP P (.loop c) Q s :=
  AWP.loop (fun i => ⟨upd (l i) (topAll (dsts c) s.fr), bx i, rw i, s.nb, s.nx⟩) μ i0 h0 round
end
end Go.Proofs.Ytgedhnhgkmhgcaa.Abs
