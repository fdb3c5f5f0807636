/- CALLS, STRUCTS AND SLICES THAT ARE WRITTEN OUT; a function's contract out of its walk. -/
import Derived.Test.YtgedhnhgkmhgcaaAb5
namespace Go.Proofs.Ytgedhnhgkmhgcaa.Abs
open Go Go.RowKit

/-! ### Giving the objects up: what they hold is read off -/
def shut1 (bx : List (List A)) (rw : List (Nat × List (List A))) : A → A
  | .ptr id off => match bx[id]? with | some cs => .elt cs off | none => .top
  | .row id n => match rw[id]? with | some (k, xs) => if xs.length = n then .sl k xs else .top | none => .top
  | a => a

def shutT (bx : List (List A)) (rw : List (Nat × List (List A))) : A → A
  | .agg ds => .agg (ds.map (shut1 bx rw))
  | c => shut1 bx rw c

def shutA (bx : List (List A)) (rw : List (Nat × List (List A))) : A → A
  | .fn f caps => .fn f (caps.map (shut1 bx rw))
  | .agg cs => .agg (cs.map (shut1 bx rw))
  | .tup cs => .tup (cs.map (shutT bx rw))
  | a => shut1 bx rw a

section
variable {w : World} {O0 : Nat → Prop} {m : M} {bx : List (List A)} {rw : List (Nat × List (List A))}

theorem monoW_own (w : World) (O0 : Nat → Prop) (m : M) : MonoW w (Ow O0 m) w O0 := ⟨Nat.le_refl _, fun _ _ _ => rfl, fun _ _ hn ho => hn (Or.inl ho)⟩
theorem monoW_refl (w : World) (O : Nat → Prop) : MonoW w O w O := ⟨Nat.le_refl _, fun _ _ _ => rfl, fun _ _ hn => hn⟩

theorem noIdsL_append : ∀ {xs ys : List A}, noIdsL xs = true → noIdsL ys = true → noIdsL (xs ++ ys) = true
  | [], _, _, h => by simpa using h
  | x :: xs, ys, h, h' => by
    simp only [noIdsL, Bool.and_eq_true, List.cons_append] at h ⊢
    exact ⟨h.1, noIdsL_append h.2 h'⟩

theorem noIds_flatten : ∀ {xs : List (List A)}, noIdsLL xs = true → noIdsL xs.flatten = true
  | [], _ => by simp [noIdsL]
  | x :: xs, h => by
    simp only [noIdsLL, Bool.and_eq_true, List.flatten_cons] at h ⊢
    exact noIdsL_append h.1 (noIds_flatten h.2)

theorem rel_shut1 (hs : Store w O0 m bx rw) {a : A} {v : Value} (h : rel w (Ow O0 m) m (lens rw) a v) (hn : noIds (shut1 bx rw a) = true) {m' : M} {ls' : List Nat} : rel w O0 m' ls' (shut1 bx rw a) v := by
  cases a with
  | ptr id off =>
    simp only [rel] at h
    obtain ⟨b, h1, rfl⟩ := h
    simp only [shut1] at hn ⊢
    cases hb : bx[id]? with
    | none => simp [rel]
    | some cs =>
      simp only [hb, noIds] at hn ⊢
      obtain ⟨c, T, h3, h4⟩ := hs.box id b cs h1 hb
      have hblk := hs.blk b (mem_blocks_bx h1)
      simp only [rel]
      refine ⟨b, 0, by simp, hblk.1, hblk.2, ?_⟩
      have h5 := relL_shut (m' := m') (ls' := ls') (monoW_own w O0 m) _ _ hn h4
      exact cells_of_reads h5 (Reads.block h3)
  | row id n =>
    simp only [rel] at h
    obtain ⟨l, h1, h2, _, h3⟩ := h
    simp only [shut1] at hn ⊢
    cases hb : rw[id]? with
    | none => simp [rel]
    | some q =>
      obtain ⟨k, xs⟩ := q
      simp only [hb] at hn ⊢
      by_cases hl : xs.length = n
      · simp only [hl, if_true, noIds] at hn ⊢
        have hll : n = l := by
          simp only [lens, List.getElem?_map, hb, Option.map_some, Option.some.injEq] at h1
          omega
        obtain ⟨hd, h4, h5⟩ := h3 hll
        have hrow := hs.row id hd k xs h4 hb
        cases hd with
        | none =>
          simp only [rowOk] at hrow
          simp only [hdr] at h5
          obtain ⟨a, rfl⟩ := h5
          subst hrow
          simp only [rel]
          exact ⟨a, 0, by simp at hl; simp [hl], by simp, by omega, Or.inl trivial⟩
        | some bc =>
          obtain ⟨b, cap⟩ := bc
          obtain ⟨g1, g2, g3, c, T, g4, g5, g6⟩ := hrow
          simp only [hdr] at h5
          have hblk := hs.blk b (mem_blocks_rw h4)
          simp only [rel]
          refine ⟨some ⟨b, 0, none⟩, cap, by rw [hl]; exact h5, g1, g2, Or.inr ⟨b, 0, rfl, hblk.1, hblk.2, ?_⟩⟩
          have h6 := relL_shut (m' := m') (ls' := ls') (monoW_own w O0 m) _ _ (noIds_flatten hn) g6
          exact rows_of_flat (off := 0) g3 h6 ((Reads.block g4).take _)
      · simp only [hl, if_false] at hn ⊢
        simp [rel]
  | _ =>
    simp only [shut1] at hn ⊢
    exact rel_shut (monoW_own w O0 m) _ _ hn h

theorem relL_shut1 (hs : Store w O0 m bx rw) {m' : M} {ls' : List Nat} : ∀ {cs : List A} {vs : List Value}, relL w (Ow O0 m) m (lens rw) cs vs → noIdsL (cs.map (shut1 bx rw)) = true → relL w O0 m' ls' (cs.map (shut1 bx rw)) vs
  | [], _, h, _ => by simpa [relL] using h
  | c :: cs, vs, h, hn => by
    simp only [relL, List.map_cons, noIdsL, Bool.and_eq_true] at h hn ⊢
    obtain ⟨v, r, rfl, h1, h2⟩ := h
    exact ⟨v, r, rfl, rel_shut1 hs h1 hn.1, relL_shut1 hs h2 hn.2⟩

theorem rel_shutT (hs : Store w O0 m bx rw) {a : A} {v : Value} (h : rel w (Ow O0 m) m (lens rw) a v) (hn : noIds (shutT bx rw a) = true) {m' : M} {ls' : List Nat} : rel w O0 m' ls' (shutT bx rw a) v := by
  cases a with
  | agg cs =>
    simp only [rel, shutT, noIds] at h hn ⊢
    obtain ⟨vs, h1, h2⟩ := h
    exact ⟨vs, h1, relL_shut1 hs h2 hn⟩
  | _ => exact rel_shut1 hs h hn

theorem relL_shutT (hs : Store w O0 m bx rw) {m' : M} {ls' : List Nat} : ∀ {cs : List A} {vs : List Value}, relL w (Ow O0 m) m (lens rw) cs vs → noIdsL (cs.map (shutT bx rw)) = true → relL w O0 m' ls' (cs.map (shutT bx rw)) vs
  | [], _, h, _ => by simpa [relL] using h
  | c :: cs, vs, h, hn => by
    simp only [relL, List.map_cons, noIdsL, Bool.and_eq_true] at h hn ⊢
    obtain ⟨v, r, rfl, h1, h2⟩ := h
    exact ⟨v, r, rfl, rel_shutT hs h1 hn.1, relL_shutT hs h2 hn.2⟩

/-- What is handed back, the objects given up. -/
theorem rel_shutA (hs : Store w O0 m bx rw) {a : A} {v : Value} (h : rel w (Ow O0 m) m (lens rw) a v) (hn : noIds (shutA bx rw a) = true) {m' : M} {ls' : List Nat} : rel w O0 m' ls' (shutA bx rw a) v := by
  cases a with
  | agg cs =>
    simp only [rel, shutA, noIds] at h hn ⊢
    obtain ⟨vs, h1, h2⟩ := h
    exact ⟨vs, h1, relL_shut1 hs h2 hn⟩
  | fn f cs =>
    simp only [rel, shutA, noIds] at h hn ⊢
    obtain ⟨vs, h1, h2⟩ := h
    exact ⟨vs, h1, relL_shut1 hs h2 hn⟩
  | tup cs =>
    simp only [rel, shutA, noIds] at h hn ⊢
    obtain ⟨vs, h1, h2⟩ := h
    exact ⟨vs, h1, relL_shutT hs h2 hn⟩
  | _ => exact rel_shut1 hs h hn

theorem relL_shutA (hs : Store w O0 m bx rw) {m' : M} {ls' : List Nat} : ∀ {cs : List A} {vs : List Value}, relL w (Ow O0 m) m (lens rw) cs vs → noIdsL (cs.map (shutA bx rw)) = true → relL w O0 m' ls' (cs.map (shutA bx rw)) vs
  | [], _, h, _ => by simpa [relL] using h
  | c :: cs, vs, h, hn => by
    simp only [relL, List.map_cons, noIdsL, Bool.and_eq_true] at h hn ⊢
    obtain ⟨v, r, rfl, h1, h2⟩ := h
    exact ⟨v, r, rfl, rel_shutA hs h1 hn.1, relL_shutA hs h2 hn.2⟩
end

mutual
/-- A value in which no address lies. -/
def flat : A → Bool
  | .val _ => true
  | .emp => true
  | .tup cs => flatL cs
  | _ => false
def flatL : List A → Bool
  | [] => true
  | c :: cs => flat c && flatL cs
end

section
variable {w : World} {O : Nat → Prop} {m : M} {ls : List Nat} {w' : World} {O' : Nat → Prop} {m' : M} {ls' : List Nat}
mutual
theorem rel_flat : ∀ (a : A) (v : Value), flat a = true → rel w O m ls a v → rel w' O' m' ls' a v
  | .val x, v, _, h => by simpa [rel] using h
  | .emp, v, _, h => by simpa [rel] using h
  | .tup cs, v, hf, h => by
    simp only [rel, flat] at h hf ⊢
    obtain ⟨vs, h1, h2⟩ := h
    exact ⟨vs, h1, relL_flat cs vs hf h2⟩
  | .top, _, hf, _ => by simp [flat] at hf
  | .sl _ _, _, hf, _ => by simp [flat] at hf
  | .agg _, _, hf, _ => by simp [flat] at hf
  | .elt _ _, _, hf, _ => by simp [flat] at hf
  | .fn _ _, _, hf, _ => by simp [flat] at hf
  | .ptr _ _, _, hf, _ => by simp [flat] at hf
  | .row _ _, _, hf, _ => by simp [flat] at hf
  | .rptr _ _ _ _ _, _, hf, _ => by simp [flat] at hf
theorem relL_flat : ∀ (cs : List A) (vs : List Value), flatL cs = true → relL w O m ls cs vs → relL w' O' m' ls' cs vs
  | [], _, _, h => by simpa [relL] using h
  | c :: cs, vs, hf, h => by
    simp only [relL, flatL, Bool.and_eq_true] at h hf ⊢
    obtain ⟨v, r, h1, h2, h3⟩ := h
    exact ⟨v, r, h1, rel_flat c v hf.1 h2, relL_flat cs r hf.2 h3⟩
end
end

theorem rel_import {w : World} {O : Nat → Prop} {m : M} {ls : List Nat} {r : A} {v : Value} (h : rel w O ⟨[], []⟩ [] r v) : rel w O m ls r v :=
  rel_mono ⟨Nat.le_refl _, fun _ _ _ => rfl, fun _ _ hn => hn, fun id b h => by simp at h, fun id l h => by simp at h⟩ _ _ h

section
variable {P : Program} {o : Oper} {ρ : Operand → A} {bx : List (List A)} {rw : List (Nat × List (List A))}

theorem relL_map_ev {w : World} {O : Nat → Prop} {m : M} {ls : List Nat} {ev : Operand → Value} : ∀ l : List Operand, (∀ x ∈ l, rel w O m ls (ρ x) (ev x)) → relL w O m ls (l.map ρ) (l.map ev)
  | [], _ => by simp [relL]
  | x :: l, h => by simp only [List.map_cons, relL]; exact ⟨ev x, _, rfl, h x (by simp), relL_map_ev l fun y hy => h y (by simp [hy])⟩

theorem call_enters {ev : Operand → Value} {f : Operand} {xs : Array Operand} {ts : Array TypeId} (ho : o.op = .call { callee := .value f, args := xs, argTypes := ts }) {g : FuncId} {us : List Value}
    (hf : ev f = .func (.func g) #[] us.toArray) (he : Enters P g) (w : World) : (execOp ev o).run P w = .ok (.enter g (xs.toList.map ev ++ us).toArray) w := by
  have : (xs.toList.map ev ++ us).toArray = xs.map ev ++ us.toArray := by
    apply Array.ext'; simp
  rw [this]
  simp [execOp, ho, resolve, Deferred.ofValue, hf, invoke, he _ w]

/-- A call of a function whose arguments hold no objects. -/
theorem q_call {f : Operand} {xs : Array Operand} {ts : Array TypeId} (ho : o.op = .call { callee := .value f, args := xs, argTypes := ts }) {g : FuncId} {caps : List A} (hf : ρ f = .fn g caps)
    {As : List A} (hsub : ∀ (w : World) (O : Nat → Prop) (m : M) (ls : List Nat) (vs : List Value), relL w O m ls (xs.toList.map ρ) vs → relL w O m ls As vs)
    (hn : noIdsL (As ++ caps) = true) {r : A} (hp : Pure P g (As ++ caps) r) : QOp P o ρ bx rw r := by
  intro w O0 m ev hs hr
  have h1 := hr f (by simp [ho, Op.operands, Call.operands])
  rw [hf] at h1
  simp only [rel] at h1
  obtain ⟨us, h2, h3⟩ := h1
  have h4 := relL_map_ev (ρ := ρ) (ev := ev) xs.toList fun x hx => hr x (by simp [ho, Op.operands, Call.operands]; exact Or.inr (by simpa using hx))
  have h5 := relL_append (hsub _ _ _ _ _ h4) h3
  rw [call_enters ho h2 hp.1 w]
  refine ⟨rfl, (hp.2 (Ow O0 m) w _ ?_ (relL_shut (monoW_refl _ _) _ _ hn h5)).mono ?_⟩
  · rintro b (hb | hb)
    · exact hs.old b hb
    · exact (hs.blk b hb).1
  · rintro e w'' ⟨v, he, hb, hv⟩
    exact ⟨v, he, hb, rel_import hv⟩

/-- A call of a function that only looks at the objects, and hands back plain values. -/
theorem q_callB {f : Operand} {xs : Array Operand} {ts : Array TypeId} (ho : o.op = .call { callee := .value f, args := xs, argTypes := ts }) {g : FuncId} {caps : List A} (hf : ρ f = .fn g caps)
    {As : List A} (hsub : ∀ (w : World) (O : Nat → Prop) (m : M) (ls : List Nat) (vs : List Value), relL w O m ls (xs.toList.map ρ) vs → relL w O m ls As vs)
    (hn : noIdsL ((As ++ caps).map (shutA bx rw)) = true) {r : A} (hp : Pure P g ((As ++ caps).map (shutA bx rw)) r) (hfl : flat r = true) : QOp P o ρ bx rw r := by
  intro w O0 m ev hs hr
  have h1 := hr f (by simp [ho, Op.operands, Call.operands])
  rw [hf] at h1
  simp only [rel] at h1
  obtain ⟨us, h2, h3⟩ := h1
  have h4 := relL_map_ev (ρ := ρ) (ev := ev) xs.toList fun x hx => hr x (by simp [ho, Op.operands, Call.operands]; exact Or.inr (by simpa using hx))
  have h5 := relL_append (hsub _ _ _ _ _ h4) h3
  rw [call_enters ho h2 hp.1 w]
  refine ⟨rfl, (hp.2 O0 w _ hs.old (relL_shutA hs h5 hn)).mono ?_⟩
  rintro e w'' ⟨v, he, hb, hv⟩
  exact ⟨v, he, hb, rel_flat _ _ hfl hv⟩

/-- A function that reads, and makes memory of its own: its contract out of its walk. -/
theorem Pure.of_awp {f : FuncId} {fn : Func} {c : Code} {As : List A} {r : A} (hf : P.funcs[f]? = some fn) (hnm : (fn.name == "runtime.NumGoroutine") = false) (hb : fn.body = some c)
    (h : AWP P c (atEnd P fn fun r' bx rw => shutA bx rw r' = r) ⟨frame0 fn.ntmps As, [], [], 0, 0⟩) (hn : noIds r = true) : Pure P f As r := by
  have hc := ACall.of_awp hf hnm hb h
  refine ⟨hc.1, fun O w vs hO hrel => ?_⟩
  have hs : Store w O ⟨[], []⟩ [] [] := ⟨rfl, rfl, by simp [M.blocks], fun b hb => by simp [M.blocks] at hb, hO, fun id b cs h => by simp at h, fun id h k xs h' => by simp at h'⟩
  have hOw : Ow O ⟨[], []⟩ = O := by funext b; simp [Ow, M.blocks]
  refine (hc.2 O w ⟨[], []⟩ vs hs (by rw [hOw]; exact hrel)).mono ?_
  rintro e w' ⟨v, m', r', bx', rw', rfl, hera, hst, hr', hsh⟩
  subst hsh
  refine ⟨v, rfl, ⟨hera.os, hera.tape, hera.output, hera.size, fun k hk => hera.keep k hk (by simp [M.blocks])⟩, rel_shutA hst hr' hn⟩

end
end Go.Proofs.Ytgedhnhgkmhgcaa.Abs
