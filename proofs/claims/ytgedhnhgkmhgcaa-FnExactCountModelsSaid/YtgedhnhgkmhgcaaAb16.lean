/- CALLS THAT HAND BACK A NEW ROW OF THE CALLER'S OWN. -/
import Derived.Test.YtgedhnhgkmhgcaaAb10
namespace Go.Proofs.Ytgedhnhgkmhgcaa.Abs
open Go Go.RowKit

/-- A contract: the function hands back a slice in new memory (or an empty one), which the caller may turn. -/
def PureRow (P : Program) (f : FuncId) (As : List A) (k : Nat) (xs : List (List A)) : Prop := Enters P f ∧
  ∀ (O : Nat → Prop) (w : World) (vs : List Value), (∀ b, O b → b < w.heap.size) → relL w O ⟨[], []⟩ [] As vs →
    Calls P f vs.toArray w fun e w' => ∃ v hd, e = .returned v ∧ Below w.heap.size w w' ∧ hdr hd xs.length v ∧ rowOk w' (Ow O ⟨[], [hd]⟩) ⟨[], []⟩ [] k xs hd ∧
      ∀ b cap, hd = some (b, cap) → w.heap.size ≤ b ∧ b < w'.heap.size

def flatLL : List (List A) → Bool
  | [] => true
  | x :: xs => flatL x && flatLL xs

theorem flatL_append : ∀ {xs ys : List A}, flatL xs = true → flatL ys = true → flatL (xs ++ ys) = true
  | [], _, _, h => h
  | x :: xs, ys, h, h' => by
    simp only [flatL, Bool.and_eq_true, List.cons_append] at h ⊢
    exact ⟨h.1, flatL_append h.2 h'⟩

theorem flat_flatten : ∀ {xs : List (List A)}, flatLL xs = true → flatL xs.flatten = true
  | [], _ => rfl
  | x :: xs, h => by
    simp only [flatLL, Bool.and_eq_true, List.flatten_cons] at h ⊢
    exact flatL_append h.1 (flat_flatten h.2)

section
variable {P : Program} {o : Oper} {bx : List (List A)} {rw : List (Nat × List (List A))}

theorem store_addRowAt {w w' : World} {O0 : Nat → Prop} {m : M} (hs : Store w O0 m bx rw) (hb : Below w.heap.size w w') {hd : Option (Nat × Nat)} {k : Nat} {xs : List (List A)}
    (hnew : ∀ b cap, hd = some (b, cap) → w.heap.size ≤ b ∧ b < w'.heap.size) (hr : rowOk w' (Ow O0 ⟨m.bx, m.rw ++ [hd]⟩) ⟨m.bx, m.rw ++ [hd]⟩ (lens (rw ++ [(k, xs)])) k xs hd) :
    Era w m (lens rw) w' ⟨m.bx, m.rw ++ [hd]⟩ (lens (rw ++ [(k, xs)])) ∧ Store w' O0 ⟨m.bx, m.rw ++ [hd]⟩ bx (rw ++ [(k, xs)]) := by
  have hera : Era w m (lens rw) w' ⟨m.bx, m.rw ++ [hd]⟩ (lens (rw ++ [(k, xs)])) := by
    refine ⟨hb.os, hb.tape, hb.output, hb.size, fun b h _ => hb.block b h, ?_, fun id b h => h, ?_⟩
    · intro b h
      rcases (blocks_addRw m hd b).1 h with h | ⟨cap, rfl⟩
      · exact Or.inl h
      · exact Or.inr (hnew b cap rfl).1
    · intro id l h
      have h1 := (List.getElem?_eq_some_iff.1 h).1
      refine ⟨l, ?_, Nat.le_refl _, fun _ => ?_⟩
      · simp only [lens, List.map_append] at h h1 ⊢
        rw [List.getElem?_append_left h1]; exact h
      · have h2 : id < m.rw.length := by rw [hs.rwl]; simpa [lens] using h1
        show (m.rw ++ [hd])[id]? = m.rw[id]?
        rw [List.getElem?_append_left h2]
  have hm := hera.mono O0
  refine ⟨hera, hs.build hm hs.bxl (by simp [hs.rwl]) ?_ ?_ ?_ ?_⟩
  · cases hd with
    | none => simpa [M.blocks] using hs.nd
    | some bc =>
      obtain ⟨b, cap⟩ := bc
      have hn := hnew b cap rfl
      have : (⟨m.bx, m.rw ++ [some (b, cap)]⟩ : M).blocks = m.blocks ++ [b] := by simp [M.blocks]
      rw [this]
      exact List.nodup_append.2 ⟨hs.nd, by simp, fun a ha b' hb' e => by simp at hb'; subst hb'; subst e; exact Nat.lt_irrefl _ (Nat.lt_of_lt_of_le (hs.blk _ ha).1 hn.1)⟩
  · intro b h
    rcases (blocks_addRw m hd b).1 h with h | ⟨cap, rfl⟩
    · exact ⟨Nat.lt_of_lt_of_le (hs.blk b h).1 hb.size, (hs.blk b h).2⟩
    · have hn := hnew b cap rfl
      exact ⟨hn.2, fun ho => Nat.lt_irrefl _ (Nat.lt_of_lt_of_le (hs.old _ ho) hn.1)⟩
  · intro id b ds h1 h2
    exact Or.inl ⟨h1, h2, hb.block b (hs.blk b (mem_blocks_bx h1)).1⟩
  · intro id h k' ys h1 h2
    by_cases hid : id < m.rw.length
    · rw [List.getElem?_append_left hid] at h1
      rw [List.getElem?_append_left (by rw [← hs.rwl]; exact hid)] at h2
      exact Or.inl ⟨h1, h2, fun b cap e => by subst e; exact hb.block b (hs.blk b (mem_blocks_rw h1)).1⟩
    · have e : id = m.rw.length := by
        have := (List.getElem?_eq_some_iff.1 h1).1
        simp at this; omega
      subst e
      simp only [List.getElem?_concat_length, Option.some.injEq] at h1
      rw [hs.rwl, List.getElem?_concat_length] at h2
      simp only [Option.some.injEq, Prod.mk.injEq] at h2
      obtain ⟨rfl, rfl⟩ := h2
      subst h1
      exact Or.inr hr

theorem ow_addRow {O0 : Nat → Prop} {m : M} {hd : Option (Nat × Nat)} {b : Nat} (h : Ow O0 ⟨m.bx, m.rw ++ [hd]⟩ b) : Ow (Ow O0 m) ⟨[], [hd]⟩ b := by
  rcases h with h | h
  · exact Or.inl (Or.inl h)
  · rcases (blocks_addRw m hd b).1 h with h | ⟨cap, rfl⟩
    · exact Or.inl (Or.inr h)
    · exact Or.inr (by simp [M.blocks])

theorem sim_addRow {we : World} {m0 : M} {ls0 : List Nat} {O0 : Nat → Prop} {m : M} {s : St} {a : Act} {w w' : World} (hs : Sim we m0 ls0 O0 m s a w) (hb : Below w.heap.size w w') {hd : Option (Nat × Nat)} {k : Nat} {ys : List (List A)} {v : Value}
    (dst : Option Tmp) (hnew : ∀ b cap, hd = some (b, cap) → w.heap.size ≤ b ∧ b < w'.heap.size) (hh : hdr hd ys.length v)
    (hr : rowOk w' (Ow O0 ⟨m.bx, m.rw ++ [hd]⟩) ⟨m.bx, m.rw ++ [hd]⟩ (lens (s.rw ++ [(k, ys)])) k ys hd) :
    Sim we m0 ls0 O0 ⟨m.bx, m.rw ++ [hd]⟩ ⟨putA s.fr dst (.row s.rw.length ys.length), s.bx, s.rw ++ [(k, ys)], s.nb, s.nx⟩ (a.put dst v) w' := by
  obtain ⟨h2, h3⟩ := store_addRowAt hs.store hb hnew hr
  have hfr := relL_mono (h2.mono O0) _ _ hs.fr
  have hs' : Sim we m0 ls0 O0 ⟨m.bx, m.rw ++ [hd]⟩ ⟨s.fr, s.bx, s.rw ++ [(k, ys)], s.nb, s.nx⟩ a w' := ⟨hs.defers, hs.nb, hs.nx, hs.era.trans h2, h3, hfr⟩
  refine sim_put hs' dst ?_
  simp only [rel]
  refine ⟨ys.length, by simp [lens], Nat.le_refl _, ?_, fun _ => ⟨hd, ?_, hh⟩⟩
  · cases hd with
    | none => simp only [hdr] at hh; obtain ⟨a, h⟩ := hh; exact ⟨a, 0, h⟩
    | some bc => exact ⟨_, _, hh⟩
  · show (m.rw ++ [hd])[s.rw.length]? = some hd
    rw [← hs.store.rwl]; simp

theorem SOp.of_rowA {s : St} {K : St → Prop} {f : Operand} {xs : Array Operand} {ts : Array TypeId} (ho : o.op = .call { callee := .value f, args := xs, argTypes := ts }) {g : FuncId} {caps : List A} (hf : St.ev s.fr f = .fn g caps)
    {As : List A} (hsub : ∀ (w : World) (O : Nat → Prop) (m : M) (ls : List Nat) (vs : List Value), relL w O m ls (xs.toList.map (St.ev s.fr)) vs → relL w O m ls As vs)
    (hn : noIdsL (As ++ caps) = true) {k : Nat} {ys : List (List A)} (hp : PureRow P g (As ++ caps) k ys) (hny : noIdsLL ys = true)
    (hk : K ⟨putA s.fr o.dst (.row s.rw.length ys.length), s.bx, s.rw ++ [(k, ys)], s.nb, s.nx⟩) : SOp P o s K := by
  intro we m0 ls0 O0 m a w N Q hs hN
  have h1 := rel_ev hs.fr f
  rw [hf] at h1
  simp only [rel] at h1
  obtain ⟨us, h2, h3⟩ := h1
  have h4 := relL_map_ev (ρ := St.ev s.fr) (ev := a.eval) xs.toList fun x _ => rel_ev hs.fr x
  have h5 := relL_append (hsub _ _ _ _ _ h4) h3
  unfold Oper.wp
  rw [call_enters ho h2 hp.1 w]
  simp only [Oper.upon]
  refine (hp.2 (Ow O0 m) w _ ?_ (relL_shut (monoW_refl _ _) _ _ hn h5)).mono ?_
  · rintro b (hb | hb)
    · exact hs.store.old b hb
    · exact (hs.store.blk b hb).1
  · rintro e w' ⟨v, hd, rfl, hb, hh, hrow, hnew⟩
    refine hN _ _ _ w' hk (sim_addRow hs hb o.dst hnew hh ?_)
    cases hd with
    | none => exact hrow
    | some bc =>
      obtain ⟨b, cap⟩ := bc
      obtain ⟨q1, q2, q3, c, T, q4, q5, q6⟩ := hrow
      exact ⟨q1, q2, q3, c, T, q4, q5, relL_shut ⟨Nat.le_refl _, fun _ _ _ => rfl, fun b' _ hb' ho => hb' (ow_addRow ho)⟩ _ _ (noIds_flatten hny) q6⟩

theorem SOp.of_rowB {s : St} {K : St → Prop} {f : Operand} {xs : Array Operand} {ts : Array TypeId} (ho : o.op = .call { callee := .value f, args := xs, argTypes := ts }) {g : FuncId} {caps : List A} (hf : St.ev s.fr f = .fn g caps)
    {As : List A} (hsub : ∀ (w : World) (O : Nat → Prop) (m : M) (ls : List Nat) (vs : List Value), relL w O m ls (xs.toList.map (St.ev s.fr)) vs → relL w O m ls As vs)
    (hn : noIdsL ((As ++ caps).map (shutA s.bx s.rw)) = true) {k : Nat} {ys : List (List A)} (hp : PureRow P g ((As ++ caps).map (shutA s.bx s.rw)) k ys) (hny : flatLL ys = true)
    (hk : K ⟨putA s.fr o.dst (.row s.rw.length ys.length), s.bx, s.rw ++ [(k, ys)], s.nb, s.nx⟩) : SOp P o s K := by
  intro we m0 ls0 O0 m a w N Q hs hN
  have h1 := rel_ev hs.fr f
  rw [hf] at h1
  simp only [rel] at h1
  obtain ⟨us, h2, h3⟩ := h1
  have h4 := relL_map_ev (ρ := St.ev s.fr) (ev := a.eval) xs.toList fun x _ => rel_ev hs.fr x
  have h5 := relL_append (hsub _ _ _ _ _ h4) h3
  unfold Oper.wp
  rw [call_enters ho h2 hp.1 w]
  simp only [Oper.upon]
  refine (hp.2 O0 w _ hs.store.old (relL_shutA hs.store h5 hn)).mono ?_
  rintro e w' ⟨v, hd, rfl, hb, hh, hrow, hnew⟩
  refine hN _ _ _ w' hk (sim_addRow hs hb o.dst hnew hh ?_)
  cases hd with
  | none => exact hrow
  | some bc =>
    obtain ⟨b, cap⟩ := bc
    obtain ⟨q1, q2, q3, c, T, q4, q5, q6⟩ := hrow
    exact ⟨q1, q2, q3, c, T, q4, q5, relL_flat _ _ (flat_flatten hny) q6⟩
end
end Go.Proofs.Ytgedhnhgkmhgcaa.Abs
