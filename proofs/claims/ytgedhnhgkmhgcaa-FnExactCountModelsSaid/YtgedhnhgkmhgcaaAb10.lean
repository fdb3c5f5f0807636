/- APPEND, MAKE, AND STRUCTS AND SLICES THAT ARE WRITTEN OUT. -/
import Derived.Test.YtgedhnhgkmhgcaaAb9
namespace Go.Proofs.Ytgedhnhgkmhgcaa.Abs
open Go Go.RowKit

section
variable {P : Program} {o : Oper} {ρ : Operand → A} {bx bx' : List (List A)} {rw rw' : List (Nat × List (List A))}

theorem lens_set (rw : List (Nat × List (List A))) (id : Nat) (q : Nat × List (List A)) : lens (rw.set id q) = (lens rw).set id q.2.length := by
  simp [lens, List.map_set]

theorem fm_set_mem {b c : Nat} : ∀ (l : List (Option (Nat × Nat))) (id x : Nat), x ∈ (l.set id (some (b, c))).filterMap (fun h => h.map Prod.fst) → x ∈ l.filterMap (fun h => h.map Prod.fst) ∨ x = b
  | [], _, x, h => by simp at h
  | y :: l, 0, x, h => by
    simp only [List.set_cons_zero, List.filterMap_cons, Option.map_some, List.mem_cons] at h
    rcases h with h | h
    · exact Or.inr h
    · refine Or.inl ?_
      cases y with
      | none => simpa using h
      | some z => simp only [List.filterMap_cons, Option.map_some, List.mem_cons]; exact Or.inr h
  | y :: l, id + 1, x, h => by
    cases y with
    | none =>
      simp only [List.set_cons_succ, List.filterMap_cons, Option.map_none] at h ⊢
      exact fm_set_mem l id x h
    | some z =>
      simp only [List.set_cons_succ, List.filterMap_cons, Option.map_some, List.mem_cons] at h ⊢
      rcases h with h | h
      · exact Or.inl (Or.inl h)
      · rcases fm_set_mem l id x h with h | h
        · exact Or.inl (Or.inr h)
        · exact Or.inr h

theorem fm_set_nodup {b c : Nat} : ∀ (l : List (Option (Nat × Nat))) (id : Nat), (l.filterMap (fun h => h.map Prod.fst)).Nodup → b ∉ l.filterMap (fun h => h.map Prod.fst) → ((l.set id (some (b, c))).filterMap (fun h => h.map Prod.fst)).Nodup
  | [], _, _, _ => by simp
  | y :: l, 0, hn, hb => by
    cases y with
    | none =>
      simp only [List.set_cons_zero, List.filterMap_cons, Option.map_none, Option.map_some] at hn hb ⊢
      exact List.nodup_cons.2 ⟨hb, hn⟩
    | some z =>
      simp only [List.set_cons_zero, List.filterMap_cons, Option.map_some, List.nodup_cons, List.mem_cons, not_or] at hn hb ⊢
      exact ⟨hb.2, hn.2⟩
  | y :: l, id + 1, hn, hb => by
    cases y with
    | none =>
      simp only [List.set_cons_succ, List.filterMap_cons, Option.map_none] at hn hb ⊢
      exact fm_set_nodup l id hn hb
    | some z =>
      simp only [List.set_cons_succ, List.filterMap_cons, Option.map_some, List.nodup_cons, List.mem_cons, not_or] at hn hb ⊢
      refine ⟨fun h => ?_, fm_set_nodup l id hn.2 hb.2⟩
      rcases fm_set_mem l id _ h with h | h
      · exact hn.1 h
      · exact hb.1 h.symm

/-- A row's content turned, in its block or in a new one. -/
theorem store_growRow {w w' : World} {O0 : Nat → Prop} {m : M} (hs : Store w O0 m bx rw) {id k : Nat} {xs xs' : List (List A)} (hid : rw[id]? = some (k, xs)) {hd hd' : Option (Nat × Nat)} (hm : m.rw[id]? = some hd)
    (hk : ∀ x ∈ xs', x.length = k)
    (h : (∃ b cap cs T, hd = some (b, cap) ∧ hd' = some (b, cap) ∧ xs.length ≤ xs'.length ∧ xs'.length ≤ cap ∧ cap ≤ 9223372036854775807 ∧ (w'.os = w.os ∧ w'.tape = w.tape ∧ w'.output = w.output ∧ w'.heap.size = w.heap.size ∧ ∀ b', b' ≠ b → w'.heap[b']? = w.heap[b']?) ∧
          w'.heap[b]? = some (.cells cs T (0, 0)) ∧ cs.size = cap * k ∧ relL w (Ow O0 m) m (lens rw) xs'.flatten (cs.toList.take (xs'.length * k))) ∨
       (∃ cap cs T, hd' = some (w.heap.size, cap) ∧ xs.length < xs'.length ∧ xs'.length ≤ cap ∧ cap ≤ 9223372036854775807 ∧ Below w.heap.size w w' ∧ w.heap.size < w'.heap.size ∧
          w'.heap[w.heap.size]? = some (.cells cs T (0, 0)) ∧ cs.size = cap * k ∧ relL w (Ow O0 m) m (lens rw) xs'.flatten (cs.toList.take (xs'.length * k)))) :
    ∃ m', m'.rw[id]? = some hd' ∧ Era w m (lens rw) w' m' (lens (rw.set id (k, xs'))) ∧ Store w' O0 m' bx (rw.set id (k, xs')) := by
  have hlt : id < rw.length := (List.getElem?_eq_some_iff.1 hid).1
  have hlt' : id < m.rw.length := by rw [hs.rwl]; exact hlt
  have hl0 : (lens rw)[id]? = some xs.length := by simp [lens, hid]
  have hlen : ∀ (n l : Nat), (lens rw)[n]? = some l → ∃ l', (lens (rw.set id (k, xs')))[n]? = some l' ∧ (n ≠ id → l' = l) ∧ (n = id → l' = xs'.length ∧ l = xs.length) := by
    intro n l hn
    rw [lens_set]
    by_cases e : n = id
    · subst e
      rw [hl0] at hn
      simp only [Option.some.injEq] at hn
      exact ⟨xs'.length, by rw [List.getElem?_set_self (by simpa [lens] using hlt)], fun h => (h rfl).elim, fun _ => ⟨rfl, hn.symm⟩⟩
    · exact ⟨l, by rw [List.getElem?_set_ne (Ne.symm e)]; exact hn, fun _ => rfl, fun h => (e h).elim⟩
  rcases h with ⟨b, cap, cs, T, rfl, rfl, g1, g2, g3, ⟨w1, w2, w3, w4, w5⟩, g4, g5, g6⟩ | ⟨cap, cs, T, rfl, g1, g2, g3, hb, hsz, g4, g5, g6⟩
  · have hblk := mem_blocks_rw hm
    have hera : Era w m (lens rw) w' m (lens (rw.set id (k, xs'))) := by
      refine ⟨w1, w2, w3, by omega, fun b' hb' hn => w5 b' (fun e => hn (e ▸ hblk)), fun b' hb' => Or.inl hb', fun _ _ h => h, fun n l hn => ?_⟩
      obtain ⟨l', a1, a2, a3⟩ := hlen n l hn
      refine ⟨l', a1, ?_, fun _ => rfl⟩
      by_cases e : n = id
      · have := a3 e; omega
      · rw [a2 e]; exact Nat.le_refl _
    have hmono := hera.mono O0
    refine ⟨m, hm, hera, hs.build hmono hs.bxl (by simp [hs.rwl]) hs.nd (fun b' hb' => by rw [w4]; exact hs.blk b' hb') ?_ ?_⟩
    · intro id' b' es r1 r2
      refine Or.inl ⟨r1, r2, w5 b' fun e' => ?_⟩
      subst e'
      exact nodup_bx_rw hs.nd r1 hm
    · intro id' h' k' ys r1 r2
      by_cases e : id' = id
      · subst e
        rw [hm] at r1
        simp only [Option.some.injEq] at r1
        subst r1
        rw [List.getElem?_set_self hlt] at r2
        simp only [Option.some.injEq, Prod.mk.injEq] at r2
        obtain ⟨rfl, rfl⟩ := r2
        exact Or.inr ⟨g2, g3, hk, cs, T, g4, g5, relL_mono hmono _ _ g6⟩
      · rw [List.getElem?_set_ne (Ne.symm e)] at r2
        refine Or.inl ⟨r1, r2, fun b' cap' e' => w5 b' fun e'' => e ?_⟩
        subst e' e''
        exact nodup_rw hs.nd r1 hm
  · have hfresh : ∀ b ∈ m.blocks, b ≠ w.heap.size := fun b h => Nat.ne_of_lt (hs.blk b h).1
    have hmem : ∀ x, x ∈ (⟨m.bx, m.rw.set id (some (w.heap.size, cap))⟩ : M).blocks → x ∈ m.blocks ∨ x = w.heap.size := by
      intro x hx
      simp only [M.blocks, List.mem_append] at hx ⊢
      rcases hx with hx | hx
      · exact Or.inl (Or.inl hx)
      · rcases fm_set_mem _ _ _ hx with hx | hx
        · exact Or.inl (Or.inr hx)
        · exact Or.inr hx
    have hera : Era w m (lens rw) w' ⟨m.bx, m.rw.set id (some (w.heap.size, cap))⟩ (lens (rw.set id (k, xs'))) := by
      refine ⟨hb.os, hb.tape, hb.output, hb.size, fun b' hb' _ => hb.block b' hb', fun b' hb' => ?_, fun _ _ h => h, fun n l hn => ?_⟩
      · rcases hmem b' hb' with h | h
        · exact Or.inl h
        · exact Or.inr (by omega)
      · obtain ⟨l', a1, a2, a3⟩ := hlen n l hn
        by_cases e : n = id
        · have := a3 e
          exact ⟨l', a1, by omega, fun e2 => by omega⟩
        · refine ⟨l', a1, by rw [a2 e]; exact Nat.le_refl _, fun _ => ?_⟩
          show (m.rw.set id _)[n]? = m.rw[n]?
          rw [List.getElem?_set_ne (Ne.symm e)]
    have hmono := hera.mono O0
    refine ⟨_, ?_, hera, hs.build hmono hs.bxl (by simp [hs.rwl]) ?_ ?_ ?_ ?_⟩
    · show (m.rw.set id _)[id]? = _
      rw [List.getElem?_set_self hlt']
    · have hnd := List.nodup_append.1 hs.nd
      have hb0 : w.heap.size ∉ m.rw.filterMap fun h => h.map Prod.fst := fun h => hfresh _ (List.mem_append_right _ h) rfl
      refine List.nodup_append.2 ⟨hnd.1, fm_set_nodup _ _ hnd.2.1 hb0, fun a ha b hb' e => ?_⟩
      subst e
      rcases fm_set_mem _ _ _ hb' with h | h
      · exact hnd.2.2 a ha a h rfl
      · exact hfresh a (List.mem_append_left _ ha) h
    · intro b' hb'
      rcases hmem b' hb' with h | h
      · exact ⟨Nat.lt_of_lt_of_le (hs.blk b' h).1 hb.size, (hs.blk b' h).2⟩
      · subst h; exact ⟨hsz, fun ho => Nat.lt_irrefl _ (hs.old _ ho)⟩
    · intro id' b' es r1 r2
      exact Or.inl ⟨r1, r2, hb.block b' (hs.blk b' (mem_blocks_bx r1)).1⟩
    · intro id' h' k' ys r1 r2
      by_cases e : id' = id
      · subst e
        have r1' : (m.rw.set id' (some (w.heap.size, cap)))[id']? = some h' := r1
        rw [List.getElem?_set_self hlt'] at r1'
        simp only [Option.some.injEq] at r1'
        subst r1'
        rw [List.getElem?_set_self hlt] at r2
        simp only [Option.some.injEq, Prod.mk.injEq] at r2
        obtain ⟨rfl, rfl⟩ := r2
        exact Or.inr ⟨g2, g3, hk, cs, T, g4, g5, relL_mono hmono _ _ g6⟩
      · have r1' : (m.rw.set id (some (w.heap.size, cap)))[id']? = some h' := r1
        rw [List.getElem?_set_ne (Ne.symm e)] at r1' r2
        exact Or.inl ⟨r1', r2, fun b' cap' e' => by subst e'; exact hb.block b' (hs.blk b' (mem_blocks_rw r1')).1⟩

theorem set_self {α : Type} {l : List α} {i : Nat} {x : α} (h : l[i]? = some x) : l.set i x = l := by
  apply List.ext_getElem?
  intro n
  by_cases e : n = i
  · subst e; rw [List.getElem?_set_self (List.getElem?_eq_some_iff.1 h).1, h]
  · rw [List.getElem?_set_ne (Ne.symm e)]

theorem hdr_isSl {hd : Option (Nat × Nat)} {n : Nat} {v : Value} (h : hdr hd n v) : ∃ a c, v = .slice a n c := by
  cases hd with
  | none => simp only [hdr] at h; obtain ⟨a, h⟩ := h; exact ⟨a, 0, h⟩
  | some bc => exact ⟨_, _, h⟩

theorem append_run {ev : Operand → Value} {s x : Operand} {xs : Array Operand} {ts : Array TypeId} (ho : o.op = .call { callee := .builtin .append, args := xs, argTypes := ts }) (hxs : xs = #[s, x]) {w w' : World} {v : Value}
    (h : (Builtin.append_ ts o.type #[ev s, ev x]).run P w = .ok v w') : (execOp ev o).run P w = .ok (.value v) w' := by
  subst hxs
  simp [execOp, ho, resolve, invoke, builtin, h]

/-- append to a row of the call's own. -/
theorem r_append {s x : Operand} {xs : Array Operand} {ts : Array TypeId} {t : TypeId} (ho : o.op = .call { callee := .builtin .append, args := xs, argTypes := ts }) (hxs : xs = #[s, x]) (hts : ts = #[t, t])
    {e : Nat} (ht : P.underlying t = some (.slice e)) {i : TI} (hi : TI.ok P e i) {id n k : Nat} {us ys : List (List A)} (hs : ρ s = .row id n) (hid : rw[id]? = some (k, us)) (hn : us.length = n) (hk : k = i.size)
    (hx : srcA rw (ρ x) = some ys) (hxk : srcK rw k (ρ x)) (hok : ys.flatten.all okCell = true) (hfit : (us.length + ys.length) * i.bytes ≤ 140737488355328) (h63 : us.length + ys.length ≤ 9223372036854775807) :
    ROp P o ρ bx rw (.row id (n + ys.length)) bx (rw.set id (k, us ++ ys)) := by
  intro w O0 m ev hst hr
  subst hk hn
  have hs' := hr s (by simp [ho, Op.operands, Call.operands, hxs])
  have hx' := hr x (by simp [ho, Op.operands, Call.operands, hxs])
  rw [hs] at hs'
  simp only [rel] at hs'
  obtain ⟨l, g1, g2, _, g3⟩ := hs'
  have hl : us.length = l := by
    simp only [lens, List.getElem?_map, hid, Option.map_some, Option.some.injEq] at g1
    omega
  obtain ⟨hd, g4, g5⟩ := g3 hl
  have hrow := hst.row id hd _ us g4 hid
  obtain ⟨ad, c, news, q1, q2, q3, q4⟩ := src_of hst hx' hx hxk
  obtain ⟨v', w', hd', a1, a2, a3⟩ := append_core P (ty := o.type) (c := c) ht hi g5 hrow q2 q3 q4 hok hfit h63
  have hrun := append_run (P := P) (ev := ev) ho hxs (by rw [hts, q1]; exact a1)
  have hlt : id < rw.length := (List.getElem?_eq_some_iff.1 hid).1
  have hrel : ∀ m' : M, m'.rw[id]? = some hd' → rel w' (Ow O0 m') m' (lens (rw.set id (i.size, us ++ ys))) (.row id (us.length + ys.length)) v' := by
    intro m' hm'
    simp only [rel]
    refine ⟨us.length + ys.length, ?_, Nat.le_refl _, hdr_isSl a2, fun _ => ⟨hd', hm', a2⟩⟩
    rw [lens_set, List.getElem?_set_self (by simpa [lens] using hlt)]
    simp
  have hk' : ∀ z ∈ us ++ ys, z.length = i.size := by
    intro z hz
    rcases List.mem_append.1 hz with hz | hz
    · cases hd with
      | none => simp only [rowOk] at hrow; subst hrow; cases hz
      | some bc => exact hrow.2.2.1 z hz
    · exact q3 z hz
  rcases a3 with ⟨rfl, rfl, rfl⟩ | ⟨b, cap, cs, T, r1, r2, r3, r4, r5, r6, r7, r8⟩ | ⟨cap, cs, T, r1, r2, r3, r4, r5, r6, r7, r8, r9⟩
  · have e : rw.set id (i.size, us ++ []) = rw := by rw [List.append_nil]; exact set_self hid
    have := hrel m g4
    rw [e] at this ⊢
    exact ⟨v', w', m, Or.inl hrun, Era.refl _ _ _, hst, this⟩
  · obtain ⟨m', b1, b2, b3⟩ := store_growRow hst (xs' := us ++ ys) hid g4 hk' (hd' := hd') (Or.inl ⟨b, cap, cs, T, r1, r2, by simp, by simpa using r3, r4, r5, r6, r7, by simpa using r8⟩)
    exact ⟨v', w', m', Or.inl hrun, b2, b3, hrel m' b1⟩
  · obtain ⟨m', b1, b2, b3⟩ := store_growRow hst (xs' := us ++ ys) hid g4 hk' (hd' := hd') (Or.inr ⟨cap, cs, T, r1, by simp; omega, by simpa using r3, r4, r5, r6, r7, r8, by simpa using r9⟩)
    exact ⟨v', w', m', Or.inl hrun, b2, b3, hrel m' b1⟩

/-- append to an empty slice without room: a new row. -/
theorem r_append0 {s x : Operand} {xs : Array Operand} {ts : Array TypeId} {t : TypeId} (ho : o.op = .call { callee := .builtin .append, args := xs, argTypes := ts }) (hxs : xs = #[s, x]) (hts : ts = #[t, t])
    {e : Nat} (ht : P.underlying t = some (.slice e)) {i : TI} (hi : TI.ok P e i) {ys : List (List A)} (hs : ρ s = .emp)
    (hx : srcA rw (ρ x) = some ys) (hxk : srcK rw i.size (ρ x)) (hok : ys.flatten.all okCell = true) (hfit : ys.length * i.bytes ≤ 140737488355328) (h63 : ys.length ≤ 9223372036854775807) :
    ROp P o ρ bx rw (.row rw.length ys.length) bx (rw ++ [(i.size, ys)]) := by
  intro w O0 m ev hst hr
  have hs' := hr s (by simp [ho, Op.operands, Call.operands, hxs])
  have hx' := hr x (by simp [ho, Op.operands, Call.operands, hxs])
  rw [hs] at hs'
  simp only [rel] at hs'
  obtain ⟨ad, c, news, q1, q2, q3, q4⟩ := src_of hst hx' hx hxk
  obtain ⟨v', w', hd', a1, a2, a3⟩ := append_core P (ty := o.type) (c := c) (xs := []) (hd := none) (w := w) (O := Ow O0 m) (m := m) (ls := lens rw) ht hi (by simpa only [hdr, List.length_nil] using hs') (by simp [rowOk]) q2 q3 q4 hok (by simpa using hfit) (by simpa using h63)
  have hrun := append_run (P := P) (ev := ev) ho hxs (by rw [hts, q1]; exact a1)
  simp only [List.length_nil, Nat.zero_add, List.nil_append] at a2 a3
  have hb : Below w.heap.size w w' := by
    rcases a3 with ⟨_, rfl, _⟩ | ⟨b, cap, cs, T, r1, _⟩ | ⟨cap, cs, T, _, _, _, _, r5, _⟩
    · exact Below.refl _ _
    · cases r1
    · exact r5
  have hadd : (hd' = none ∧ ys = []) ∨ ∃ cap c T, hd' = some (w.heap.size, cap) ∧ w.heap.size < w'.heap.size ∧ ys.length ≤ cap ∧ cap ≤ 9223372036854775807 ∧ (∀ x ∈ ys, x.length = i.size) ∧ w'.heap[w.heap.size]? = some (.cells c T (0, 0)) ∧
      c.size = cap * i.size ∧ relL w (Ow O0 m) m (lens rw) ys.flatten (c.toList.take (ys.length * i.size)) := by
    rcases a3 with ⟨h1, _, h3⟩ | ⟨b, cap, cs, T, r1, _⟩ | ⟨cap, cs, T, r1, r2, r3, r4, r5, r6, r7, r8, r9⟩
    · exact Or.inl ⟨h3, h1⟩
    · cases r1
    · exact Or.inr ⟨cap, cs, T, r1, r6, r3, r4, q3, r7, r8, r9⟩
  obtain ⟨b1, b2⟩ := store_addRow hst hb hadd
  refine ⟨v', w', _, Or.inl hrun, b1, b2, ?_⟩
  simp only [rel]
  refine ⟨ys.length, by simp [lens], Nat.le_refl _, hdr_isSl a2, fun _ => ⟨hd', ?_, a2⟩⟩
  rw [← hst.rwl]; simp

/-- make of a row -/
theorem r_make {t : TypeId} {x y : Operand} (ho : o.op = .makeSlice t x y) {e : Nat} (ht : P.underlying t = some (.slice e)) {i : TI} (hi : TI.ok P e i) {kl kc : IntKind} {l c : Int} (hx : ρ x = .val (.int kl l)) (hy : ρ y = .val (.int kc c))
    (h0 : 0 ≤ l) (hlc : l ≤ c) (hbytes : (i.bytes : Int) * c ≤ 281474976710656) (h63 : c ≤ 9223372036854775807) :
    ROp P o ρ bx rw (.row rw.length l.toNat) bx (rw ++ [(i.size, List.replicate l.toNat (i.zero.cells.toList.map liftV))]) := by
  intro w O0 m ev hst hr
  have hx' := hr x (by simp [ho, Op.operands])
  have hy' := hr y (by simp [ho, Op.operands])
  rw [hx] at hx'
  rw [hy] at hy'
  simp only [rel] at hx' hy'
  obtain ⟨j, hj, j1, j2, j3⟩ := hi.some_info
  have hrun := run_make (P := P) w t e j i.zero ht hj j3 kl kc l c h0 hlc (by rw [j2]; exact hbytes) h63
  have hz : i.zero.cells.toList.length = i.size := by simpa using hi.zsize
  have key : ∀ (n cn : Nat), n ≤ cn → ((madeCells i.zero.cells (cn * i.size)).toList.take (n * i.size)) = (List.replicate n i.zero.cells.toList).flatten := by
    intro n cn hn
    apply List.ext_getElem?
    intro q
    by_cases hq : q < n * i.size
    · have hpos : 0 < i.size := Nat.pos_of_ne_zero fun e0 => by rw [e0] at hq; simp at hq
      have h1 : (List.replicate n i.zero.cells.toList).flatten[q]? = i.zero.cells.toList[q % i.size]? := by
        clear hn
        induction n generalizing q with
        | zero => simp at hq
        | succ n ih =>
          rw [List.replicate_succ, List.flatten_cons]
          by_cases hq2 : q < i.size
          · rw [List.getElem?_append_left (by omega), Nat.mod_eq_of_lt hq2]
          · have hq3 : q - i.size < n * i.size := by
              rw [Nat.add_mul, Nat.one_mul] at hq; omega
            have hm2 := Nat.mod_eq_sub_mod (a := q) (b := i.size) (by omega)
            rw [List.getElem?_append_right (by omega), hz, ih (q - i.size) hq3, ← hm2]
      rw [h1, List.getElem?_take, if_pos hq]
      have hlt : q < cn * i.size := Nat.lt_of_lt_of_le hq (Nat.mul_le_mul_right _ hn)
      have hm : q % i.size < i.zero.cells.size := by rw [hi.zsize]; exact Nat.mod_lt _ hpos
      simp only [madeCells, Array.getElem?_toList, Array.getElem?_map, Array.getElem?_range, hlt, if_true, Option.map_some, hi.zsize]
      rw [getElem!_pos i.zero.cells (q % i.size) hm, Array.getElem?_eq_getElem hm]
    · rw [List.getElem?_eq_none (by simp; omega), List.getElem?_eq_none]
      simp only [List.length_flatten, List.map_replicate, hz, List.sum_replicate_nat]
      omega
  have hb := below_alloc w (.cells (madeCells i.zero.cells (c.toNat * j.size)) e)
  have hrep : (List.replicate l.toNat (i.zero.cells.toList.map liftV)).flatten = (List.replicate l.toNat i.zero.cells.toList).flatten.map liftV := by
    rw [List.map_flatten, List.map_replicate]
  obtain ⟨b1, b2⟩ := store_addRow (k := i.size) (xs := List.replicate l.toNat (i.zero.cells.toList.map liftV)) hst hb
    (Or.inr ⟨c.toNat, _, e, rfl, by rw [size_alloc']; omega, by simp; omega, by omega, fun z hz' => by rw [(List.mem_replicate.1 hz').2]; simpa using hi.zsize, heap_alloc_new w _, by rw [size_madeCells, j1], by
      rw [List.length_replicate, j1, key _ _ (by omega), hrep]; exact relL_lift _⟩)
  refine ⟨.slice (some ⟨w.heap.size, 0, none⟩) l.toNat c.toNat, _, _, Or.inl ?_, b1, b2, ?_⟩
  · simp [execOp, ho, hx', hy', hrun]
  · simp only [rel]
    refine ⟨l.toNat, by simp [lens], Nat.le_refl _, ⟨_, _, rfl⟩, fun _ => ⟨some (w.heap.size, c.toNat), ?_, rfl⟩⟩
    rw [← hst.rwl]; simp

end
end Go.Proofs.Ytgedhnhgkmhgcaa.Abs
