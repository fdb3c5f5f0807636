/- THE OPERATIONS OVER ABSTRACT VALUES, CONTINUED: memory that is read, parts, calls. -/
import Derived.Test.YtgedhnhgkmhgcaaAb4
namespace Go.Proofs.Ytgedhnhgkmhgcaa.Abs
open Go Go.RowKit

section
variable {w : World} {O : Nat → Prop} {m : M} {ls : List Nat}

theorem relRows_get {k b : Nat} : ∀ {xs : List (List A)} {off i : Nat} {x : List A}, relRows w O m ls k b off xs → xs[i]? = some x → x.length = k ∧ relCells w O m ls b (off + i * k) x
  | [], off, i, x, _, h => by simp at h
  | y :: xs, off, i, x, hr, h => by
    simp only [relRows] at hr
    obtain ⟨h1, h2, h3⟩ := hr
    cases i with
    | zero => simp at h; subst h; exact ⟨h1, by simpa using h2⟩
    | succ i =>
      simp at h
      have := relRows_get h3 h
      refine ⟨this.1, ?_⟩
      rw [show off + (i + 1) * k = off + k + i * k by rw [Nat.add_mul]; omega]
      exact this.2

theorem relRows_drop {k b : Nat} : ∀ {xs : List (List A)} {off : Nat} (n : Nat), relRows w O m ls k b off xs → n ≤ xs.length → relRows w O m ls k b (off + n * k) (xs.drop n)
  | xs, off, 0, h, _ => by simpa using h
  | [], off, n + 1, _, hn => by simp at hn
  | x :: xs, off, n + 1, h, hn => by
    simp only [relRows] at h
    have := relRows_drop n h.2.2 (by simpa using hn)
    rw [show off + (n + 1) * k = off + k + n * k by rw [Nat.add_mul]; omega]
    simpa using this

theorem relRows_take {k b : Nat} : ∀ {xs : List (List A)} {off : Nat} (n : Nat), relRows w O m ls k b off xs → relRows w O m ls k b off (xs.take n)
  | xs, off, 0, _ => by simp [relRows]
  | [], off, n + 1, _ => by simp [relRows]
  | x :: xs, off, n + 1, h => by
    simp only [relRows] at h
    simp only [List.take_succ_cons, relRows]
    exact ⟨h.1, h.2.1, relRows_take n h.2.2⟩

theorem rows_of_flat {O : Nat → Prop} {ls : List Nat} {k b : Nat} : ∀ {xs : List (List A)} {vs : List Value} {off : Nat}, (∀ x ∈ xs, x.length = k) → relL w O m ls xs.flatten vs → Reads w b off vs → relRows w O m ls k b off xs
  | [], _, _, _, _, _ => by simp [relRows]
  | x :: xs, vs, off, hk, h, hr => by
    simp only [relRows]
    have hx := hk x (by simp)
    have h1 : relL w O m ls x (vs.take k) := by
      have := relL_take k h
      rw [List.flatten_cons, ← hx, List.take_left' rfl] at this
      rw [← hx]; exact this
    have h2 : relL w O m ls xs.flatten (vs.drop k) := by
      have := relL_drop k h
      rw [List.flatten_cons, ← hx, List.drop_left' rfl] at this
      rw [← hx]; exact this
    exact ⟨hx, cells_of_reads h1 (hr.take k), rows_of_flat (fun y hy => hk y (by simp [hy])) h2 (hr.drop k)⟩

end

section
variable {P : Program} {o : Oper} {ρ : Operand → A} {bx : List (List A)} {rw : List (Nat × List (List A))}

/-- The cells behind an abstract address, from it on. -/
def cellsAt (bx : List (List A)) (rw : List (Nat × List (List A))) : A → Option (List A)
  | .ptr id off => (bx[id]?).map (·.drop off)
  | .elt cs off => some (cs.drop off)
  | .rptr id n k i j => (rw[id]?).bind fun r => if r.2.length = n ∧ r.1 = k then (r.2[i]?).map (·.drop j) else none
  | _ => none

theorem reads_at {w : World} {O0 : Nat → Prop} {m : M} (hs : Store w O0 m bx rw) {a : A} {v : Value} {cs : List A} (hr : rel w (Ow O0 m) m (lens rw) a v) (hc : cellsAt bx rw a = some cs) :
    ∃ b off vs, v = .pointer (some ⟨b, off, none⟩) ∧ relL w (Ow O0 m) m (lens rw) cs vs ∧ Reads w b off vs := by
  cases a with
  | ptr id off =>
    simp only [rel] at hr
    obtain ⟨b, h1, rfl⟩ := hr
    simp only [cellsAt, Option.map_eq_some_iff] at hc
    obtain ⟨xs, h2, rfl⟩ := hc
    obtain ⟨c, T, h3, h4⟩ := hs.box id b xs h1 h2
    refine ⟨b, off, c.toList.drop off, rfl, relL_drop _ h4, ?_⟩
    have := (Reads.block h3).drop off
    simpa using this
  | elt xs off =>
    simp only [rel] at hr
    obtain ⟨b, o, rfl, _, _, h4⟩ := hr
    simp only [cellsAt, Option.some.injEq] at hc
    subst hc
    obtain ⟨vs, h5, h6⟩ := relCells_reads h4
    exact ⟨b, o + off, vs.drop off, rfl, relL_drop _ h5, h6.drop off⟩
  | rptr id n k i j =>
    simp only [rel] at hr
    obtain ⟨l, h1, h2, _, h3⟩ := hr
    simp only [cellsAt, Option.bind_eq_some_iff] at hc
    obtain ⟨⟨k', xs⟩, h4, h5⟩ := hc
    simp only at h5
    by_cases hn : xs.length = n ∧ k' = k
    · rw [if_pos hn] at h5
      obtain ⟨hn, rfl⟩ := hn
      simp only [Option.map_eq_some_iff] at h5
      obtain ⟨x, h8, rfl⟩ := h5
      have hl : l = n := by
        simp only [lens, List.getElem?_map, h4, Option.map_some, Option.some.injEq] at h1
        omega
      obtain ⟨b, cap, h6, rfl⟩ := h3 hl.symm
      have h7 := hs.row id _ k' xs h6 h4
      obtain ⟨g1, g2, g3, c, T, g4, g5, g6⟩ := h7
      have h9 := relRows_get (rows_of_flat (off := 0) g3 g6 ((Reads.block g4).take _)) h8
      obtain ⟨vs, h10, h11⟩ := relCells_reads h9.2
      refine ⟨b, i * k' + j, vs.drop j, rfl, relL_drop _ h10, ?_⟩
      have := h11.drop j
      simpa using this
    · rw [if_neg hn] at h5; cases h5
  | _ => simp [cellsAt] at hc

theorem q_load {t : TypeId} {x : Operand} (ho : o.op = .load t x) {i : TI} (ht : TI.ok P t i) (hk : i.kind.known = true) (h1 : i.kind.plain = true → i.size = 1) {cs : List A}
    (hc : cellsAt bx rw (ρ x) = some cs) (hl : i.size ≤ cs.length) : QOp P o ρ bx rw (loadA i cs) := by
  intro w O0 m ev hs hr
  have hx := hr x (by simp [ho, Op.operands])
  obtain ⟨b, off, vs, h2, h3, h4⟩ := reads_at hs hx hc
  obtain ⟨v, h5, h6⟩ := run_loadVarA (P := P) ht hk h3 h4 hl h1
  simp only [execOp, ho, Instr.loadAt, h2, Instr.sureAddr, Sem.run_bind, Sem.run_pure, Result.andThen_ok, h5, QUpon]
  exact ⟨below_refl w, h6⟩

/-- An address moved on. -/
def addrAdd : A → Nat → Option A
  | .ptr id off, n => some (.ptr id (off + n))
  | .elt cs off, n => some (.elt cs (off + n))
  | .rptr id l k i j, n => some (.rptr id l k i (j + n))
  | _, _ => none

theorem rel_addrAdd {w : World} {O : Nat → Prop} {m : M} {ls : List Nat} {a r : A} {n : Nat} (h : addrAdd a n = some r) {v : Value} (hv : rel w O m ls a v) :
    (∃ b off, v = .pointer (some ⟨b, off, none⟩) ∧ rel w O m ls r (.pointer (some ⟨b, off + n, none⟩))) ∨ (∃ id l k i j, a = .rptr id l k i j) := by
  cases a <;> simp only [addrAdd, Option.some.injEq, reduceCtorEq] at h
  case ptr id off =>
    subst h
    simp only [rel] at hv
    obtain ⟨b, h1, rfl⟩ := hv
    exact Or.inl ⟨b, off, rfl, by simp only [rel]; exact ⟨b, h1, rfl⟩⟩
  case elt cs off =>
    subst h
    simp only [rel] at hv
    obtain ⟨b, o, rfl, h2, h3, h4⟩ := hv
    exact Or.inl ⟨b, o + off, rfl, by simp only [rel]; exact ⟨b, o, by simp [Nat.add_assoc], h2, h3, h4⟩⟩
  case rptr id l k i j => exact Or.inr ⟨id, l, k, i, j, rfl⟩

theorem fieldPlace_run {P : Program} {b off : Nat} {f : Field} {i : TI} (hi : TI.ok P f.type i) (h0 : i.size ≠ 0) (w : World) : (fieldPlace ⟨b, off, none⟩ f).run P w = .ok ⟨b, off + f.offset, none⟩ w := by
  simp only [fieldPlace, Sem.run_bind, hi.run_sizeOf w, Result.andThen_ok]
  rw [if_neg h0, add_eq]
  rfl

theorem q_fieldAddr {s : TypeId} {x : Operand} {f : Nat} (ho : o.op = .fieldAddr s x f) {fs : List (Nat × Nat)} (ht : (TK.struct fs).desc P s) {off t : Nat} (hf : fs[f]? = some (off, t)) {i : TI} (hi : TI.ok P t i) (h0 : i.size ≠ 0) {r : A}
    (hn : (∀ id l k i j, ρ x ≠ .rptr id l k i j) ∨ ∃ id l k i j xs, ρ x = .rptr id l k i j ∧ rw[id]? = some xs ∧ xs.2.length = l) (ha : addrAdd (ρ x) off = some r) : QOp P o ρ bx rw r := by
  intro w O0 m ev hs hr
  have hx := hr x (by simp [ho, Op.operands])
  obtain ⟨g, h1, h2⟩ := ht
  have h3 : ∃ fd, g[f]? = some fd ∧ fd.offset = off ∧ fd.type = t := by
    rw [← h2] at hf
    simp only [List.getElem?_map, Option.map_eq_some_iff] at hf
    obtain ⟨fd, h4, h5⟩ := hf
    exact ⟨fd, by simpa using h4, by simpa using congrArg Prod.fst h5, by simpa using congrArg Prod.snd h5⟩
  obtain ⟨fd, h4, h5, h8⟩ := h3
  have key : ∃ b o', ev x = .pointer (some ⟨b, o', none⟩) ∧ rel w (Ow O0 m) m (lens rw) r (.pointer (some ⟨b, o' + off, none⟩)) := by
    rcases rel_addrAdd ha hx with h | ⟨id, k, kk, i, j, e⟩
    · exact h
    · rcases hn with hn | ⟨id', k', kk', i', j', xs, e', h6, h7⟩
      · exact (hn _ _ _ _ _ e).elim
      · rw [e] at e'
        cases e'
        rw [e] at hx ha
        simp only [addrAdd, Option.some.injEq] at ha
        subst ha
        simp only [rel] at hx ⊢
        obtain ⟨l, g1, g2, _, g3⟩ := hx
        have hl : k = l := by
          simp only [lens, List.getElem?_map, h6, Option.map_some, Option.some.injEq] at g1
          omega
        obtain ⟨b, cap, g4, g5⟩ := g3 hl
        exact ⟨b, i * kk + j, g5, l, g1, g2, ⟨_, rfl⟩, fun _ => ⟨b, cap, g4, by simp [Nat.add_assoc]⟩⟩
  obtain ⟨b, o', h6, h7⟩ := key
  have hp := fieldPlace_run (P := P) (b := b) (off := o') (f := fd) (by rw [h8]; exact hi) h0 w
  simp only [execOp, ho, Instr.fieldAt, h6, Instr.sureAddr, Sem.run_bind, Sem.run_pure, Result.andThen_ok, run_underlying h1, h4, hp, h5, QUpon]
  exact ⟨below_refl w, h7⟩

theorem q_field {s : TypeId} {x : Operand} {f : Nat} (ho : o.op = .field s x f) {fs : List (Nat × Nat)} (ht : (TK.struct fs).desc P s) {off t : Nat} (hf : fs[f]? = some (off, t)) {i : TI} (hi : TI.ok P t i)
    (hk : i.kind.known = true) (h1 : i.kind.plain = true → i.size = 1) {cs : List A} (hx : ρ x = .agg cs) (hl : off + i.size ≤ cs.length) : QOp P o ρ bx rw (loadA i (cs.drop off)) := by
  intro w O0 m ev hs hr
  have hx' := hr x (by simp [ho, Op.operands])
  rw [hx] at hx'
  simp only [rel] at hx'
  obtain ⟨vs, h2, h3⟩ := hx'
  obtain ⟨g, g1, g2⟩ := ht
  have g3 : ∃ fd, g[f]? = some fd ∧ fd.offset = off ∧ fd.type = t := by
    rw [← g2] at hf
    simp only [List.getElem?_map, Option.map_eq_some_iff] at hf
    obtain ⟨fd, h4, h5⟩ := hf
    exact ⟨fd, by simpa using h4, by simpa using congrArg Prod.fst h5, by simpa using congrArg Prod.snd h5⟩
  obtain ⟨fd, g4, rfl, rfl⟩ := g3
  have hlen := relL_length h3
  have h4 := relL_drop fd.offset h3
  simp only [execOp, ho, Instr.field, h2, asAgg, part, Sem.run_bind, Sem.run_pure, Result.andThen_ok, run_underlying g1, g4, hi.run_isAgg w (TK.known_or hk)]
  unfold loadA
  cases hp : i.kind.plain with
  | true =>
    have h1 := h1 hp
    have hlt : fd.offset < vs.length := by omega
    rw [List.drop_eq_getElem_cons hlt] at h4
    cases hd : cs.drop fd.offset with
    | nil => have := congrArg List.length hd; simp at this; omega
    | cons c r =>
      rw [hd] at h4
      simp only [relL, List.cons.injEq] at h4
      obtain ⟨v, r', ⟨rfl, rfl⟩, h5, _⟩ := h4
      simp [hlt, QUpon]
      exact ⟨below_refl w, h5⟩
  | false =>
    simp only [Bool.not_false, if_true, Sem.run_bind, hi.run_sizeOf w, Result.andThen_ok, Sem.run_pure, QUpon]
    refine ⟨below_refl w, ?_⟩
    show rel w (Ow O0 m) m (lens rw) (.agg _) _
    simp only [rel]
    refine ⟨(vs.drop fd.offset).take i.size, ?_, relL_take _ h4⟩
    congr 1
    apply Array.ext'
    simp [List.extract_eq_take_drop]

theorem q_indexAddr {t : TypeId} {x ix : Operand} (ho : o.op = .indexAddr t x ix) {e : Nat} (ht : P.underlying t = some (.slice e)) {i : TI} (hi : TI.ok P e i) {k : Nat} {xs : List (List A)} (hk : i.size = k)
    (hx : ρ x = .sl k xs) {ik : IntKind} {n : Int} (hn : ρ ix = .val (.int ik n)) (h0 : 0 ≤ n) (h1 : n < (xs.length : Int)) : QOp P o ρ bx rw (.elt (xs.getD n.toNat []) 0) := by
  intro w O0 m ev hs hr
  have hx' := hr x (by simp [ho, Op.operands])
  have hn' := hr ix (by simp [ho, Op.operands])
  rw [hx] at hx'
  rw [hn] at hn'
  simp only [rel] at hx' hn'
  obtain ⟨a, cap, h2, h3, h4, h5⟩ := hx'
  rcases h5 with h5 | ⟨b, off, h5, h6, h7, h8⟩
  · subst h5; simp at h1; omega
  have hlt : n.toNat < xs.length := by omega
  have hg := relRows_get h8 (List.getElem?_eq_getElem hlt)
  have hb : 0 ≤ n ∧ n < (xs.length : Int) := ⟨h0, h1⟩
  simp only [execOp, ho, Instr.indexAt, h2, hn', h5, asIntOf, Sem.run_bind, Sem.run_pure, Result.andThen_ok, run_underlying ht, hb, and_self, if_true, hi.run_sizeOf w, add_eq, QUpon, Sem.run_ite]
  refine ⟨below_refl w, ?_⟩
  simp only [rel]
  refine ⟨b, off + n.toNat * k, by rw [hk]; simp, h6, h7, ?_⟩
  rw [List.getD_eq_getElem?_getD, List.getElem?_eq_getElem hlt]
  exact hg.2

theorem q_indexAddrRow {t : TypeId} {x ix : Operand} (ho : o.op = .indexAddr t x ix) {e : Nat} (ht : P.underlying t = some (.slice e)) {i : TI} (hi : TI.ok P e i) {id l k : Nat} {xs : List (List A)}
    (hx : ρ x = .row id l) (hid : rw[id]? = some (k, xs)) (hl : xs.length = l) {ik : IntKind} {n : Int} (hn : ρ ix = .val (.int ik n)) (h0 : 0 ≤ n) (h1 : n < (l : Int)) :
    QOp P o ρ bx rw (.rptr id l i.size n.toNat 0) := by
  intro w O0 m ev hs hr
  have hx' := hr x (by simp [ho, Op.operands])
  have hn' := hr ix (by simp [ho, Op.operands])
  rw [hx] at hx'
  rw [hn] at hn'
  simp only [rel] at hx' hn'
  obtain ⟨l', g1, g2, _, g3⟩ := hx'
  have hll : l = l' := by
    simp only [lens, List.getElem?_map, hid, Option.map_some, Option.some.injEq] at g1
    omega
  obtain ⟨h, g4, g5⟩ := g3 hll
  have hrow := hs.row id h k xs g4 hid
  cases h with
  | none => simp only [rowOk] at hrow; subst hrow; simp at hl; omega
  | some bc =>
    obtain ⟨b, cap⟩ := bc
    simp only [hdr] at g5
    have hb : 0 ≤ n ∧ n < (l : Int) := ⟨h0, h1⟩
    simp only [execOp, ho, Instr.indexAt, g5, hn', asIntOf, Sem.run_bind, Sem.run_pure, Result.andThen_ok, run_underlying ht, hb, and_self, if_true, hi.run_sizeOf w, add_eq, QUpon, Sem.run_ite]
    refine ⟨below_refl w, ?_⟩
    simp only [rel]
    exact ⟨l', g1, g2, ⟨_, rfl⟩, fun _ => ⟨b, cap, g4, by simp⟩⟩

theorem q_makeFunc {g : FuncId} {cs : Array Operand} (ho : o.op = .makeFunc (.func g) #[] cs) : QOp P o ρ bx rw (.fn g (cs.toList.map ρ)) := by
  intro w O0 m ev hs hr
  have h : ∀ l : List Operand, (∀ x ∈ l, rel w (Ow O0 m) m (lens rw) (ρ x) (ev x)) → relL w (Ow O0 m) m (lens rw) (l.map ρ) (l.map ev) := by
    intro l
    induction l with
    | nil => intro _; simp [relL]
    | cons x l ih => intro hl; simp only [List.map_cons, relL]; exact ⟨ev x, _, rfl, hl x (by simp), ih fun y hy => hl y (by simp [hy])⟩
  have h2 := h cs.toList fun x hx => hr x (by simp [ho, Op.operands]; simpa using hx)
  simp only [execOp, ho, Instr.makeFunc, Sem.run_bind, Sem.run_pure, Result.andThen_ok, QUpon]
  refine ⟨below_refl w, ?_⟩
  simp only [rel]
  have e : (cs.toList.map ev).toArray = cs.map ev := by rw [← Array.toList_map, Array.toArray_toList]
  exact ⟨cs.toList.map ev, by rw [e]; simp, h2⟩

theorem q_extract {x : Operand} {n : Nat} (ho : o.op = .extract x n) {cs : List A} (hx : ρ x = .tup cs) {c : A} (hc : cs[n]? = some c) : QOp P o ρ bx rw c := by
  intro w O0 m ev hs hr
  have hx' := hr x (by simp [ho, Op.operands])
  rw [hx] at hx'
  simp only [rel] at hx'
  obtain ⟨vs, h2, h3⟩ := hx'
  obtain ⟨v, h4, h5⟩ := relL_get h3 hc
  simp only [execOp, ho, Instr.extract, h2, Sem.run_bind, List.getElem?_toArray, h4, Sem.run_pure, Result.andThen_ok, QUpon]
  exact ⟨below_refl w, h5⟩

def isAddr : A → Bool | .ptr _ _ => true | .elt _ _ => true | .fn _ _ => true | _ => false

theorem q_nilCheck {x : Operand} (ho : o.op = .nilCheck x) (hx : isAddr (ρ x) = true) : QOp P o ρ bx rw (ρ x) := by
  intro w O0 m ev hs hr
  have hx' := hr x (by simp [ho, Op.operands])
  have key : (execOp ev o).run P w = .ok (.value (ev x)) w := by
    cases hρ : ρ x <;> rw [hρ] at hx hx' <;> simp [isAddr] at hx <;> simp only [rel] at hx'
    case elt cs off => obtain ⟨b, o', h1, _⟩ := hx'; simp [execOp, ho, h1]
    case ptr id off => obtain ⟨b, _, h1⟩ := hx'; simp [execOp, ho, h1]
    case fn f caps => obtain ⟨vs, h1, _⟩ := hx'; simp [execOp, ho, h1]
  rw [key]
  exact ⟨below_refl w, hx'⟩

theorem q_len {xs : Array Operand} {ts : Array TypeId} {x : Operand} (ho : o.op = .call { callee := .builtin .len, args := xs, argTypes := ts }) (hxs : xs = #[x]) {t : TypeId} (hts : ts = #[t]) {r : Nat}
    (hx : (∃ e, ρ x = .emp ∧ 0 = r ∧ P.underlying t = some (.slice e)) ∨ (∃ k l e, ρ x = .sl k l ∧ l.length = r ∧ P.underlying t = some (.slice e)) ∨ (∃ id l e, ρ x = .row id l ∧ l = r ∧ (∃ q, rw[id]? = some q ∧ q.2.length = l) ∧ P.underlying t = some (.slice e)) ∨
      (∃ s, ρ x = .val (.string s) ∧ s.size = r ∧ P.underlying t = some .string)) : QOp P o ρ bx rw (.val (.int .i64 r)) := by
  subst hxs hts
  intro w O0 m ev hs hr
  have hx' := hr x (by simp [ho, Op.operands, Call.operands])
  have key : (execOp ev o).run P w = .ok (.value (.int .i64 r)) w := by
    rcases hx with ⟨e, h1, rfl, h3⟩ | ⟨k, l, e, h1, h2, h3⟩ | ⟨id, l, e, h1, rfl, ⟨q, h4, h5⟩, h3⟩ | ⟨s, h1, h2, h3⟩
    · rw [h1] at hx'
      simp only [rel] at hx'
      obtain ⟨a, h4⟩ := hx'
      simp [execOp, ho, resolve, invoke, builtin, Builtin.len_, h4, run_underlying h3, goInt]
    · rw [h1] at hx'
      simp only [rel] at hx'
      obtain ⟨a, cap, h4, _⟩ := hx'
      subst h2
      simp [execOp, ho, resolve, invoke, builtin, Builtin.len_, h4, run_underlying h3, goInt]
    · rw [h1] at hx'
      simp only [rel] at hx'
      obtain ⟨l', g1, g2, _, g3⟩ := hx'
      have hll : l = l' := by
        simp only [lens, List.getElem?_map, h4, Option.map_some, Option.some.injEq] at g1
        omega
      obtain ⟨h, g4, g5⟩ := g3 hll
      have hv : ∃ a c, ev x = .slice a l c := by
        cases h with
        | none => simp only [hdr] at g5; obtain ⟨a, g5⟩ := g5; exact ⟨a, 0, g5⟩
        | some bc => exact ⟨_, _, g5⟩
      obtain ⟨a, c, hv⟩ := hv
      simp [execOp, ho, resolve, invoke, builtin, Builtin.len_, hv, run_underlying h3, goInt]
    · rw [h1] at hx'
      simp only [rel] at hx'
      subst h2
      simp [execOp, ho, resolve, invoke, builtin, Builtin.len_, hx', run_underlying h3, goInt]
  rw [key]
  exact ⟨below_refl w, by simp [rel]⟩

theorem q_max {xs : Array Operand} {ts : Array TypeId} {x y : Operand} (ho : o.op = .call { callee := .builtin .max, args := xs, argTypes := ts }) (hxs : xs = #[x, y]) {k : IntKind} {a b : Int}
    (hx : ρ x = .val (.int k a)) (hy : ρ y = .val (.int k b)) : QOp P o ρ bx rw (.val (.int k (if b > a then b else a))) := by
  subst hxs
  refine q_val fun w ev h => ?_
  have h1 := h x (by simp [ho, Op.operands, Call.operands]) _ hx
  have h2 := h y (by simp [ho, Op.operands, Call.operands]) _ hy
  simp [execOp, ho, resolve, invoke, builtin, Builtin.max_, Builtin.max2, h1, h2]

theorem q_min {xs : Array Operand} {ts : Array TypeId} {x y : Operand} (ho : o.op = .call { callee := .builtin .min, args := xs, argTypes := ts }) (hxs : xs = #[x, y]) {k : IntKind} {a b : Int}
    (hx : ρ x = .val (.int k a)) (hy : ρ y = .val (.int k b)) : QOp P o ρ bx rw (.val (.int k (if b < a then b else a))) := by
  subst hxs
  refine q_val fun w ev h => ?_
  have h1 := h x (by simp [ho, Op.operands, Call.operands]) _ hx
  have h2 := h y (by simp [ho, Op.operands, Call.operands]) _ hy
  simp [execOp, ho, resolve, invoke, builtin, Builtin.min_, Builtin.min2, h1, h2]

/-- A slice of a slice, within its length. -/
theorem q_slice {t : TypeId} {x : Operand} {lo hi : Option Operand} (ho : o.op = .slice t x lo hi none) {e : Nat} (ht : P.underlying t = some (.slice e)) {i : TI} (hi' : TI.ok P e i) {k : Nat} {xs : List (List A)} (hk : i.size = k)
    (hx : ρ x = .sl k xs ∨ (xs = [] ∧ ρ x = .emp)) {l h : Nat} (hl : (lo = none ∧ l = 0) ∨ ∃ y ik, lo = some y ∧ ρ y = .val (.int ik l)) (hh : (hi = none ∧ h = xs.length) ∨ ∃ y ik, hi = some y ∧ ρ y = .val (.int ik h))
    (h1 : l ≤ h) (h2 : h ≤ xs.length) : QOp P o ρ bx rw (.sl k ((xs.take h).drop l)) := by
  intro w O0 m ev hs hr
  have hx' := hr x (by simp [ho, Op.operands])
  have hx2 : ∃ a cap, ev x = .slice a xs.length cap ∧ xs.length ≤ cap ∧ cap ≤ 9223372036854775807 ∧ (xs = [] ∨ ∃ b off, a = some ⟨b, off, none⟩ ∧ b < w.heap.size ∧ ¬ Ow O0 m b ∧ relRows w (Ow O0 m) m (lens rw) k b off xs) := by
    rcases hx with hx | ⟨rfl, hx⟩
    · rw [hx] at hx'; simpa only [rel] using hx'
    · rw [hx] at hx'
      simp only [rel] at hx'
      obtain ⟨a, g1⟩ := hx'
      exact ⟨a, 0, g1, by simp, by omega, Or.inl rfl⟩
  obtain ⟨a, cap, g1, g2, g3, g4⟩ := hx2
  have hcap : h ≤ cap := Nat.le_trans h2 g2
  have hb : (Instr.sliceBounds true xs.length cap (lo.map ev) (hi.map ev) none).run P w = .ok (l, h, cap) w := by
    have e1 : ∀ y, lo = some y → rel w (Ow O0 m) m (lens rw) (ρ y) (ev y) := fun y hy => hr y (by simp [ho, Op.operands, hy])
    have e2 : ∀ y, hi = some y → rel w (Ow O0 m) m (lens rw) (ρ y) (ev y) := fun y hy => hr y (by simp [ho, Op.operands, hy])
    rcases hl with ⟨rfl, rfl⟩ | ⟨y, ik, rfl, hy⟩ <;> rcases hh with ⟨rfl, rfl⟩ | ⟨z, ik', rfl, hz⟩
    · simp [Instr.sliceBounds]
    · have := e2 z rfl; rw [hz] at this; simp only [rel] at this
      simp [Instr.sliceBounds, Instr.sliceBound, this, asIntOf, hcap]
    · have := e1 y rfl; rw [hy] at this; simp only [rel] at this
      simp [Instr.sliceBounds, Instr.sliceBound, this, asIntOf, h1]
    · have := e1 y rfl; rw [hy] at this; simp only [rel] at this
      have h' := e2 z rfl; rw [hz] at h'; simp only [rel] at h'
      simp [Instr.sliceBounds, Instr.sliceBound, this, h', asIntOf, h1, hcap]
  simp only [execOp, ho, Instr.sliceAt, g1, Sem.run_bind, run_underlying ht, Result.andThen_ok, Instr.slice, Option.map_none, hb, hi'.run_sizeOf w, Sem.run_pure, QUpon]
  refine ⟨below_refl w, ?_⟩
  simp only [rel]
  have hlen : ((xs.take h).drop l).length = h - l := by simp; omega
  rw [hlen]
  refine ⟨_, cap - l, rfl, by omega, by omega, ?_⟩
  by_cases hlh : l = h
  · left; subst hlh; simp
  · right
    have hne : xs ≠ [] := by intro e; subst e; simp at h2; omega
    obtain ⟨b, off, rfl, g5, g6, g7⟩ := g4.resolve_left hne
    refine ⟨b, off + l * k, ?_, g5, g6, ?_⟩
    · rw [if_neg (by omega)]; simp [add_eq, hk]
    · exact relRows_drop l (relRows_take h g7) (by simp; omega)

theorem q_sliceS {t : TypeId} {x : Operand} {lo hi : Option Operand} (ho : o.op = .slice t x lo hi none) (ht : P.underlying t = some .string) {s : ByteArray} (hx : ρ x = .val (.string s))
    {l h : Nat} (hl : (lo = none ∧ l = 0) ∨ ∃ y ik, lo = some y ∧ ρ y = .val (.int ik l)) (hh : (hi = none ∧ h = s.size) ∨ ∃ y ik, hi = some y ∧ ρ y = .val (.int ik h))
    (h1 : l ≤ h) (h2 : h ≤ s.size) : QOp P o ρ bx rw (.val (.string (s.extract l h))) := by
  refine q_val fun w ev hv => ?_
  have g1 := hv x (by simp [ho, Op.operands]) _ hx
  have hb : (Instr.sliceBounds false s.size s.size (lo.map ev) (hi.map ev) none).run P w = .ok (l, h, s.size) w := by
    rcases hl with ⟨rfl, rfl⟩ | ⟨y, ik, rfl, hy⟩ <;> rcases hh with ⟨rfl, rfl⟩ | ⟨z, ik', rfl, hz⟩
    · simp [Instr.sliceBounds]
    · have := hv z (by simp [ho, Op.operands]) _ hz
      simp [Instr.sliceBounds, Instr.sliceBound, this, asIntOf, h2]
    · have := hv y (by simp [ho, Op.operands]) _ hy
      simp [Instr.sliceBounds, Instr.sliceBound, this, asIntOf, h1]
    · have := hv y (by simp [ho, Op.operands]) _ hy
      have h' := hv z (by simp [ho, Op.operands]) _ hz
      simp [Instr.sliceBounds, Instr.sliceBound, this, h', asIntOf, h1, h2]
  simp only [execOp, ho, Instr.sliceAt, g1, Sem.run_bind, run_underlying ht, Result.andThen_ok, Instr.slice, Option.map_none, hb, Option.isSome_none, Bool.false_eq_true, if_false, Sem.run_pure]

end
end Go.Proofs.Ytgedhnhgkmhgcaa.Abs
