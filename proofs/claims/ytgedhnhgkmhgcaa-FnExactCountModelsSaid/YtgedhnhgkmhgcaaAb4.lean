/- THE OPERATIONS OVER ABSTRACT VALUES: those that leave the store alone. -/
import Derived.Test.YtgedhnhgkmhgcaaAb3
namespace Go.Proofs.Ytgedhnhgkmhgcaa.Abs
open Go Go.RowKit

/-! ### What is known of the types -/
inductive TK where
  | int (k : IntKind) | str | bool | slice (e : Nat) | struct (fs : List (Nat × Nat)) | fn | map (k e : Nat) | ptr (e : Nat) | other

structure TI where
  kind : TK
  size : Nat
  bytes : Nat
  zero : Value

def TK.plain : TK → Bool | .struct _ => false | .other => false | _ => true

def TK.desc (P : Program) (t : Nat) : TK → Prop
  | .int k => P.underlying t = some (.int k)
  | .str => P.underlying t = some .string
  | .bool => P.underlying t = some .bool
  | .slice e => P.underlying t = some (.slice e)
  | .struct fs => ∃ g, P.underlying t = some (.struct g) ∧ g.toList.map (fun f => (f.offset, f.type)) = fs
  | .fn => ∃ a b c, P.underlying t = some (.func a b c)
  | .map k e => P.underlying t = some (.map k e)
  | .ptr e => P.underlying t = some (.pointer e)
  | .other => True

structure TI.ok (P : Program) (t : Nat) (i : TI) : Prop where
  desc : i.kind.desc P t
  info : (P.info? t).map (fun j => (j.size, j.bytes, j.zero)) = some (i.size, i.bytes, some i.zero)
  zsize : i.zero.cells.size = i.size

def TyOk (P : Program) (D : Nat → Option TI) : Prop := ∀ t i, D t = some i → TI.ok P t i

theorem TI.ok.run_isAgg {P : Program} {t : Nat} {i : TI} (h : TI.ok P t i) (w : World) (hk : i.kind.plain = true ∨ ∃ fs, i.kind = .struct fs) : (isAgg t).run P w = .ok (!i.kind.plain) w := by
  have hd := h.desc
  cases hi : i.kind <;> simp only [hi, TK.desc, TK.plain] at hd hk ⊢
  case struct fs => obtain ⟨g, h1, _⟩ := hd; simp [isAgg, run_underlying h1]
  case fn => obtain ⟨a, b, c, h1⟩ := hd; simp [isAgg, run_underlying h1]
  case other => simp at hk
  all_goals simp [isAgg, run_underlying hd]

theorem TI.ok.some_info {P : Program} {t : Nat} {i : TI} (h : TI.ok P t i) : ∃ j, P.info? t = some j ∧ j.size = i.size ∧ j.bytes = i.bytes ∧ j.zero = some i.zero := by
  have h1 := h.info
  cases hj : P.info? t with
  | none => simp [hj] at h1
  | some j => simp [hj] at h1; exact ⟨j, rfl, h1.1, h1.2.1, h1.2.2⟩

theorem TI.ok.run_sizeOf {P : Program} {t : Nat} {i : TI} (h : TI.ok P t i) (w : World) : (sizeOf t).run P w = .ok i.size w := by
  obtain ⟨j, h1, h2, _⟩ := h.some_info
  simp [sizeOf, typeInfo, h1, h2]

theorem TI.ok.run_zero {P : Program} {t : Nat} {i : TI} (h : TI.ok P t i) (w : World) : (zeroValue t).run P w = .ok i.zero w := by
  obtain ⟨j, h1, _, _, h4⟩ := h.some_info
  simp [zeroValue, typeInfo, h1, h4]

/-! ### Reading memory -/

/-- The cells from an address on hold these values. -/
def Reads (w : World) (b off : Nat) (vs : List Value) : Prop := ∀ j v, vs[j]? = some v → w.cell? ⟨b, off + j, none⟩ = some v

section
variable {w : World} {O : Nat → Prop} {m : M} {ls : List Nat}

theorem relCells_reads : ∀ {cs : List A} {b off : Nat}, relCells w O m ls b off cs → ∃ vs, relL w O m ls cs vs ∧ Reads w b off vs
  | [], b, off, _ => ⟨[], by simp [relL], fun j v h => by simp at h⟩
  | c :: cs, b, off, h => by
    simp only [relCells] at h
    obtain ⟨⟨v, h1, h2⟩, h3⟩ := h
    obtain ⟨vs, h4, h5⟩ := relCells_reads h3
    refine ⟨v :: vs, ?_, fun j u hj => ?_⟩
    · simp only [relL]; exact ⟨v, vs, rfl, h2, h4⟩
    · cases j with
      | zero => simp at hj; subst hj; exact h1
      | succ j => simp at hj; have := h5 j u hj; rwa [show off + 1 + j = off + (j + 1) by omega] at this

theorem cells_of_reads : ∀ {cs : List A} {vs : List Value} {b off : Nat}, relL w O m ls cs vs → Reads w b off vs → relCells w O m ls b off cs
  | [], _, _, _, _, _ => by simp [relCells]
  | c :: cs, vs, b, off, h, hr => by
    simp only [relL] at h
    obtain ⟨v, r, rfl, h2, h3⟩ := h
    simp only [relCells]
    refine ⟨⟨v, by simpa using hr 0 v (by simp), h2⟩, cells_of_reads h3 fun j u hj => ?_⟩
    have := hr (j + 1) u (by simpa using hj)
    rwa [show off + (j + 1) = off + 1 + j by omega] at this

theorem Reads.drop {b off : Nat} {vs : List Value} (h : Reads w b off vs) (n : Nat) : Reads w b (off + n) (vs.drop n) := fun j v hj => by
  have := h (n + j) v (by simpa using hj)
  rwa [show off + (n + j) = off + n + j by omega] at this

theorem Reads.take {b off : Nat} {vs : List Value} (h : Reads w b off vs) (n : Nat) : Reads w b off (vs.take n) := fun j v hj => by
  have : j < n := by
    have := (List.getElem?_eq_some_iff.1 hj).1
    simp at this
    omega
  exact h j v (by simpa [List.getElem?_take, this] using hj)

theorem Reads.block {b : Nat} {c : Array Value} {T : TypeId} {fz : Nat × Nat} (h : w.heap[b]? = some (.cells c T fz)) : Reads w b 0 c.toList := fun j v hj => by
  simp only [World.cell?, h, Nat.zero_add]
  simpa using hj

theorem relL_drop : ∀ {cs : List A} {vs : List Value} (n : Nat), relL w O m ls cs vs → relL w O m ls (cs.drop n) (vs.drop n)
  | cs, vs, 0, h => by simpa using h
  | [], vs, n + 1, h => by simp only [relL] at h; subst h; simp [relL]
  | c :: cs, vs, n + 1, h => by
    simp only [relL] at h
    obtain ⟨v, r, rfl, _, h3⟩ := h
    simpa using relL_drop n h3

theorem relL_take : ∀ {cs : List A} {vs : List Value} (n : Nat), relL w O m ls cs vs → relL w O m ls (cs.take n) (vs.take n)
  | cs, vs, 0, h => by simp [relL]
  | [], vs, n + 1, h => by simp only [relL] at h; subst h; simp [relL]
  | c :: cs, vs, n + 1, h => by
    simp only [relL] at h
    obtain ⟨v, r, rfl, h2, h3⟩ := h
    simp only [List.take_succ_cons, relL]
    exact ⟨v, _, rfl, h2, relL_take n h3⟩

/-- A variable's value out of its cells. -/
def loadA (i : TI) (cs : List A) : A := if i.kind.plain then cs.headD .top else .agg (cs.take i.size)

theorem add_eq (b off j : Nat) : (⟨b, off, none⟩ : Addr).add j = ⟨b, off + j, none⟩ := by
  unfold Addr.add
  by_cases h : j = 0
  · subst h; rfl
  · rw [if_neg h]

def TK.known : TK → Bool | .other => false | _ => true
theorem TK.known_or {k : TK} (h : k.known = true) : k.plain = true ∨ ∃ fs, k = .struct fs := by
  cases k <;> simp_all [TK.known, TK.plain]

theorem run_loadVarA {P : Program} {t : Nat} {i : TI} (h : TI.ok P t i) (hk : i.kind.known = true) {cs : List A} {vs : List Value} {b off : Nat} (hr : relL w O m ls cs vs) (hv : Reads w b off vs)
    (hl : i.size ≤ cs.length) (h1 : i.kind.plain = true → i.size = 1) : ∃ v, (loadVar t ⟨b, off, none⟩).run P w = .ok v w ∧ rel w O m ls (loadA i cs) v := by
  have hlen := relL_length hr
  unfold loadVar loadA
  simp only [Sem.run_bind, h.run_isAgg w (TK.known_or hk), Result.andThen_ok]
  cases hp : i.kind.plain with
  | true =>
    have h1 := h1 hp
    cases cs with
    | nil => simp at hl; omega
    | cons c cs =>
      simp only [relL] at hr
      obtain ⟨v, r, rfl, h2, _⟩ := hr
      refine ⟨v, ?_, by simpa using h2⟩
      have := hv 0 v (by simp)
      simp only [Nat.add_zero] at this
      simp [this]
  | false =>
    refine ⟨.agg (vs.take i.size).toArray, ?_, ?_⟩
    · have e : (vs.take i.size).length = i.size := by simp; omega
      have := run_loadCells_list (P := P) w ⟨b, off, none⟩ (vs.take i.size) (fun j v hj => by rw [add_eq]; exact hv.take i.size j v hj)
      rw [e] at this
      simp [h.run_sizeOf w, this]
    · show rel w O m ls (.agg (cs.take i.size)) _
      simp only [rel]; exact ⟨_, rfl, relL_take _ hr⟩

end

/-! ### The operations -/
section
variable {P : Program} {o : Oper} {ρ : Operand → A} {bx : List (List A)} {rw : List (Nat × List (List A))}

theorem below_refl (w : World) : Below w.heap.size w w := Below.refl _ w

theorem q_move {x : Operand} (ho : o.op = .move x) : QOp P o ρ bx rw (ρ x) := by
  intro w O0 m ev _ hr
  have hx := hr x (by simp [ho, Op.operands])
  simp only [execOp, ho, Sem.run_pure, QUpon]
  exact ⟨below_refl w, hx⟩

theorem q_assign {x : Operand} (ho : o.op = .assign x) : QOp P o ρ bx rw (ρ x) := by
  intro w O0 m ev _ hr
  have hx := hr x (by simp [ho, Op.operands])
  simp only [execOp, ho, Sem.run_pure, QUpon]
  exact ⟨below_refl w, hx⟩

theorem q_pick {c a b : Operand} (ho : o.op = .pick c a b) {t : Bool} (hc : ρ c = .val (.bool t)) : QOp P o ρ bx rw (if t then ρ a else ρ b) := by
  intro w O0 m ev _ hr
  have h1 := hr c (by simp [ho, Op.operands])
  have h2 := hr a (by simp [ho, Op.operands])
  have h3 := hr b (by simp [ho, Op.operands])
  rw [hc] at h1
  simp only [rel] at h1
  simp only [execOp, ho, h1, asBool, Sem.run_bind, Sem.run_pure, Result.andThen_ok, QUpon]
  cases t
  · exact ⟨below_refl w, h3⟩
  · exact ⟨below_refl w, h2⟩

/-- A value that the operation computes out of plain values. -/
theorem q_val {v : Value} (h : ∀ (w : World) (ev : Operand → Value), (∀ x ∈ o.op.operands, ∀ u, ρ x = .val u → ev x = u) → (execOp ev o).run P w = .ok (.value v) w) : QOp P o ρ bx rw (.val v) := by
  intro w O0 m ev _ hr
  rw [h w ev fun x hx u hu => by have := hr x hx; rw [hu] at this; simpa [rel] using this]
  exact ⟨below_refl w, by simp [rel]⟩

def cmpI (op : BinOp) (x y : Int) : Option Bool :=
  match op with
  | .eql => some (x == y) | .neq => some (x != y) | .lss => some (decide (x < y)) | .leq => some (decide (x ≤ y)) | .gtr => some (decide (x > y)) | .geq => some (decide (x ≥ y))
  | _ => none
def cmpS (op : BinOp) (x y : ByteArray) : Option Bool :=
  match op with
  | .eql => some (x.toList == y.toList) | .neq => some !(x.toList == y.toList) | .lss => some (Op.bytesLess x.toList y.toList) | .leq => some (Op.bytesLess x.toList y.toList || x.toList == y.toList)
  | .gtr => some !(Op.bytesLess x.toList y.toList || x.toList == y.toList) | .geq => some !(Op.bytesLess x.toList y.toList)
  | _ => none
def arI (op : BinOp) (k : IntKind) (x y : Int) : Option Int :=
  match op with
  | .add => some (k.wrap (x + y)) | .sub => some (k.wrap (x - y)) | .mul => some (k.wrap (x * y))
  | _ => none

theorem q_cmpI {op : BinOp} {t u : TypeId} {x y : Operand} (ho : o.op = .binOp op t x y u) {k : IntKind} {a b : Int} (hx : ρ x = .val (.int k a)) (hy : ρ y = .val (.int k b)) {r : Bool} (hc : cmpI op a b = some r) :
    QOp P o ρ bx rw (.val (.bool r)) := by
  refine q_val fun w ev h => ?_
  have h1 := h x (by simp [ho, Op.operands]) _ hx
  have h2 := h y (by simp [ho, Op.operands]) _ hy
  cases op <;> simp [cmpI] at hc <;> subst hc <;> simp [execOp, ho, h1, h2, eqGuard, binOp, Op.intCmp]

theorem q_arI {op : BinOp} {t u : TypeId} {x y : Operand} (ho : o.op = .binOp op t x y u) {k : IntKind} {a b : Int} (hx : ρ x = .val (.int k a)) (hy : ρ y = .val (.int k b)) {r : Int} (hc : arI op k a b = some r) :
    QOp P o ρ bx rw (.val (.int k r)) := by
  refine q_val fun w ev h => ?_
  have h1 := h x (by simp [ho, Op.operands]) _ hx
  have h2 := h y (by simp [ho, Op.operands]) _ hy
  cases op <;> simp [arI] at hc <;> subst hc <;> simp [execOp, ho, h1, h2, eqGuard, binOp, Op.intArith]

theorem q_cmpS {op : BinOp} {t u : TypeId} {x y : Operand} (ho : o.op = .binOp op t x y u) {a b : ByteArray} (hx : ρ x = .val (.string a)) (hy : ρ y = .val (.string b)) {r : Bool} (hc : cmpS op a b = some r) :
    QOp P o ρ bx rw (.val (.bool r)) := by
  refine q_val fun w ev h => ?_
  have h1 := h x (by simp [ho, Op.operands]) _ hx
  have h2 := h y (by simp [ho, Op.operands]) _ hy
  cases op <;> simp only [cmpS, Option.some.injEq, reduceCtorEq] at hc <;> subst hc <;> simp [execOp, ho, h1, h2, eqGuard, binOp, Op.stringOp]

theorem q_addS {t u : TypeId} {x y : Operand} (ho : o.op = .binOp .add t x y u) {a b : ByteArray} (hx : ρ x = .val (.string a)) (hy : ρ y = .val (.string b)) (hl : a.size + b.size ≤ 9223372036854775807) :
    QOp P o ρ bx rw (.val (.string (a ++ b))) := by
  refine q_val fun w ev h => ?_
  have h1 := h x (by simp [ho, Op.operands]) _ hx
  have h2 := h y (by simp [ho, Op.operands]) _ hy
  simp [execOp, ho, h1, h2, eqGuard, binOp, Op.stringOp]
  omega

theorem run_equalIn_bool {t : TypeId} (ht : P.underlying t = some .bool) (d : Nat) (a b : Bool) (w : World) : (Op.equalIn (d + 1) t (.bool a) (.bool b)).run P w = .ok (a == b) w := by
  simp [Op.equalIn, run_underlying ht]

theorem q_cmpB {op : BinOp} {t u : TypeId} {x y : Operand} (ho : o.op = .binOp op t x y u) {a b : Bool} (hx : ρ x = .val (.bool a)) (hy : ρ y = .val (.bool b)) (ht : P.underlying t = some .bool)
    {r : Bool} (hc : (op = .eql ∧ r = (a == b)) ∨ (op = .neq ∧ r = !(a == b))) : QOp P o ρ bx rw (.val (.bool r)) := by
  refine q_val fun w ev h => ?_
  have h1 := h x (by simp [ho, Op.operands]) _ hx
  have h2 := h y (by simp [ho, Op.operands]) _ hy
  have he := run_equalIn_bool ht 9999 a b w
  rcases hc with ⟨rfl, rfl⟩ | ⟨rfl, rfl⟩ <;> simp only [execOp, ho, h1, h2, eqGuard, binOp, Op.equal, Op.maxDepth] <;> simp [he]

/-- division and remainder by a number that is not 0 -/
theorem q_divI {op : BinOp} {t u : TypeId} {x y : Operand} (ho : o.op = .binOp op t x y u) {a b : Int} (hx : ρ x = .val (.int .i64 a)) (hy : ρ y = .val (.int .i64 b)) (hb : b ≠ 0)
    {r : Int} (hc : (op = .quo ∧ r = IntKind.i64.wrap (a.tdiv b)) ∨ (op = .rem ∧ r = a.tmod b)) : QOp P o ρ bx rw (.val (.int .i64 r)) := by
  refine q_val fun w ev h => ?_
  have h1 := h x (by simp [ho, Op.operands]) _ hx
  have h2 := h y (by simp [ho, Op.operands]) _ hy
  rcases hc with ⟨rfl, rfl⟩ | ⟨rfl, rfl⟩ <;> simp [execOp, ho, h1, h2, eqGuard, binOp, Op.intDiv, hb]

theorem q_not {t : TypeId} {x : Operand} (ho : o.op = .unOp .not t x) {a : Bool} (hx : ρ x = .val (.bool a)) : QOp P o ρ bx rw (.val (.bool !a)) := by
  refine q_val fun w ev h => ?_
  have h1 := h x (by simp [ho, Op.operands]) _ hx
  simp [execOp, ho, h1, Op.unary]

theorem q_neg {t : TypeId} {x : Operand} (ho : o.op = .unOp .neg t x) {k : IntKind} {a : Int} (hx : ρ x = .val (.int k a)) : QOp P o ρ bx rw (.val (.int k (k.wrap (0 - a)))) := by
  refine q_val fun w ev h => ?_
  have h1 := h x (by simp [ho, Op.operands]) _ hx
  simp [execOp, ho, h1, Op.unary, Op.intArith]

theorem q_convI {s d : TypeId} {x : Operand} (ho : o.op = .convert s d x) {k k' : IntKind} {a : Int} (hx : ρ x = .val (.int k a)) (hs : ∃ q, P.underlying s = some q) (hd : P.underlying d = some (.int k')) :
    QOp P o ρ bx rw (.val (.int k' (k'.wrap a))) := by
  obtain ⟨q, hs⟩ := hs
  refine q_val fun w ev h => ?_
  have h1 := h x (by simp [ho, Op.operands]) _ hx
  cases q <;> simp [execOp, ho, h1, convert, run_underlying hs, run_underlying hd, Conv.intToInt]

theorem q_index {t : TypeId} {x i : Operand} (ho : o.op = .index t x i) (ht : P.underlying t = some .string) {s : ByteArray} {k : IntKind} {n : Int} (hx : ρ x = .val (.string s)) (hi : ρ i = .val (.int k n))
    (h0 : 0 ≤ n) (hn : n.toNat < s.size) : QOp P o ρ bx rw (.val (.int .u8 ((s.data.toList.getD n.toNat 0).toNat : Int))) := by
  refine q_val fun w ev h => ?_
  have h1 := h x (by simp [ho, Op.operands]) _ hx
  have h2 := h i (by simp [ho, Op.operands]) _ hi
  have e : s[n.toNat]? = some s[n.toNat] := by simp [hn]
  have e2 : s.data.toList.getD n.toNat 0 = s[n.toNat] := by
    rw [List.getD_eq_getElem?_getD, List.getElem?_eq_getElem (by simpa using hn)]
    rfl
  rw [e2]
  simp [execOp, ho, h1, h2, Instr.index, asIntOf, run_underlying ht, h0, e]

end
end Go.Proofs.Ytgedhnhgkmhgcaa.Abs
