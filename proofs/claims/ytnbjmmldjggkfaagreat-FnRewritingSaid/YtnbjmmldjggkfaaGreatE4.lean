/- WHAT OPERATIONS COME TO, over plain data (1): numbers, strings, truth; the types' table; reading memory. -/
import Derived.Test.YtnbjmmldjggkfaaGreatE3
import Derived.Lib.Strings
namespace Go.Proofs.YtnbjmmldjggkfaaGreat.Abs
open Go Go.RowKit
noncomputable section

def I64 (n : Int) : Prop := -9223372036854775808 ≤ n ∧ n ≤ 9223372036854775807
/-- Never to be reckoned out by the kernel. -/
noncomputable instance (n : Int) : Decidable (I64 n) := Classical.propDecidable _

abbrev vi (n : Int) : A := .val (.int .i64 n)
abbrev vy (n : Int) : A := .val (.int .u8 n)
abbrev vb (b : Bool) : A := .val (.bool b)
abbrev sv (l : List UInt8) : A := .val (.string ⟨⟨l⟩⟩)
def bs (b : ByteArray) : List UInt8 := b.data.toList
@[simp] theorem bs_mk (l : List UInt8) : bs ⟨⟨l⟩⟩ = l := rfl
theorem bs_inj {a b : ByteArray} (h : bs a = bs b) : a = b := by
  cases a; cases b; simp only [bs] at h; congr; exact Array.ext' h
def sLt (a b : List UInt8) : Bool := Op.bytesLess a b

def bitI (op : BinOp) (a b : Int) : Int :=
  match op with
  | .shl => IntKind.i64.wrap (a * 2 ^ min b.toNat 64)
  | .shr => a.fdiv (2 ^ min b.toNat 64)
  | .and => IntKind.i64.wrap ((BitVec.ofInt 64 a &&& BitVec.ofInt 64 b).toNat : Int)
  | .or => IntKind.i64.wrap ((BitVec.ofInt 64 a ||| BitVec.ofInt 64 b).toNat : Int)
  | .andNot => IntKind.i64.wrap ((BitVec.ofInt 64 a &&& ~~~ BitVec.ofInt 64 b).toNat : Int)
  | _ => 0

/-- The same at any kind of number. -/
def bitK (op : BinOp) (k : IntKind) (a b : Int) : Int :=
  match op with
  | .shl => k.wrap (a * 2 ^ min b.toNat k.bits)
  | .shr => a.fdiv (2 ^ min b.toNat k.bits)
  | .and => k.wrap ((BitVec.ofInt k.bits a &&& BitVec.ofInt k.bits b).toNat : Int)
  | .or => k.wrap ((BitVec.ofInt k.bits a ||| BitVec.ofInt k.bits b).toNat : Int)
  | .xor => k.wrap ((BitVec.ofInt k.bits a ^^^ BitVec.ofInt k.bits b).toNat : Int)
  | .andNot => k.wrap ((BitVec.ofInt k.bits a &&& ~~~ BitVec.ofInt k.bits b).toNat : Int)
  | _ => 0

def ck (n : Int) : Option A := if I64 n then some (vi n) else none

def pInt (op : BinOp) (k : IntKind) (a b : Int) : Option A :=
  match op with
  | .add => (match k with | .i64 => ck (a + b) | k => some (.val (.int k (k.wrap (a + b)))))
  | .sub => (match k with | .i64 => ck (a - b) | k => some (.val (.int k (k.wrap (a - b)))))
  | .mul => (match k with | .i64 => ck (a * b) | k => some (.val (.int k (k.wrap (a * b)))))
  | .eql => some (vb (decide (a = b)))
  | .neq => some (vb (!decide (a = b)))
  | .lss => some (vb (decide (a < b)))
  | .leq => some (vb (decide (a ≤ b)))
  | .gtr => some (vb (decide (b < a)))
  | .geq => some (vb (decide (b ≤ a)))
  | .quo => (match k with | .i64 => if b = 0 then none else ck (a.tdiv b) | _ => none)
  | .rem => (match k with | .i64 => if b = 0 then none else some (vi (a.tmod b)) | _ => none)
  | .and => (match k with | .i64 => some (vi (bitI .and a b)) | k => some (.val (.int k (bitK .and k a b))))
  | .or => (match k with | .i64 => some (vi (bitI .or a b)) | k => some (.val (.int k (bitK .or k a b))))
  | .andNot => (match k with | .i64 => some (vi (bitI .andNot a b)) | k => some (.val (.int k (bitK .andNot k a b))))
  | _ => none

def pStr (op : BinOp) (a b : List UInt8) : Option A :=
  match op with
  | .add => if a.length + b.length ≤ 9223372036854775807 then some (sv (a ++ b)) else none
  | .eql => some (vb (decide (a = b)))
  | .neq => some (vb (!decide (a = b)))
  | .lss => some (vb (sLt a b))
  | .leq => some (vb (sLt a b || decide (a = b)))
  | .gtr => some (vb (!(sLt a b || decide (a = b))))
  | .geq => some (vb (!sLt a b))
  | _ => none

def pBin (op : BinOp) (isB : Bool) (a b : A) : Option A :=
  match a, b with
  | .val (.int k x), .val (.int k' y) => (match op with
    | .shl => (match k with | .i64 => if 0 ≤ y then some (vi (bitI .shl x y)) else none | k => if 0 ≤ y then some (.val (.int k (bitK .shl k x y))) else none)
    | .shr => (match k with | .i64 => if 0 ≤ y then some (vi (bitI .shr x y)) else none | k => if 0 ≤ y then some (.val (.int k (bitK .shr k x y))) else none)
    | op => if k' = k then pInt op k x y else none)
  | .val (.string x), .val (.string y) => pStr op (bs x) (bs y)
  | .val (.bool x), .val (.bool y) => if isB then (match op with
    | .eql => some (vb (decide (x = y)))
    | .neq => some (vb (!decide (x = y)))
    | _ => none) else none
  | _, _ => none

def pUn (op : UnOp) (a : A) : Option A :=
  match op, a with
  | .not, .val (.bool x) => some (vb !x)
  | .neg, .val (.int k x) => some (.val (.int k (k.wrap (0 - x))))
  | _, _ => none

def pConv (k' : IntKind) (a : A) : Option A :=
  match a with
  | .val (.int _ n) => (match k' with | .i64 => ck n | k' => some (.val (.int k' (k'.wrap n))))
  | _ => none

def pBool (a : A) : Option Bool := match a with | .val (.bool b) => some b | _ => none
def pPick (c a b : A) : Option A := (pBool c).map fun t => if t then a else b

/-- A string's byte. -/
def pIndexS (a i : A) : Option A :=
  match a, i with
  | .val (.string s), .val (.int _ n) => if 0 ≤ n ∧ n < ((bs s).length : Int) then some (vy (((bs s).getD n.toNat 0).toNat : Int)) else none
  | _, _ => none

def pIx (len : Nat) (i : A) : Option Nat := match i with | .val (.int _ n) => if 0 ≤ n ∧ n < (len : Int) then some n.toNat else none | _ => none

def pIndexAddr (k : Nat) (a i : A) : Option A :=
  match a with
  | .sl k' xs => if k' = k then (pIx xs.length i).map fun n => .elt (xs.getD n []) 0 else none
  | _ => none

def pLoadP (a : A) : Option A := match a with | .elt cs off => cs[off]? | _ => none
def pLoadN (n : Nat) (a : A) : Option A := match a with | .elt cs off => if off + n ≤ cs.length then some (.agg ((cs.drop off).take n)) else none | _ => none
def pAdd (a : A) (n : Nat) : Option A := match a with | .elt cs off => some (.elt cs (off + n)) | _ => none
def pField (off : Nat) (a : A) : Option A := match a with | .agg cs => cs[off]? | _ => none
def pFieldN (off n : Nat) (a : A) : Option A := match a with | .agg cs => if off + n ≤ cs.length then some (.agg ((cs.drop off).take n)) else none | _ => none
def pTup (a : A) (n : Nat) : Option A := match a with | .tup cs => cs[n]? | _ => none
def pLen (a : A) : Option A := match a with | .sl _ xs => some (vi xs.length) | .val (.string s) => some (vi (bs s).length) | _ => none
def pMax (a b : A) : Option A := match a, b with | .val (.int k x), .val (.int k' y) => if k' = k then some (.val (.int k (if x < y then y else x))) else none | _, _ => none
def pMin (a b : A) : Option A := match a, b with | .val (.int k x), .val (.int k' y) => if k' = k then some (.val (.int k (if y < x then y else x))) else none | _, _ => none
def pChk (a : A) : Option A := match a with | .elt cs off => some (.elt cs off) | .fn f caps => some (.fn f caps) | _ => none

def pBound (d : Int) (x : Option A) : Option Int := match x with | none => some d | some (.val (.int _ n)) => some n | _ => none

def pSlice (k : Nat) (a : A) (lo hi : Option A) : Option A :=
  match a with
  | .sl k' xs => (pBound 0 lo).bind fun l => (pBound xs.length hi).bind fun h => if k' = k ∧ 0 ≤ l ∧ l ≤ h ∧ h ≤ (xs.length : Int) then some (.sl k ((xs.take h.toNat).drop l.toNat)) else none
  | _ => none
def pSliceS (a : A) (lo hi : Option A) : Option A :=
  match a with
  | .val (.string s) => (pBound 0 lo).bind fun l => (pBound (bs s).length hi).bind fun h => if 0 ≤ l ∧ l ≤ h ∧ h ≤ ((bs s).length : Int) then some (sv (((bs s).take h.toNat).drop l.toNat)) else none
  | _ => none

mutual
/-- A value in which no address lies. -/
def flatA : A → Bool
  | .val _ => true
  | .top => true
  | .sl _ xs => xs.isEmpty
  | .agg cs => flatAL cs
  | .tup cs => flatAL cs
  | _ => false
def flatAL : List A → Bool
  | [] => true
  | c :: cs => flatA c && flatAL cs
end

section
variable {w w' : World} {O O' : Nat → Prop}
mutual
theorem rel_flat : ∀ (a : A) (v : Value), flatA a = true → rel w O a v → rel w' O' a v
  | .top, _, _, _ => by simp [rel]
  | .val x, v, _, h => by simpa [rel] using h
  | .sl k xs, v, hf, h => by
    simp only [flatA, List.isEmpty_iff] at hf
    subst hf
    simp only [rel] at h ⊢
    obtain ⟨a, cap, h1, h2, h3, _⟩ := h
    exact ⟨a, cap, h1, h2, h3, Or.inl trivial⟩
  | .agg cs, v, hf, h => by
    simp only [rel, flatA] at h hf ⊢
    obtain ⟨vs, h1, h2⟩ := h
    exact ⟨vs, h1, relL_flat cs vs hf h2⟩
  | .tup cs, v, hf, h => by
    simp only [rel, flatA] at h hf ⊢
    obtain ⟨vs, h1, h2⟩ := h
    exact ⟨vs, h1, relL_flat cs vs hf h2⟩
  | .elt _ _, _, hf, _ => by simp [flatA] at hf
  | .fn _ _, _, hf, _ => by simp [flatA] at hf
theorem relL_flat : ∀ (cs : List A) (vs : List Value), flatAL cs = true → relL w O cs vs → relL w' O' cs vs
  | [], vs, _, h => by simpa [relL] using h
  | c :: cs, vs, hf, h => by
    simp only [relL, flatAL, Bool.and_eq_true] at h hf ⊢
    obtain ⟨v, r, h1, h2, h3⟩ := h
    exact ⟨v, r, h1, rel_flat c v hf.1 h2, relL_flat cs r hf.2 h3⟩
end
end

/-! ### What is known of the types -/
inductive TK where
  | int (k : IntKind) | str | bool | slice (e : Nat) | struct (fs : List (Nat × Nat)) | fn | map (k e : Nat) | ptr (e : Nat) | other

structure TI where
  kind : TK
  size : Nat
  bytes : Nat
  zero : Value

def TK.plain : TK → Bool | .struct _ => false | .other => false | _ => true
def TK.known : TK → Bool | .other => false | _ => true

def TK.desc (P : Program) (t : Nat) : TK → Prop
  | .int k => P.underlying t = some (.int k)
  | .str => P.underlying t = some .string
  | .bool => P.underlying t = some .bool
  | .slice e => P.underlying t = some (.slice e)
  | .struct fs => ∃ g, P.underlying t = some (.struct g) ∧ g.toList.map (fun f => (f.offset, f.type)) = fs
  | .fn => ∃ a b c, P.underlying t = some (.func a b c)
  | .map k e => P.underlying t = some (.map k e)
  | .ptr e => P.underlying t = some (.pointer e)
  | .other => True

structure TI.ok (P : Program) (t : Nat) (i : TI) : Prop where
  desc : i.kind.desc P t
  info : (P.info? t).map (fun j => (j.size, j.bytes, j.zero)) = some (i.size, i.bytes, some i.zero)
  zsize : i.zero.cells.size = i.size
  one : i.kind.plain = true → i.size = 1

def TyOk (P : Program) (D : Nat → Option TI) : Prop := ∀ t i, D t = some i → TI.ok P t i

theorem TK.known_or {k : TK} (h : k.known = true) : k.plain = true ∨ ∃ fs, k = .struct fs := by
  cases k <;> simp_all [TK.known, TK.plain]

theorem TI.ok.run_isAgg {P : Program} {t : Nat} {i : TI} (h : TI.ok P t i) (w : World) (hk : i.kind.known = true) : (isAgg t).run P w = .ok (!i.kind.plain) w := by
  have hd := h.desc
  cases hi : i.kind <;> simp only [hi, TK.desc, TK.plain, TK.known] at hd hk ⊢
  case struct fs => obtain ⟨g, h1, _⟩ := hd; simp [isAgg, run_underlying h1]
  case fn => obtain ⟨a, b, c, h1⟩ := hd; simp [isAgg, run_underlying h1]
  case other => simp at hk
  all_goals simp [isAgg, run_underlying hd]

theorem TI.ok.some_info {P : Program} {t : Nat} {i : TI} (h : TI.ok P t i) : ∃ j, P.info? t = some j ∧ j.size = i.size ∧ j.bytes = i.bytes ∧ j.zero = some i.zero := by
  have h1 := h.info
  cases hj : P.info? t with
  | none => simp [hj] at h1
  | some j => simp [hj] at h1; exact ⟨j, rfl, h1.1, h1.2.1, h1.2.2⟩

theorem TI.ok.run_sizeOf {P : Program} {t : Nat} {i : TI} (h : TI.ok P t i) (w : World) : (sizeOf t).run P w = .ok i.size w := by
  obtain ⟨j, h1, h2, _⟩ := h.some_info
  simp [sizeOf, typeInfo, h1, h2]

theorem TI.ok.run_zero {P : Program} {t : Nat} {i : TI} (h : TI.ok P t i) (w : World) : (zeroValue t).run P w = .ok i.zero w := by
  obtain ⟨j, h1, _, _, h4⟩ := h.some_info
  simp [zeroValue, typeInfo, h1, h4]

theorem add_eq (b off j : Nat) : (⟨b, off, none⟩ : Addr).add j = ⟨b, off + j, none⟩ := by
  unfold Addr.add
  by_cases h : j = 0
  · subst h; rfl
  · rw [if_neg h]

/-- A variable's value out of its cells. -/
theorem run_loadCells {P : Program} {t : Nat} {i : TI} {w : World} (h : TI.ok P t i) (hk : i.kind.known = true) {vs : List Value} {b off : Nat} (hv : Reads w b off vs) (hl : i.size ≤ vs.length) :
    ∃ v, (loadVar t ⟨b, off, none⟩).run P w = .ok v w ∧ ((i.kind.plain = true ∧ vs[0]? = some v) ∨ (i.kind.plain = false ∧ v = .agg (vs.take i.size).toArray)) := by
  unfold loadVar
  simp only [Sem.run_bind, h.run_isAgg w hk, Result.andThen_ok]
  cases hp : i.kind.plain with
  | true =>
    have h1 := h.one hp
    obtain ⟨v, hv0⟩ : ∃ v, vs[0]? = some v := ⟨_, List.getElem?_eq_getElem (by omega)⟩
    refine ⟨v, ?_, Or.inl ⟨rfl, hv0⟩⟩
    have := hv 0 v hv0
    simp only [Nat.add_zero] at this
    simp [this]
  | false =>
    refine ⟨.agg (vs.take i.size).toArray, ?_, Or.inr ⟨rfl, rfl⟩⟩
    have e : (vs.take i.size).length = i.size := by simp; omega
    have := run_loadCells_list (P := P) w ⟨b, off, none⟩ (vs.take i.size) (fun j v hj => by rw [add_eq]; exact hv.take i.size j v hj)
    rw [e] at this
    simp [h.run_sizeOf w, this]

/-! ### The operations, one by one -/
section
variable {P : Program} {w : World} {O : Nat → Prop} {o : Oper} {ev : Operand → Value}

theorem wrap_I64 {n : Int} (h : I64 n) : IntKind.i64.wrap n = n := by
  unfold I64 at h
  rw [IntKind.wrap_i64]; omega

theorem toList_bs (s : ByteArray) : s.toList = bs s := Lib.toList_data s
theorem size_bs (s : ByteArray) : s.size = (bs s).length := rfl
theorem sv_bs (s : ByteArray) : (sv (bs s)) = A.val (.string s) := by cases s; rfl

theorem run_int {op : BinOp} {t u : TypeId} {x y : Operand} (ho : o.op = .binOp op t x y u) {k : IntKind} {a b : Int} (hx : ev x = .int k a) (hy : ev y = .int k b) {r : A} (h : pInt op k a b = some r) :
    ∃ z, (execOp ev o).run P w = .ok (.value z) w ∧ rel w O r z := by
  have hck : ∀ {n : Int} {r : A}, ck n = some r → IntKind.i64.wrap n = n ∧ r = vi n := by
    intro n r h
    unfold ck at h
    split at h
    · rename_i hn; cases h; exact ⟨wrap_I64 hn, rfl⟩
    · cases h
  cases op <;> simp only [pInt, Option.some.injEq, reduceCtorEq] at h
  case add =>
    cases k
    case i64 => obtain ⟨h1, rfl⟩ := hck h; exact ⟨_, by simp only [execOp, ho, hx, hy, eqGuard, binOp, Op.intArith]; simp; rfl, by simp [rel, h1]⟩
    all_goals (cases h; exact ⟨_, by simp only [execOp, ho, hx, hy, eqGuard, binOp, Op.intArith]; simp; rfl, by simp [rel]⟩)
  case sub =>
    cases k
    case i64 => obtain ⟨h1, rfl⟩ := hck h; exact ⟨_, by simp only [execOp, ho, hx, hy, eqGuard, binOp, Op.intArith]; simp; rfl, by simp [rel, h1]⟩
    all_goals (cases h; exact ⟨_, by simp only [execOp, ho, hx, hy, eqGuard, binOp, Op.intArith]; simp; rfl, by simp [rel]⟩)
  case mul =>
    cases k
    case i64 => obtain ⟨h1, rfl⟩ := hck h; exact ⟨_, by simp only [execOp, ho, hx, hy, eqGuard, binOp, Op.intArith]; simp; rfl, by simp [rel, h1]⟩
    all_goals (cases h; exact ⟨_, by simp only [execOp, ho, hx, hy, eqGuard, binOp, Op.intArith]; simp; rfl, by simp [rel]⟩)
  case quo =>
    cases k <;> simp only [reduceCtorEq] at h
    split at h
    · cases h
    · rename_i hb
      obtain ⟨h1, rfl⟩ := hck h
      exact ⟨_, by simp only [execOp, ho, hx, hy, eqGuard, binOp, Op.intDiv]; simp [hb]; rfl, by simp [rel, h1]⟩
  case rem =>
    cases k <;> simp only [reduceCtorEq] at h
    split at h
    · cases h
    · rename_i hb
      cases h
      exact ⟨_, by simp only [execOp, ho, hx, hy, eqGuard, binOp, Op.intDiv]; simp [hb]; rfl, by simp [rel]⟩
  case and =>
    cases k <;> simp only [Option.some.injEq] at h
    case i64 =>
      subst h
      exact ⟨_, by simp only [execOp, ho, hx, hy, eqGuard, binOp, Op.intBits]; simp; rfl, by simp [rel, bitI]; rfl⟩
    all_goals
      subst h
      exact ⟨_, by simp only [execOp, ho, hx, hy, eqGuard, binOp, Op.intBits]; simp; rfl, by simp [rel, bitK]⟩
  case or =>
    cases k <;> simp only [Option.some.injEq] at h
    case i64 =>
      subst h
      exact ⟨_, by simp only [execOp, ho, hx, hy, eqGuard, binOp, Op.intBits]; simp; rfl, by simp [rel, bitI]; rfl⟩
    all_goals
      subst h
      exact ⟨_, by simp only [execOp, ho, hx, hy, eqGuard, binOp, Op.intBits]; simp; rfl, by simp [rel, bitK]⟩
  case andNot =>
    cases k <;> simp only [Option.some.injEq] at h
    case i64 =>
      subst h
      exact ⟨_, by simp only [execOp, ho, hx, hy, eqGuard, binOp, Op.intBits]; simp; rfl, by simp [rel, bitI]; rfl⟩
    all_goals
      subst h
      exact ⟨_, by simp only [execOp, ho, hx, hy, eqGuard, binOp, Op.intBits]; simp; rfl, by simp [rel, bitK]⟩
  all_goals
    subst h
    exact ⟨_, by simp only [execOp, ho, hx, hy, eqGuard, binOp, Op.intCmp]; simp; rfl, by simp [rel]; try rfl⟩

theorem beq_bs (a b : ByteArray) : (bs a == bs b) = decide (bs a = bs b) := by
  rw [Bool.eq_iff_iff]; simp

theorem run_str {op : BinOp} {t u : TypeId} {x y : Operand} (ho : o.op = .binOp op t x y u) {a b : ByteArray} (hx : ev x = .string a) (hy : ev y = .string b) {r : A} (h : pStr op (bs a) (bs b) = some r) :
    ∃ z, (execOp ev o).run P w = .ok (.value z) w ∧ rel w O r z := by
  cases op <;> simp only [pStr, Option.some.injEq, reduceCtorEq] at h
  case add =>
    split at h
    · rename_i hl
      cases h
      refine ⟨.string (a ++ b), ?_, ?_⟩
      · simp [execOp, ho, hx, hy, eqGuard, binOp, Op.stringOp]
        rw [size_bs, size_bs]; omega
      · simp only [rel]
        congr 1
    · cases h
  all_goals
    subst h
    exact ⟨_, by simp only [execOp, ho, hx, hy, eqGuard, binOp, Op.stringOp, toList_bs]; simp; rfl, by simp [rel, sLt, beq_bs]⟩

theorem run_equalIn_bool {t : TypeId} (ht : P.underlying t = some .bool) (d : Nat) (a b : Bool) (w : World) : (Op.equalIn (d + 1) t (.bool a) (.bool b)).run P w = .ok (a == b) w := by
  simp [Op.equalIn, run_underlying ht]

theorem run_bool {op : BinOp} {t u : TypeId} {x y : Operand} (ho : o.op = .binOp op t x y u) {a b : Bool} (hx : ev x = .bool a) (hy : ev y = .bool b) (ht : P.underlying t = some .bool)
    {r : Bool} (hc : (op = .eql ∧ r = decide (a = b)) ∨ (op = .neq ∧ r = !decide (a = b))) : (execOp ev o).run P w = .ok (.value (.bool r)) w := by
  have he := run_equalIn_bool ht 9999 a b w
  have e : (a == b) = decide (a = b) := by cases a <;> cases b <;> rfl
  rw [e] at he
  rcases hc with ⟨rfl, rfl⟩ | ⟨rfl, rfl⟩ <;> simp only [execOp, ho, hx, hy, eqGuard, binOp, Op.equal, Op.maxDepth] <;> simp [he]

theorem run_shift {op : BinOp} {t u : TypeId} {x y : Operand} (ho : o.op = .binOp op t x y u) {a b : Int} {k' : IntKind} (hx : ev x = .int .i64 a) (hy : ev y = .int k' b) (hb : 0 ≤ b) (hop : op = .shl ∨ op = .shr) :
    (execOp ev o).run P w = .ok (.value (.int .i64 (bitI op a b))) w := by
  have hb' : ¬ b < 0 := by omega
  have hk : IntKind.i64.bits = 64 := rfl
  rcases hop with rfl | rfl <;> simp [execOp, ho, hx, hy, eqGuard, binOp, Op.shift, hb', bitI, hk]

theorem run_shiftK {op : BinOp} {t u : TypeId} {x y : Operand} (ho : o.op = .binOp op t x y u) {a b : Int} {k k' : IntKind} (hx : ev x = .int k a) (hy : ev y = .int k' b) (hb : 0 ≤ b) (hop : op = .shl ∨ op = .shr) :
    (execOp ev o).run P w = .ok (.value (.int k (bitK op k a b))) w := by
  have hb' : ¬ b < 0 := by omega
  rcases hop with rfl | rfl <;> simp [execOp, ho, hx, hy, eqGuard, binOp, Op.shift, hb', bitK]

theorem run_bin {op : BinOp} {t u : TypeId} {x y : Operand} (ho : o.op = .binOp op t x y u) {isB : Bool} (hB : isB = true → P.underlying t = some .bool) {a b : A} (hx : rel w O a (ev x)) (hy : rel w O b (ev y)) {r : A} (h : pBin op isB a b = some r) :
    ∃ z, (execOp ev o).run P w = .ok (.value z) w ∧ rel w O r z := by
  unfold pBin at h
  split at h
  · rename_i k x' k' y'
    simp only [rel] at hx hy
    split at h
    · cases k
      case i64 =>
        dsimp only at h
        split at h
        · rename_i hb; cases h; exact ⟨_, run_shift ho hx hy hb (Or.inl rfl), by simp [rel]⟩
        · cases h
      all_goals
        dsimp only at h
        split at h
        · rename_i hb; cases h; exact ⟨_, run_shiftK ho hx hy hb (Or.inl rfl), by simp [rel]⟩
        · cases h
    · cases k
      case i64 =>
        dsimp only at h
        split at h
        · rename_i hb; cases h; exact ⟨_, run_shift ho hx hy hb (Or.inr rfl), by simp [rel]⟩
        · cases h
      all_goals
        dsimp only at h
        split at h
        · rename_i hb; cases h; exact ⟨_, run_shiftK ho hx hy hb (Or.inr rfl), by simp [rel]⟩
        · cases h
    · split at h
      · rename_i hk; subst hk; exact run_int ho hx hy h
      · cases h
  · simp only [rel] at hx hy
    exact run_str ho hx hy h
  · simp only [rel] at hx hy
    split at h
    · rename_i hb
      split at h
      · cases h; exact ⟨_, run_bool ho hx hy (hB hb) (Or.inl ⟨rfl, rfl⟩), by simp [rel]⟩
      · cases h; exact ⟨_, run_bool ho hx hy (hB hb) (Or.inr ⟨rfl, rfl⟩), by simp [rel]⟩
      · cases h
    · cases h
  · cases h

theorem run_un {op : UnOp} {t : TypeId} {x : Operand} (ho : o.op = .unOp op t x) {a : A} (hx : rel w O a (ev x)) {r : A} (h : pUn op a = some r) : ∃ z, (execOp ev o).run P w = .ok (.value z) w ∧ rel w O r z := by
  unfold pUn at h
  split at h
  · cases h; simp only [rel] at hx; exact ⟨_, by simp [execOp, ho, hx, Op.unary]; rfl, by simp [rel]⟩
  · cases h; simp only [rel] at hx; exact ⟨_, by simp [execOp, ho, hx, Op.unary, Op.intArith]; rfl, by simp [rel]⟩
  · cases h

theorem run_conv {s d : TypeId} {x : Operand} (ho : o.op = .convert s d x) {k' : IntKind} (hs : ∃ k, P.underlying s = some (.int k)) (hd : P.underlying d = some (.int k')) {a : A} (hx : rel w O a (ev x)) {r : A} (h : pConv k' a = some r) :
    ∃ z, (execOp ev o).run P w = .ok (.value z) w ∧ rel w O r z := by
  obtain ⟨k0, hs⟩ := hs
  unfold pConv at h
  split at h
  · rename_i k n
    simp only [rel] at hx
    have key : (execOp ev o).run P w = .ok (.value (.int k' (k'.wrap n))) w := by
      simp [execOp, ho, hx, convert, run_underlying hs, run_underlying hd, Conv.intToInt]
    refine ⟨_, key, ?_⟩
    cases k' <;> simp only [Option.some.injEq] at h
    case i64 =>
      unfold ck at h
      split at h
      · rename_i hn; cases h; simp [rel, wrap_I64 hn]
      · cases h
    all_goals (subst h; simp [rel])
  · cases h

theorem run_indexS {t : TypeId} {x i : Operand} (ho : o.op = .index t x i) (ht : P.underlying t = some .string) {a b : A} (hx : rel w O a (ev x)) (hi : rel w O b (ev i)) {r : A} (h : pIndexS a b = some r) :
    ∃ z, (execOp ev o).run P w = .ok (.value z) w ∧ rel w O r z := by
  unfold pIndexS at h
  split at h
  · rename_i s k n
    simp only [rel] at hx hi
    split at h
    · rename_i hn
      cases h
      have hlt : n.toNat < s.size := by rw [size_bs]; omega
      have e : s[n.toNat]? = some s[n.toNat] := by simp [hlt]
      have e2 : (bs s).getD n.toNat 0 = s[n.toNat] := by
        rw [List.getD_eq_getElem?_getD, List.getElem?_eq_getElem (by rw [← size_bs]; exact hlt)]
        rfl
      refine ⟨.int .u8 (s[n.toNat].toNat : Int), ?_, by simp only [rel, e2]⟩
      simp [execOp, ho, hx, hi, Instr.index, asIntOf, run_underlying ht, hn.1, e]
    · cases h
  · cases h

theorem pIx_some {len : Nat} {i : A} {n : Nat} (h : pIx len i = some n) : ∃ k z, i = .val (.int k z) ∧ 0 ≤ z ∧ z < (len : Int) ∧ n = z.toNat := by
  unfold pIx at h
  split at h
  · split at h
    · rename_i hz; cases h; exact ⟨_, _, rfl, hz.1, hz.2, rfl⟩
    · cases h
  · cases h

theorem run_indexAddr {t : TypeId} {x ix : Operand} (ho : o.op = .indexAddr t x ix) {e : Nat} (ht : P.underlying t = some (.slice e)) {i : TI} (hi : TI.ok P e i) {a b : A} (hx : rel w O a (ev x)) (hn : rel w O b (ev ix)) {r : A} (h : pIndexAddr i.size a b = some r) :
    ∃ z, (execOp ev o).run P w = .ok (.value z) w ∧ rel w O r z := by
  unfold pIndexAddr at h
  split at h
  · rename_i k xs
    split at h
    · rename_i hk
      subst hk
      rw [Option.map_eq_some_iff] at h
      obtain ⟨n, h1, rfl⟩ := h
      obtain ⟨kk, z, rfl, h0, h2, rfl⟩ := pIx_some h1
      simp only [rel] at hx hn
      obtain ⟨a, cap, g2, g3, g4, g5⟩ := hx
      rcases g5 with g5 | ⟨b, off, g5, g6, g7, g8⟩
      · subst g5; simp at h2; omega
      have hlt : z.toNat < xs.length := by omega
      have hg := relRows_get g8 (List.getElem?_eq_getElem hlt)
      have hb : 0 ≤ z ∧ z < (xs.length : Int) := ⟨h0, h2⟩
      refine ⟨.pointer (some ⟨b, off + z.toNat * i.size, none⟩), ?_, ?_⟩
      · simp only [execOp, ho, Instr.indexAt, g2, hn, g5, asIntOf, Sem.run_bind, Sem.run_pure, Result.andThen_ok, run_underlying ht, hb, and_self, if_true, hi.run_sizeOf w, add_eq, Sem.run_ite]
      · simp only [rel]
        refine ⟨b, off + z.toNat * i.size, by simp, g6, g7, ?_⟩
        rw [List.getD_eq_getElem?_getD, List.getElem?_eq_getElem hlt]
        exact hg.2
    · cases h
  · cases h

theorem run_loadP {t : TypeId} {x : Operand} (ho : o.op = .load t x) {i : TI} (ht : TI.ok P t i) (hp : i.kind.plain = true) {a : A} (hx : rel w O a (ev x)) {r : A} (h : pLoadP a = some r) : ∃ z, (execOp ev o).run P w = .ok (.value z) w ∧ rel w O r z := by
  unfold pLoadP at h
  split at h
  · rename_i cs off
    simp only [rel] at hx
    obtain ⟨b, o', h1, _, _, h4⟩ := hx
    obtain ⟨vs, h5, h6, _⟩ := relCells_reads h4
    obtain ⟨v, h7, h8⟩ := relL_get h5 h
    have hl : off < vs.length := (List.getElem?_eq_some_iff.1 h7).1
    have hk : i.kind.known = true := by cases hi : i.kind <;> simp_all [TK.known, TK.plain]
    obtain ⟨u, g1, g2⟩ := run_loadCells (P := P) ht hk (h6.drop off) (by rw [ht.one hp]; simp; omega)
    rcases g2 with ⟨_, g2⟩ | ⟨g2, _⟩
    · have e : u = v := by rw [List.getElem?_drop, Nat.add_zero, h7] at g2; cases g2; rfl
      subst e
      exact ⟨u, by simp only [execOp, ho, Instr.loadAt, h1, Instr.sureAddr, Sem.run_bind, Sem.run_pure, Result.andThen_ok, g1], h8⟩
    · rw [hp] at g2; cases g2
  · cases h

theorem run_loadN {t : TypeId} {x : Operand} (ho : o.op = .load t x) {i : TI} (ht : TI.ok P t i) (hk : i.kind.known = true) (hp : i.kind.plain = false) {a : A} (hx : rel w O a (ev x)) {r : A} (h : pLoadN i.size a = some r) : ∃ z, (execOp ev o).run P w = .ok (.value z) w ∧ rel w O r z := by
  unfold pLoadN at h
  split at h
  · rename_i cs off
    split at h
    · rename_i hl
      cases h
      simp only [rel] at hx
      obtain ⟨b, o', h1, _, _, h4⟩ := hx
      obtain ⟨vs, h5, h6, _⟩ := relCells_reads h4
      have hlen := relL_length h5
      obtain ⟨u, g1, g2⟩ := run_loadCells (P := P) ht hk (h6.drop off) (by simp; omega)
      rcases g2 with ⟨g2, _⟩ | ⟨_, rfl⟩
      · rw [hp] at g2; cases g2
      · refine ⟨_, by simp only [execOp, ho, Instr.loadAt, h1, Instr.sureAddr, Sem.run_bind, Sem.run_pure, Result.andThen_ok, g1]; rfl, ?_⟩
        simp only [rel]
        exact ⟨_, rfl, relL_take _ (relL_drop _ h5)⟩
    · cases h
  · cases h

theorem fieldPlace_run {P : Program} {b off : Nat} {f : Field} {i : TI} (hi : TI.ok P f.type i) (h0 : i.size ≠ 0) (w : World) : (fieldPlace ⟨b, off, none⟩ f).run P w = .ok ⟨b, off + f.offset, none⟩ w := by
  simp only [fieldPlace, Sem.run_bind, hi.run_sizeOf w, Result.andThen_ok]
  rw [if_neg h0, add_eq]
  rfl

theorem struct_field {s : TypeId} {fs : List (Nat × Nat)} (ht : (TK.struct fs).desc P s) {f off t : Nat} (hf : fs[f]? = some (off, t)) : ∃ g fd, P.underlying s = some (.struct g) ∧ g[f]? = some fd ∧ fd.offset = off ∧ fd.type = t := by
  obtain ⟨g, h1, h2⟩ := ht
  rw [← h2] at hf
  simp only [List.getElem?_map, Option.map_eq_some_iff] at hf
  obtain ⟨fd, h4, h5⟩ := hf
  exact ⟨g, fd, h1, by simpa using h4, by simpa using congrArg Prod.fst h5, by simpa using congrArg Prod.snd h5⟩

/-- A field's address. -/
theorem run_fieldAddr {s : TypeId} {x : Operand} {f : Nat} (ho : o.op = .fieldAddr s x f) {fs : List (Nat × Nat)} (ht : (TK.struct fs).desc P s) {off t : Nat} (hf : fs[f]? = some (off, t)) {i : TI} (hi : TI.ok P t i) (h0 : i.size ≠ 0)
    {b p : Nat} (hx : ev x = .pointer (some ⟨b, p, none⟩)) : (execOp ev o).run P w = .ok (.value (.pointer (some ⟨b, p + off, none⟩))) w := by
  obtain ⟨g, fd, h1, h4, rfl, rfl⟩ := struct_field ht hf
  have hp := fieldPlace_run (P := P) (b := b) (off := p) (f := fd) hi h0 w
  simp only [execOp, ho, Instr.fieldAt, hx, Instr.sureAddr, Sem.run_bind, Sem.run_pure, Result.andThen_ok, run_underlying h1, h4, hp]

theorem run_field {s : TypeId} {x : Operand} {f : Nat} (ho : o.op = .field s x f) {fs : List (Nat × Nat)} (ht : (TK.struct fs).desc P s) {off t : Nat} (hf : fs[f]? = some (off, t)) {i : TI} (hi : TI.ok P t i) (hk : i.kind.known = true)
    {vs : List Value} (hx : ev x = .agg vs.toArray) (hl : off + i.size ≤ vs.length) :
    ∃ v, (execOp ev o).run P w = .ok (.value v) w ∧ ((i.kind.plain = true ∧ vs[off]? = some v) ∨ (i.kind.plain = false ∧ v = .agg ((vs.drop off).take i.size).toArray)) := by
  obtain ⟨g, fd, g1, g4, rfl, rfl⟩ := struct_field ht hf
  simp only [execOp, ho, Instr.field, hx, asAgg, part, Sem.run_bind, Sem.run_pure, Result.andThen_ok, run_underlying g1, g4, hi.run_isAgg w hk]
  cases hp : i.kind.plain with
  | true =>
    have h1 := hi.one hp
    have hlt : fd.offset < vs.length := by omega
    refine ⟨vs[fd.offset], ?_, Or.inl ⟨rfl, List.getElem?_eq_getElem hlt⟩⟩
    simp [hlt]
  | false =>
    simp only [Bool.not_false, if_true, Sem.run_bind, hi.run_sizeOf w, Result.andThen_ok, Sem.run_pure]
    refine ⟨_, rfl, Or.inr ⟨trivial, ?_⟩⟩
    congr 1
    apply Array.ext'
    simp [List.extract_eq_take_drop]

theorem run_extract {x : Operand} {n : Nat} (ho : o.op = .extract x n) {vs : List Value} (hx : ev x = .tuple vs.toArray) {v : Value} (hv : vs[n]? = some v) : (execOp ev o).run P w = .ok (.value v) w := by
  simp only [execOp, ho, Instr.extract, hx, Sem.run_bind, List.getElem?_toArray, hv, Sem.run_pure, Result.andThen_ok]

theorem run_len_slice {xs : Array Operand} {ts : Array TypeId} {x : Operand} (ho : o.op = .call { callee := .builtin .len, args := xs, argTypes := ts }) (hxs : xs = #[x]) {t e : TypeId} (hts : ts = #[t]) (ht : P.underlying t = some (.slice e)) {a : Option Addr} {n c : Nat} (hx : ev x = .slice a n c) :
    (execOp ev o).run P w = .ok (.value (.int .i64 n)) w := by
  subst hxs hts
  simp [execOp, ho, resolve, invoke, builtin, Builtin.len_, hx, run_underlying ht, goInt]

theorem run_len_str {xs : Array Operand} {ts : Array TypeId} {x : Operand} (ho : o.op = .call { callee := .builtin .len, args := xs, argTypes := ts }) (hxs : xs = #[x]) {t : TypeId} (hts : ts = #[t]) (ht : P.underlying t = some .string) {s : ByteArray} (hx : ev x = .string s) :
    (execOp ev o).run P w = .ok (.value (.int .i64 s.size)) w := by
  subst hxs hts
  simp [execOp, ho, resolve, invoke, builtin, Builtin.len_, hx, run_underlying ht, goInt]

theorem run_max {xs : Array Operand} {ts : Array TypeId} {x y : Operand} (ho : o.op = .call { callee := .builtin .max, args := xs, argTypes := ts }) (hxs : xs = #[x, y]) {a b : A} (hx : rel w O a (ev x)) (hy : rel w O b (ev y)) {r : A} (h : pMax a b = some r) :
    ∃ z, (execOp ev o).run P w = .ok (.value z) w ∧ rel w O r z := by
  subst hxs
  unfold pMax at h
  split at h
  · split at h
    · rename_i hk; subst hk; cases h
      simp only [rel] at hx hy
      refine ⟨_, by simp [execOp, ho, resolve, invoke, builtin, Builtin.max_, Builtin.max2, hx, hy]; rfl, by simp [rel]⟩
    · cases h
  · cases h

theorem run_min {xs : Array Operand} {ts : Array TypeId} {x y : Operand} (ho : o.op = .call { callee := .builtin .min, args := xs, argTypes := ts }) (hxs : xs = #[x, y]) {a b : A} (hx : rel w O a (ev x)) (hy : rel w O b (ev y)) {r : A} (h : pMin a b = some r) :
    ∃ z, (execOp ev o).run P w = .ok (.value z) w ∧ rel w O r z := by
  subst hxs
  unfold pMin at h
  split at h
  · split at h
    · rename_i hk; subst hk; cases h
      simp only [rel] at hx hy
      refine ⟨_, by simp [execOp, ho, resolve, invoke, builtin, Builtin.min_, Builtin.min2, hx, hy]; rfl, by simp [rel]⟩
    · cases h
  · cases h

theorem run_bounds {lo hi : Option Operand} {alo ahi : Option A} (isS : Bool) {len cap : Nat} (hlo : ∀ y, lo = some y → ∃ a, alo = some a ∧ rel w O a (ev y)) (hlo0 : lo = none → alo = none) (hhi : ∀ y, hi = some y → ∃ a, ahi = some a ∧ rel w O a (ev y)) (hhi0 : hi = none → ahi = none)
    {l h : Int} (hl : pBound 0 alo = some l) (hh : pBound len ahi = some h) (h0 : 0 ≤ l) (h1 : l ≤ h) (h2 : h ≤ (len : Int)) (hc : len ≤ cap) (hs : isS = false → cap = len) :
    (Instr.sliceBounds isS len cap (lo.map ev) (hi.map ev) none).run P w = .ok (l.toNat, h.toNat, cap) w := by
  obtain ⟨l, rfl⟩ := Int.eq_ofNat_of_zero_le h0
  obtain ⟨h, rfl⟩ := Int.eq_ofNat_of_zero_le (Int.le_trans h0 h1)
  have k1 : l ≤ h := by exact_mod_cast h1
  have k2 : h ≤ cap := by have : h ≤ len := by exact_mod_cast h2
                          omega
  have el : ∀ y, lo = some y → ∃ k, ev y = .int k l := by
    intro y hy
    obtain ⟨a, rfl, ha⟩ := hlo y hy
    unfold pBound at hl
    split at hl
    · rename_i e; cases e
    · rename_i e; cases e; cases hl; simp only [rel] at ha; exact ⟨_, ha⟩
    · cases hl
  have eh : ∀ y, hi = some y → ∃ k, ev y = .int k h := by
    intro y hy
    obtain ⟨a, rfl, ha⟩ := hhi y hy
    unfold pBound at hh
    split at hh
    · rename_i e; cases e
    · rename_i e; cases e; cases hh; simp only [rel] at ha; exact ⟨_, ha⟩
    · cases hh
  cases lo with
  | none =>
    have := hlo0 rfl; subst this
    simp only [pBound, Option.some.injEq] at hl
    have hl0 : l = 0 := by omega
    subst hl0
    cases hi with
    | none =>
      have := hhi0 rfl; subst this
      simp only [pBound, Option.some.injEq] at hh
      have hh0 : h = len := by omega
      subst hh0
      simp [Instr.sliceBounds]
    | some z =>
      obtain ⟨k, hz⟩ := eh z rfl
      cases isS
      · simp [Instr.sliceBounds, Instr.sliceBound, hz, asIntOf, k2]
      · simp [Instr.sliceBounds, Instr.sliceBound, hz, asIntOf, k2]
  | some y =>
    obtain ⟨k, hy⟩ := el y rfl
    cases hi with
    | none =>
      have := hhi0 rfl; subst this
      simp only [pBound, Option.some.injEq] at hh
      have hh0 : h = len := by omega
      subst hh0
      simp [Instr.sliceBounds, Instr.sliceBound, hy, asIntOf, k1]
    | some z =>
      obtain ⟨k', hz⟩ := eh z rfl
      cases isS
      · simp [Instr.sliceBounds, Instr.sliceBound, hy, hz, asIntOf, k1, k2]
      · simp [Instr.sliceBounds, Instr.sliceBound, hy, hz, asIntOf, k1, k2]

theorem run_slice {t : TypeId} {x : Operand} {lo hi : Option Operand} (ho : o.op = .slice t x lo hi none) {e : Nat} (ht : P.underlying t = some (.slice e)) {i : TI} (hi' : TI.ok P e i) {a : A} (hx : rel w O a (ev x))
    {alo ahi : Option A} (hlo : ∀ y, lo = some y → ∃ a, alo = some a ∧ rel w O a (ev y)) (hlo0 : lo = none → alo = none) (hhi : ∀ y, hi = some y → ∃ a, ahi = some a ∧ rel w O a (ev y)) (hhi0 : hi = none → ahi = none)
    {r : A} (h : pSlice i.size a alo ahi = some r) : ∃ z, (execOp ev o).run P w = .ok (.value z) w ∧ rel w O r z := by
  unfold pSlice at h
  split at h
  · rename_i k xs
    rw [Option.bind_eq_some_iff] at h
    obtain ⟨l, hl, h⟩ := h
    rw [Option.bind_eq_some_iff] at h
    obtain ⟨hh, hhh, h⟩ := h
    split at h
    · rename_i hc
      obtain ⟨rfl, h0, h1, h2⟩ := hc
      cases h
      simp only [rel] at hx
      obtain ⟨a, cap, g1, g2, g3, g4⟩ := hx
      have hb := run_bounds (P := P) (ev := ev) true hlo hlo0 hhi hhi0 hl hhh h0 h1 h2 g2 (by simp)
      obtain ⟨l, rfl⟩ := Int.eq_ofNat_of_zero_le h0
      obtain ⟨hh, rfl⟩ := Int.eq_ofNat_of_zero_le (Int.le_trans h0 h1)
      simp only [Int.toNat_natCast] at hb ⊢
      have k1 : l ≤ hh := by exact_mod_cast h1
      have k2 : hh ≤ xs.length := by exact_mod_cast h2
      refine ⟨_, by simp only [execOp, ho, Instr.sliceAt, g1, Sem.run_bind, run_underlying ht, Result.andThen_ok, Instr.slice, Option.map_none, hb, hi'.run_sizeOf w, Sem.run_pure]; rfl, ?_⟩
      simp only [rel]
      have hlen : ((xs.take hh).drop l).length = hh - l := by simp; omega
      rw [hlen]
      refine ⟨_, cap - l, rfl, by omega, by omega, ?_⟩
      by_cases hlh : l = hh
      · left; subst hlh; simp
      · right
        have hne : xs ≠ [] := by intro e; subst e; simp at k2; omega
        obtain ⟨b, off, rfl, g5, g6, g7⟩ := g4.resolve_left hne
        refine ⟨b, off + l * i.size, ?_, g5, g6, ?_⟩
        · rw [if_neg (by omega)]; simp [add_eq]
        · exact relRows_drop l (relRows_take hh g7) (by simp; omega)
    · cases h
  · cases h

theorem extract_bs (s : ByteArray) (l h : Nat) : bs (s.extract l h) = ((bs s).take h).drop l := by
  simp [bs, ByteArray.extract, ByteArray.copySlice, List.extract_eq_take_drop]
  rw [List.drop_take]

theorem run_sliceS {t : TypeId} {x : Operand} {lo hi : Option Operand} (ho : o.op = .slice t x lo hi none) (ht : P.underlying t = some .string) {a : A} (hx : rel w O a (ev x))
    {alo ahi : Option A} (hlo : ∀ y, lo = some y → ∃ a, alo = some a ∧ rel w O a (ev y)) (hlo0 : lo = none → alo = none) (hhi : ∀ y, hi = some y → ∃ a, ahi = some a ∧ rel w O a (ev y)) (hhi0 : hi = none → ahi = none)
    {r : A} (h : pSliceS a alo ahi = some r) : ∃ z, (execOp ev o).run P w = .ok (.value z) w ∧ rel w O r z := by
  unfold pSliceS at h
  split at h
  · rename_i s
    rw [Option.bind_eq_some_iff] at h
    obtain ⟨l, hl, h⟩ := h
    rw [Option.bind_eq_some_iff] at h
    obtain ⟨hh, hhh, h⟩ := h
    split at h
    · rename_i hc
      obtain ⟨h0, h1, h2⟩ := hc
      cases h
      simp only [rel] at hx
      have hb := run_bounds (P := P) (ev := ev) (len := s.size) (cap := s.size) false hlo hlo0 hhi hhi0 hl hhh h0 h1 h2 (Nat.le_refl _) (by simp)
      refine ⟨.string (s.extract l.toNat hh.toNat), by simp only [execOp, ho, Instr.sliceAt, hx, Sem.run_bind, run_underlying ht, Result.andThen_ok, Instr.slice, Option.map_none, hb, Option.isSome_none, Bool.false_eq_true, if_false, Sem.run_pure], ?_⟩
      simp only [rel]
      congr 1
      apply bs_inj
      rw [extract_bs]; rfl
    · cases h
  · cases h

/-- `s[0:0:0]`. -/
theorem run_slice0 {t : TypeId} {x l h m : Operand} (ho : o.op = .slice t x (some l) (some h) (some m)) {e : Nat} (ht : P.underlying t = some (.slice e)) {i : TI} (hi' : TI.ok P e i) {a : Option Addr} {n c : Nat} (hx : ev x = .slice a n c)
    {k1 k2 k3 : IntKind} (hl : ev l = .int k1 0) (hh : ev h = .int k2 0) (hm : ev m = .int k3 0) : (execOp ev o).run P w = .ok (.value (.slice a 0 0)) w := by
  simp [execOp, ho, Instr.sliceAt, hx, run_underlying ht, Instr.slice, Instr.sliceBounds, Instr.sliceBound, hl, hh, hm, asIntOf, hi'.run_sizeOf w]
end
end
end Go.Proofs.YtnbjmmldjggkfaaGreat.Abs
