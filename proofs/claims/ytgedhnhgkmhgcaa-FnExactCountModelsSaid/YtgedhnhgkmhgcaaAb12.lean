/- THE CONDITION OF A WALK, RECKONED (2): operation by operation, region by region. -/
import Derived.Test.YtgedhnhgkmhgcaaAb11
namespace Go.Proofs.Ytgedhnhgkmhgcaa.Abs
open Go Go.RowKit

section
variable (P : Program) (D : Nat → Option TI) (bx : List (List A)) (rw : List (Nat × List (List A)))

def bitI (op : BinOp) (a b : Int) : Int :=
  match op with
  | .shl => IntKind.i64.wrap (a * 2 ^ min b.toNat 64)
  | .shr => a.fdiv (2 ^ min b.toNat 64)
  | .and => IntKind.i64.wrap ((BitVec.ofInt 64 a &&& BitVec.ofInt 64 b).toNat : Int)
  | .or => IntKind.i64.wrap ((BitVec.ofInt 64 a ||| BitVec.ofInt 64 b).toNat : Int)
  | .andNot => IntKind.i64.wrap ((BitVec.ofInt 64 a &&& ~~~ BitVec.ofInt 64 b).toNat : Int)
  | _ => 0

/-- What the negation of an int is: it turns over at the least one. -/
def NegI (a r : Int) : Prop := r = IntKind.i64.wrap (0 - a)
theorem NegI.ok {a : Int} (h : I64 (-a)) : NegI a (-a) := by
  unfold NegI I64 at *
  rw [IntKind.wrap_i64]; omega
theorem NegI.least : NegI (-9223372036854775808) (-9223372036854775808) := by
  unfold NegI
  rw [IntKind.wrap_i64]; rfl

def vInt (op : BinOp) (k : IntKind) (a b : Int) (K : A → Prop) : Prop :=
  match op with
  | .add => (match k with | .i64 => I64 (a + b) ∧ K (.val (.int .i64 (a + b))) | k => K (.val (.int k (k.wrap (a + b)))))
  | .sub => (match k with | .i64 => I64 (a - b) ∧ K (.val (.int .i64 (a - b))) | k => K (.val (.int k (k.wrap (a - b)))))
  | .mul => (match k with | .i64 => I64 (a * b) ∧ K (.val (.int .i64 (a * b))) | k => K (.val (.int k (k.wrap (a * b)))))
  | .eql => K (.val (.bool (a == b)))
  | .neq => K (.val (.bool (a != b)))
  | .lss => K (.val (.bool (decide (a < b))))
  | .leq => K (.val (.bool (decide (a ≤ b))))
  | .gtr => K (.val (.bool (decide (a > b))))
  | .geq => K (.val (.bool (decide (a ≥ b))))
  | .quo => (match k with | .i64 => b ≠ 0 ∧ I64 (a.tdiv b) ∧ K (.val (.int .i64 (a.tdiv b))) | _ => False)
  | .rem => (match k with | .i64 => b ≠ 0 ∧ K (.val (.int .i64 (a.tmod b))) | _ => False)
  | .and => (match k with | .i64 => K (.val (.int .i64 (bitI .and a b))) | _ => False)
  | .or => (match k with | .i64 => K (.val (.int .i64 (bitI .or a b))) | _ => False)
  | .andNot => (match k with | .i64 => K (.val (.int .i64 (bitI .andNot a b))) | _ => False)
  | _ => False

def vStr (op : BinOp) (a b : ByteArray) (K : A → Prop) : Prop :=
  match op with
  | .add => a.size + b.size ≤ 9223372036854775807 ∧ K (.val (.string (a ++ b)))
  | .eql => K (.val (.bool (a.toList == b.toList)))
  | .neq => K (.val (.bool !(a.toList == b.toList)))
  | .lss => K (.val (.bool (Op.bytesLess a.toList b.toList)))
  | .leq => K (.val (.bool (Op.bytesLess a.toList b.toList || a.toList == b.toList)))
  | .gtr => K (.val (.bool !(Op.bytesLess a.toList b.toList || a.toList == b.toList)))
  | .geq => K (.val (.bool !Op.bytesLess a.toList b.toList))
  | _ => False

def vBool (t : Nat) (op : BinOp) (a b : Bool) (K : A → Prop) : Prop :=
  match D t with
  | some ⟨.bool, _, _, _⟩ => (match op with
    | .eql => K (.val (.bool (a == b)))
    | .neq => K (.val (.bool !(a == b)))
    | _ => False)
  | _ => False

/-- A shift's operands may be of two kinds. -/
def vInt2 (op : BinOp) (k : IntKind) (a : Int) (k' : IntKind) (b : Int) (K : A → Prop) : Prop :=
  match op with
  | .shl => (match k with | .i64 => 0 ≤ b ∧ K (.val (.int .i64 (bitI .shl a b))) | _ => False)
  | .shr => (match k with | .i64 => 0 ≤ b ∧ K (.val (.int .i64 (bitI .shr a b))) | _ => False)
  | op => k = k' ∧ vInt op k a b K

def vBin (op : BinOp) (t : Nat) (x y : A) (K : A → Prop) : Prop :=
  match x, y with
  | .val (.int k a), .val (.int k' b) => vInt2 op k a k' b K
  | .val (.string a), .val (.string b) => vStr op a b K
  | .val (.bool a), .val (.bool b) => vBool D t op a b K
  | _, _ => False

def vUn (op : UnOp) (x : A) (K : A → Prop) : Prop :=
  match op, x with
  | .not, .val (.bool a) => K (.val (.bool !a))
  | .neg, .val (.int .i64 a) => ∃ r, NegI a r ∧ K (.val (.int .i64 r))
  | _, _ => False

def vLoad (t : Nat) (x : A) (K : A → Prop) : Prop :=
  match D t, cellsAt bx rw x with
  | some i, some cs => (i.kind.known = true ∧ (i.kind.plain = true → i.size = 1) ∧ i.size ≤ cs.length) ∧ K (loadA i cs)
  | _, _ => False

def rowOkAt (x : A) : Prop := match x with | .rptr id l _ _ _ => ∃ q, rw[id]? = some q ∧ q.2.length = l | _ => True

def vFieldAddr (s : Nat) (f : Nat) (x : A) (K : A → Prop) : Prop :=
  match D s with
  | some ⟨.struct fs, _, _, _⟩ => (match fs[f]? with
    | some ot => (match D ot.2, addrAdd x ot.1 with
      | some i, some r => i.size ≠ 0 ∧ rowOkAt rw x ∧ K r
      | _, _ => False)
    | none => False)
  | _ => False

def vField (s : Nat) (f : Nat) (x : A) (K : A → Prop) : Prop :=
  match D s, x with
  | some ⟨.struct fs, _, _, _⟩, .agg cs => (match fs[f]? with
    | some ot => (match D ot.2 with
      | some i => (i.kind.known = true ∧ (i.kind.plain = true → i.size = 1) ∧ ot.1 + i.size ≤ cs.length) ∧ K (loadA i (cs.drop ot.1))
      | none => False)
    | none => False)
  | _, _ => False

def vIndexAddr (t : Nat) (x ix : A) (K : A → Prop) : Prop :=
  match D t with
  | some ⟨.slice e, _, _, _⟩ => (match D e with
    | some i => (match x, ix with
      | .sl k xs, .val (.int _ n) => (i.size = k ∧ 0 ≤ n ∧ n < (xs.length : Int)) ∧ K (.elt (xs.getD n.toNat []) 0)
      | .row id l, .val (.int _ n) => (∃ q, rw[id]? = some q ∧ q.1 = i.size ∧ q.2.length = l ∧ 0 ≤ n ∧ n < (l : Int)) ∧ K (.rptr id l i.size n.toNat 0)
      | _, _ => False)
    | none => False)
  | _ => False

def vIndex (t : Nat) (x ix : A) (K : A → Prop) : Prop :=
  match D t, x, ix with
  | some ⟨.str, _, _, _⟩, .val (.string s), .val (.int _ n) => (0 ≤ n ∧ n.toNat < s.size) ∧ K (.val (.int .u8 ((s.data.toList.getD n.toNat 0).toNat : Int)))
  | _, _, _ => False

def bound? (d : Nat) : Option A → Option Int
  | none => some d
  | some (.val (.int _ n)) => some n
  | _ => none

def vSlice (t : Nat) (x : A) (lo hi mx : Option A) (K : A → Prop) : Prop :=
  match D t, mx with
  | some ⟨.slice e, _, _, _⟩, none => (match D e with
    | some i => (match x with
      | .sl k xs => (match bound? 0 lo, bound? xs.length hi with
        | some l, some h => (i.size = k ∧ 0 ≤ l ∧ l ≤ h ∧ h ≤ (xs.length : Int)) ∧ K (.sl k ((xs.take h.toNat).drop l.toNat))
        | _, _ => False)
      | _ => False)
    | none => False)
  | some ⟨.str, _, _, _⟩, none => (match x with
    | .val (.string s) => (match bound? 0 lo, bound? s.size hi with
      | some l, some h => (0 ≤ l ∧ l ≤ h ∧ h ≤ (s.size : Int)) ∧ K (.val (.string (s.extract l.toNat h.toNat)))
      | _, _ => False)
    | _ => False)
  | _, _ => False

def vConvert (s d : Nat) (x : A) (K : A → Prop) : Prop :=
  match D s, D d, x with
  | some ⟨.int _, _, _, _⟩, some ⟨.int .i64, _, _, _⟩, .val (.int _ n) => I64 n ∧ K (.val (.int .i64 n))
  | some ⟨.int _, _, _, _⟩, some ⟨.int k, _, _, _⟩, .val (.int _ n) => K (.val (.int k (k.wrap n)))
  | _, _, _ => False

def vLen (t : Nat) (x : A) (K : A → Prop) : Prop :=
  match D t, x with
  | some ⟨.slice _, _, _, _⟩, .sl _ xs => K (.val (.int .i64 xs.length))
  | some ⟨.slice _, _, _, _⟩, .emp => K (.val (.int .i64 0))
  | some ⟨.slice _, _, _, _⟩, .row id l => (∃ q, rw[id]? = some q ∧ q.2.length = l) ∧ K (.val (.int .i64 l))
  | some ⟨.str, _, _, _⟩, .val (.string s) => K (.val (.int .i64 s.size))
  | _, _ => False

def vBuiltin (b : Builtin) (xs : List A) (ts : List Nat) (K : A → Prop) : Prop :=
  match b, xs, ts with
  | .len, [x], [t] => vLen D rw t x K
  | .max, [.val (.int k a), .val (.int k' b)], _ => k = k' ∧ K (.val (.int k (if b > a then b else a)))
  | .min, [.val (.int k a), .val (.int k' b)], _ => k = k' ∧ K (.val (.int k (if b < a then b else a)))
  | _, _, _ => False

/-- a call: of values without objects; or, where it hands back plain values, of what the objects hold -/
def vCall (f : A) (xs : List A) (ts : List Nat) (K : A → Prop) : Prop :=
  match f with
  | .fn g caps =>
    if noIdsL (normL D ts xs ++ caps) = true then ∃ r, Pure P g (normL D ts xs ++ caps) r ∧ K r
    else noIdsL ((normL D ts xs ++ caps).map (shutA bx rw)) = true ∧ ∃ r, Pure P g ((normL D ts xs ++ caps).map (shutA bx rw)) r ∧ flat r = true ∧ K r
  | _ => False

def vBuild (t : Nat) (ps : List (Nat × A)) (K : A → Prop) : Prop :=
  match D t with
  | some ⟨.struct fs, _, _, z⟩ => (match partsA (fieldSz D fs) (z.cells.toList.map liftV) ps with
    | some cs => (fs.all fun f => (D f.2).isSome) = true ∧ K (.agg cs)
    | none => False)
  | _ => False

def vBuildSlice (t : Nat) (n : Nat) (ps : List (Nat × A)) (K : A → Prop) : Prop :=
  match D t with
  | some ⟨.slice e, _, _, _⟩ => (match D e with
    | some i => (match n with
      | 0 => ps = [] ∧ K .emp
      | n => (match partsA (fun q => some (q * i.size, i.size)) (madeA i n) (ps.map fun p => (p.1, normA D e p.2)) with
        | some cs => (0 < i.size ∧ n * i.size ≤ 16777216) ∧ K (.sl i.size (chunk i.size n cs))
        | none => False))
    | none => False)
  | _ => False

/-- an operation that leaves the store alone -/
def qval (op : Op) (ρ : Operand → A) (K : A → Prop) : Prop :=
  match op with
  | .move x => K (ρ x)
  | .assign x => K (ρ x)
  | .pick c a b => (match ρ c with | .val (.bool t) => (t = true → K (ρ a)) ∧ (t = false → K (ρ b)) | _ => False)
  | .binOp op t x y _ => vBin D op t (ρ x) (ρ y) K
  | .unOp op _ x => vUn op (ρ x) K
  | .load t x => vLoad D bx rw t (ρ x) K
  | .fieldAddr s x f => vFieldAddr D rw s f (ρ x) K
  | .field s x f => vField D s f (ρ x) K
  | .indexAddr t x ix => vIndexAddr D rw t (ρ x) (ρ ix) K
  | .index t x ix => vIndex D t (ρ x) (ρ ix) K
  | .slice t x lo hi mx => vSlice D t (ρ x) (lo.map ρ) (hi.map ρ) (mx.map ρ) K
  | .convert s d x => vConvert D s d (ρ x) K
  | .makeFunc (.func g) fs cs => fs = #[] ∧ K (.fn g (cs.toList.map ρ))
  | .extract x n => (match ρ x with | .tup cs => (match cs[n]? with | some c => K c | none => False) | _ => False)
  | .nilCheck x => isAddr (ρ x) = true ∧ K (ρ x)
  | .build t ps => vBuild D t (ps.toList.map fun p => (p.1, ρ p.2)) K
  | .buildSlice t n ps => vBuildSlice D t n (ps.toList.map fun p => (p.1, ρ p.2)) K
  | .call c => (match c.callee with
    | .builtin b => vBuiltin D rw b (c.args.toList.map ρ) c.argTypes.toList K
    | .value f => vCall P D bx rw (ρ f) (c.args.toList.map ρ) c.argTypes.toList K
    | _ => False)
  | _ => False
end

section
variable {P : Program} {D : Nat → Option TI} {bx : List (List A)} {rw : List (Nat × List (List A))} {o : Oper} {ρ : Operand → A} {K : A → Prop}

def Does (P : Program) (bx : List (List A)) (rw : List (Nat × List (List A))) (o : Oper) (ρ : Operand → A) (K : A → Prop) : Prop := ∃ r, QOp P o ρ bx rw r ∧ K r

theorem wrap_I64 {n : Int} (h : I64 n) : IntKind.i64.wrap n = n := by
  unfold I64 at h
  rw [IntKind.wrap_i64]; omega

theorem q_shiftI {op : BinOp} {t u : TypeId} {x y : Operand} (ho : o.op = .binOp op t x y u) {a b : Int} {k' : IntKind} (hx : ρ x = .val (.int .i64 a)) (hy : ρ y = .val (.int k' b)) (hb : 0 ≤ b) (hop : op = .shl ∨ op = .shr) :
    QOp P o ρ bx rw (.val (.int .i64 (bitI op a b))) := by
  refine q_val fun w ev h => ?_
  have h1 := h x (by simp [ho, Op.operands]) _ hx
  have h2 := h y (by simp [ho, Op.operands]) _ hy
  have hb' : ¬ b < 0 := by omega
  have hk : IntKind.i64.bits = 64 := rfl
  rcases hop with rfl | rfl <;> simp [execOp, ho, h1, h2, eqGuard, binOp, Op.shift, hb', bitI, hk]

theorem q_bitI {op : BinOp} {t u : TypeId} {x y : Operand} (ho : o.op = .binOp op t x y u) {a b : Int} (hx : ρ x = .val (.int .i64 a)) (hy : ρ y = .val (.int .i64 b)) (hop : op = .and ∨ op = .or ∨ op = .andNot) :
    QOp P o ρ bx rw (.val (.int .i64 (bitI op a b))) := by
  refine q_val fun w ev h => ?_
  have h1 := h x (by simp [ho, Op.operands]) _ hx
  have h2 := h y (by simp [ho, Op.operands]) _ hy
  have hk : IntKind.i64.bits = 64 := rfl
  rcases hop with rfl | rfl | rfl <;> simp only [execOp, ho, h1, h2, eqGuard, binOp, Op.intBits, bitI] <;> simp <;> rfl

theorem does_int {op : BinOp} {t u : TypeId} {x y : Operand} (ho : o.op = .binOp op t x y u) {k : IntKind} {a b : Int} (hx : ρ x = .val (.int k a)) (hy : ρ y = .val (.int k b)) (h : vInt op k a b K) : Does P bx rw o ρ K := by
  cases op <;> simp only [vInt] at h
  case add =>
    cases k
    case i64 => exact ⟨_, q_arI ho hx hy (r := a + b) (by simp [arI, wrap_I64 h.1]), h.2⟩
    all_goals exact ⟨_, q_arI ho hx hy rfl, h⟩
  case sub =>
    cases k
    case i64 => exact ⟨_, q_arI ho hx hy (r := a - b) (by simp [arI, wrap_I64 h.1]), h.2⟩
    all_goals exact ⟨_, q_arI ho hx hy rfl, h⟩
  case mul =>
    cases k
    case i64 => exact ⟨_, q_arI ho hx hy (r := a * b) (by simp [arI, wrap_I64 h.1]), h.2⟩
    all_goals exact ⟨_, q_arI ho hx hy rfl, h⟩
  case quo =>
    cases k <;> simp only at h
    exact ⟨_, q_divI ho hx hy h.1 (r := a.tdiv b) (Or.inl ⟨rfl, (wrap_I64 h.2.1).symm⟩), h.2.2⟩
  case rem =>
    cases k <;> simp only at h
    exact ⟨_, q_divI ho hx hy h.1 (r := a.tmod b) (Or.inr ⟨rfl, rfl⟩), h.2⟩
  case and =>
    cases k <;> simp only at h
    exact ⟨_, q_bitI ho hx hy (Or.inl rfl), h⟩
  case or =>
    cases k <;> simp only at h
    exact ⟨_, q_bitI ho hx hy (Or.inr (Or.inl rfl)), h⟩
  case andNot =>
    cases k <;> simp only at h
    exact ⟨_, q_bitI ho hx hy (Or.inr (Or.inr rfl)), h⟩
  all_goals exact ⟨_, q_cmpI ho hx hy rfl, h⟩

theorem does_str {op : BinOp} {t u : TypeId} {x y : Operand} (ho : o.op = .binOp op t x y u) {a b : ByteArray} (hx : ρ x = .val (.string a)) (hy : ρ y = .val (.string b)) (h : vStr op a b K) : Does P bx rw o ρ K := by
  cases op <;> simp only [vStr] at h
  case add => exact ⟨_, q_addS ho hx hy h.1, h.2⟩
  all_goals exact ⟨_, q_cmpS ho hx hy rfl, h⟩

theorem does_bin (hD : TyOk P D) {op : BinOp} {t u : TypeId} {x y : Operand} (ho : o.op = .binOp op t x y u) (h : vBin D op t (ρ x) (ρ y) K) : Does P bx rw o ρ K := by
  unfold vBin at h
  split at h
  · rename_i k a k' b hx hy
    unfold vInt2 at h
    split at h
    · cases k <;> simp only at h
      exact ⟨_, q_shiftI ho hx hy h.1 (Or.inl rfl), h.2⟩
    · cases k <;> simp only at h
      exact ⟨_, q_shiftI ho hx hy h.1 (Or.inr rfl), h.2⟩
    · obtain ⟨rfl, h⟩ := h
      exact does_int ho hx hy h
  · rename_i a b hx hy
    exact does_str ho hx hy h
  · rename_i a b hx hy
    unfold vBool at h
    split at h
    · rename_i hd
      have ht := (hD _ _ hd).desc
      cases op <;> simp only at h
      · exact ⟨_, q_cmpB ho hx hy ht (Or.inl ⟨rfl, rfl⟩), h⟩
      · exact ⟨_, q_cmpB ho hx hy ht (Or.inr ⟨rfl, rfl⟩), h⟩
    · exact h.elim
  · exact h.elim

theorem does_fieldAddr (hD : TyOk P D) {s : TypeId} {x : Operand} {f : Nat} (ho : o.op = .fieldAddr s x f) (h : vFieldAddr D rw s f (ρ x) K) : Does P bx rw o ρ K := by
  unfold vFieldAddr at h
  split at h
  · rename_i fs a b z hd
    split at h
    · rename_i ot hf
      split at h
      · rename_i i r hi ha
        obtain ⟨h0, h1, h2⟩ := h
        refine ⟨r, q_fieldAddr ho (hD _ _ hd).desc (off := ot.1) (t := ot.2) hf (hD _ _ hi) h0 ?_ ha, h2⟩
        unfold rowOkAt at h1
        split at h1
        · rename_i id l k ii j hx
          obtain ⟨q, h3, h4⟩ := h1
          exact Or.inr ⟨id, l, k, ii, j, q, hx, h3, h4⟩
        · rename_i hx
          exact Or.inl fun id l k ii j e => hx _ _ _ _ _ e
      · exact h.elim
    · exact h.elim
  · exact h.elim

theorem does_indexAddr (hD : TyOk P D) {t : TypeId} {x ix : Operand} (ho : o.op = .indexAddr t x ix) (h : vIndexAddr D rw t (ρ x) (ρ ix) K) : Does P bx rw o ρ K := by
  unfold vIndexAddr at h
  split at h
  · rename_i e a b z hd
    split at h
    · rename_i i hi
      split at h
      · rename_i k xs ik n hx hn
        exact ⟨_, q_indexAddr ho (hD _ _ hd).desc (hD _ _ hi) h.1.1 hx hn h.1.2.1 h.1.2.2, h.2⟩
      · rename_i id l ik n hx hn
        obtain ⟨⟨q, h1, h2, h3, h4, h5⟩, h6⟩ := h
        refine ⟨_, q_indexAddrRow ho (hD _ _ hd).desc (hD _ _ hi) hx (k := q.1) (xs := q.2) (by rw [h1]) h3 hn h4 h5, h6⟩
      · exact h.elim
    · exact h.elim
  · exact h.elim

theorem bound_some {ρ : Operand → A} {d : Nat} {lo : Option Operand} {l : Int} (h : bound? d (lo.map ρ) = some l) (h0 : 0 ≤ l) : (lo = none ∧ l.toNat = d) ∨ ∃ y ik, lo = some y ∧ ρ y = .val (.int ik (l.toNat : Int)) := by
  cases lo with
  | none => simp only [Option.map_none, bound?, Option.some.injEq] at h; exact Or.inl ⟨rfl, by omega⟩
  | some y =>
    simp only [Option.map_some] at h
    right
    cases hy : ρ y <;> simp only [hy, bound?, reduceCtorEq] at h
    case val v =>
      cases v <;> simp only [reduceCtorEq, Option.some.injEq] at h
      case int k n => exact ⟨y, k, rfl, by rw [hy, h]; congr 2; omega⟩

theorem does_slice (hD : TyOk P D) {t : TypeId} {x : Operand} {lo hi mx : Option Operand} (ho : o.op = .slice t x lo hi mx) (h : vSlice D t (ρ x) (lo.map ρ) (hi.map ρ) (mx.map ρ) K) : Does P bx rw o ρ K := by
  unfold vSlice at h
  split at h
  · rename_i e a b z hd hm
    have hmx : mx = none := by cases mx <;> simp_all
    subst hmx
    split at h
    · rename_i i hi'
      split at h
      · rename_i k xs hx
        split at h
        · rename_i l hh hl hhh
          obtain ⟨⟨h1, h2, h3, h4⟩, h5⟩ := h
          exact ⟨_, q_slice ho (hD _ _ hd).desc (hD _ _ hi') h1 (Or.inl hx) (bound_some hl h2) (bound_some hhh (by omega)) (by omega) (by omega), h5⟩
        · exact h.elim
      · exact h.elim
    · exact h.elim
  · rename_i a b z hd hm
    have hmx : mx = none := by cases mx <;> simp_all
    subst hmx
    split at h
    · rename_i s hx
      split at h
      · rename_i l hh hl hhh
        obtain ⟨⟨h2, h3, h4⟩, h5⟩ := h
        exact ⟨_, q_sliceS ho (hD _ _ hd).desc hx (bound_some hl h2) (bound_some hhh (by omega)) (by omega) (by omega), h5⟩
      · exact h.elim
    · exact h.elim
  · exact h.elim

theorem does_convert (hD : TyOk P D) {s d : TypeId} {x : Operand} (ho : o.op = .convert s d x) (h : vConvert D s d (ρ x) K) : Does P bx rw o ρ K := by
  unfold vConvert at h
  split at h
  · rename_i k a b c a' b' c' k' n hs hd hx
    have := q_convI (P := P) (bx := bx) (rw := rw) ho hx ⟨_, (hD _ _ hs).desc⟩ (hD _ _ hd).desc
    rw [wrap_I64 h.1] at this
    exact ⟨_, this, h.2⟩
  · rename_i k a b c k'' a' b' c' k' n _ hs hd hx
    exact ⟨_, q_convI ho hx ⟨_, (hD _ _ hs).desc⟩ (hD _ _ hd).desc, h⟩
  · exact h.elim

theorem does_len (hD : TyOk P D) {xs : Array Operand} {ts : Array TypeId} {x : Operand} {t : TypeId} (ho : o.op = .call { callee := .builtin .len, args := xs, argTypes := ts }) (hxs' : xs = #[x]) (hts : ts = #[t])
    (h : vLen D rw t (ρ x) K) : Does P bx rw o ρ K := by
  unfold vLen at h
  split at h
  · rename_i e a b z k l hd hx
    exact ⟨_, q_len ho hxs' hts (Or.inr (Or.inl ⟨k, l, e, hx, rfl, (hD _ _ hd).desc⟩)), h⟩
  · rename_i e a b z hd hx
    exact ⟨_, q_len ho hxs' hts (r := 0) (Or.inl ⟨e, hx, rfl, (hD _ _ hd).desc⟩), h⟩
  · rename_i e a b z id l hd hx
    exact ⟨_, q_len ho hxs' hts (Or.inr (Or.inr (Or.inl ⟨id, l, e, hx, rfl, h.1, (hD _ _ hd).desc⟩))), h.2⟩
  · rename_i a b z s hd hx
    exact ⟨_, q_len ho hxs' hts (Or.inr (Or.inr (Or.inr ⟨s, hx, rfl, (hD _ _ hd).desc⟩))), h⟩
  · exact h.elim

theorem does_call {f : Operand} {xs : Array Operand} {ts : Array TypeId} (ho : o.op = .call { callee := .value f, args := xs, argTypes := ts }) (h : vCall P D bx rw (ρ f) (xs.toList.map ρ) ts.toList K) : Does P bx rw o ρ K := by
  unfold vCall at h
  split at h
  · rename_i g caps hf
    have hsub : ∀ (w : World) (O : Nat → Prop) (m : M) (ls : List Nat) (vs : List Value), relL w O m ls (xs.toList.map ρ) vs → relL w O m ls (normL D ts.toList (xs.toList.map ρ)) vs := fun _ _ _ _ _ h => relL_normL h
    split at h
    · rename_i hn
      obtain ⟨r, h1, h2⟩ := h
      exact ⟨r, q_call ho hf hsub hn h1, h2⟩
    · obtain ⟨h1, r, h3, h2, h4⟩ := h
      exact ⟨r, q_callB ho hf hsub h1 h3 h2, h4⟩
  · exact h.elim

theorem does_builtin (hD : TyOk P D) {b : Builtin} {xs : Array Operand} {ts : Array TypeId} (ho : o.op = .call { callee := .builtin b, args := xs, argTypes := ts }) (h : vBuiltin D rw b (xs.toList.map ρ) ts.toList K) : Does P bx rw o ρ K := by
  unfold vBuiltin at h
  split at h
  · rename_i x t hxs hts
    obtain ⟨y, hy⟩ : ∃ y, xs = #[y] := by
      have := congrArg List.length hxs
      simp at this
      obtain ⟨y, hy⟩ := Array.size_eq_one_iff.1 this
      exact ⟨y, hy⟩
    obtain rfl : ts = #[t] := by apply Array.ext'; simpa using hts
    subst hy
    simp only [List.map_cons, List.map_nil, List.cons.injEq, and_true] at hxs
    subst hxs
    exact does_len hD ho rfl rfl h
  · rename_i k a k' b hxs
    obtain ⟨rfl, h⟩ := h
    obtain ⟨y, z, hy⟩ : ∃ y z, xs = #[y, z] := by
      have := congrArg List.length hxs
      simp at this
      obtain ⟨l, rfl⟩ : ∃ l : List Operand, xs = l.toArray := ⟨xs.toList, by simp⟩
      match l, this with
      | [y, z], _ => exact ⟨y, z, rfl⟩
    subst hy
    simp only [List.map_cons, List.map_nil, List.cons.injEq, and_true] at hxs
    exact ⟨_, q_max ho rfl hxs.1 hxs.2, h⟩
  · rename_i k a k' b hxs
    obtain ⟨rfl, h⟩ := h
    obtain ⟨y, z, hy⟩ : ∃ y z, xs = #[y, z] := by
      have := congrArg List.length hxs
      simp at this
      obtain ⟨l, rfl⟩ : ∃ l : List Operand, xs = l.toArray := ⟨xs.toList, by simp⟩
      match l, this with
      | [y, z], _ => exact ⟨y, z, rfl⟩
    subst hy
    simp only [List.map_cons, List.map_nil, List.cons.injEq, and_true] at hxs
    exact ⟨_, q_min ho rfl hxs.1 hxs.2, h⟩
  · exact h.elim

theorem does_buildSlice (hD : TyOk P D) {t : TypeId} {n : Nat} {ps : Array (Nat × Operand)} (ho : o.op = .buildSlice t n ps) (h : vBuildSlice D t n (ps.toList.map fun p => (p.1, ρ p.2)) K) : Does P bx rw o ρ K := by
  unfold vBuildSlice at h
  split at h
  · rename_i e a b z hd
    split at h
    · rename_i i hi
      split at h
      · refine ⟨_, q_buildSlice0 hD ho ?_ (hD _ _ hd).desc hi, h.2⟩
        have := h.1
        simpa using this
      · split at h
        · rename_i cs hc
          refine ⟨_, QOp.weaken (ρ2 := fun x => normA D e (ρ x)) (q_buildSlice hD ho (hD _ _ hd).desc hi h.1.1 h.1.2 (cs := cs) ?_) (fun x w O m ls v hr => rel_normA hr), h.2⟩
          rw [List.map_map] at hc
          exact hc
        · exact h.elim
    · exact h.elim
  · exact h.elim

theorem does_qval (hD : TyOk P D) (h : qval P D bx rw o.op ρ K) : Does P bx rw o ρ K := by
  unfold qval at h
  split at h
  · rename_i x ho; exact ⟨_, q_move ho, h⟩
  · rename_i x ho; exact ⟨_, q_assign ho, h⟩
  · rename_i c a b ho
    split at h
    · rename_i t hc
      refine ⟨_, q_pick ho hc, ?_⟩
      cases t
      · exact h.2 rfl
      · exact h.1 rfl
    · exact h.elim
  · rename_i op t x y u ho; exact does_bin hD ho h
  · rename_i op t x ho
    unfold vUn at h
    split at h
    · rename_i a hx; exact ⟨_, q_not ho hx, h⟩
    · rename_i a hx
      have := q_neg (P := P) (bx := bx) (rw := rw) ho hx
      obtain ⟨r, hr, hk⟩ := h
      unfold NegI at hr
      rw [← hr] at this
      exact ⟨_, this, hk⟩
    · exact h.elim
  · rename_i t x ho
    unfold vLoad at h
    split at h
    · rename_i i cs hi hc
      exact ⟨_, q_load ho (hD _ _ hi) h.1.1 h.1.2.1 hc h.1.2.2, h.2⟩
    · exact h.elim
  · rename_i s x f ho; exact does_fieldAddr hD ho h
  · rename_i s x f ho
    unfold vField at h
    split at h
    · rename_i fs a b z cs hd hx
      split at h
      · rename_i ot hf
        split at h
        · rename_i i hi
          exact ⟨_, q_field ho (hD _ _ hd).desc (off := ot.1) (t := ot.2) hf (hD _ _ hi) h.1.1 h.1.2.1 hx h.1.2.2, h.2⟩
        · exact h.elim
      · exact h.elim
    · exact h.elim
  · rename_i t x ix ho; exact does_indexAddr hD ho h
  · rename_i t x ix ho
    unfold vIndex at h
    split at h
    · rename_i a b z s ik n hd hx hn
      exact ⟨_, q_index ho (hD _ _ hd).desc hx hn h.1.1 h.1.2, h.2⟩
    · exact h.elim
  · rename_i t x lo hi mx ho; exact does_slice hD ho h
  · rename_i s d x ho; exact does_convert hD ho h
  · rename_i g fs cs ho
    obtain ⟨rfl, h⟩ := h
    exact ⟨_, q_makeFunc ho, h⟩
  · rename_i x n ho
    split at h
    · rename_i cs hx
      split at h
      · rename_i c hc; exact ⟨_, q_extract ho hx hc, h⟩
      · exact h.elim
    · exact h.elim
  · rename_i x ho; exact ⟨_, q_nilCheck ho h.1, h.2⟩
  · rename_i t ps ho
    unfold vBuild at h
    split at h
    · rename_i fs a b z hd
      split at h
      · rename_i cs hc
        exact ⟨_, q_build hD ho hd rfl h.1 hc, h.2⟩
      · exact h.elim
    · exact h.elim
  · rename_i t n ps ho; exact does_buildSlice hD ho h
  · rename_i c ho
    obtain ⟨callee, args, ts⟩ := c
    cases callee with
    | value f => exact does_call ho h
    | builtin b => exact does_builtin hD ho h
    | invoke a b => exact h.elim
  · exact h.elim

end
end Go.Proofs.Ytgedhnhgkmhgcaa.Abs
