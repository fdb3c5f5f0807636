/- OPERATIONS THAT TURN THE STORE (3): what they come to, and that it is so. -/
import Derived.Test.YtnbjmmldjggkfaaGreatE10
namespace Go.Proofs.YtnbjmmldjggkfaaGreat.Abs
open Go Go.RowKit
noncomputable section

/-- What is still to be reckoned before an operation's outcome is known. -/
inductive LX where
  | fail
  | ret (v : V) (rds : List Rd) (wrs : List Wr)
  | bnd (x : Option A) (k : A → LX)
  | nat (x : Option Nat) (k : Nat → LX)
  | rows (x : Option (List (List A))) (k : List (List A) → LX)
  | cells (x : Option (List A)) (k : List A → LX)
  | chk (b : Bool) (k : LX)
  | node (x : Node) (k : Out → LX)
  | cnd (a : A) (x y : LX)

/-- A branch on what is not known before. -/
def brn {α : Type} (b : Bool) (x y : α) : α := if b then x else y

def LX.run (M : Node → Option Out) : LX → (V → List Rd → List Wr → Option Out) → Option Out
  | .fail, _ => none
  | .ret v rds wrs, κ => κ v rds wrs
  | .bnd x k, κ => x.bind fun a => (k a).run M κ
  | .nat x k, κ => x.bind fun a => (k a).run M κ
  | .rows x k, κ => x.bind fun a => (k a).run M κ
  | .cells x k, κ => x.bind fun a => (k a).run M κ
  | .chk b k, κ => brn b (k.run M κ) none
  | .node x k, κ => (M x).bind fun a => (k a).run M κ
  | .cnd a x y, κ => (pBool a).bind fun t => brn t (x.run M κ) (y.run M κ)

def LXok (P : Program) (X : Ctx) (M : Node → Option Out) (o : Oper) (ρ : Operand → V) (st : Stor) : LX → Prop
  | .fail => True
  | .ret v rds wrs => TOp P X o ρ ⟨v, rds, wrs⟩ ∧ ∀ r ∈ rds, agr st r
  | .bnd x k => ∀ a, x = some a → LXok P X M o ρ st (k a)
  | .nat x k => ∀ a, x = some a → LXok P X M o ρ st (k a)
  | .rows x k => ∀ a, x = some a → LXok P X M o ρ st (k a)
  | .cells x k => ∀ a, x = some a → LXok P X M o ρ st (k a)
  | .chk b k => b = true → LXok P X M o ρ st k
  | .node x k => ∀ out, M x = some out → LXok P X M o ρ st (k out)
  | .cnd a x y => (pBool a = some true → LXok P X M o ρ st x) ∧ (pBool a = some false → LXok P X M o ρ st y)

/-! ### The cells of a value -/
def chkCells : List V → LX → LX
  | [], k => k
  | .d a :: cs, k => .chk (okA a) (chkCells cs k)
  | .agg _ :: _, _ => .fail
  | .tup _ :: _, _ => .fail
  | .top :: _, _ => .fail
  | _ :: cs, k => chkCells cs k

def pCells (n : Nat) (a : A) : Option (List A) := match a with | .agg ds => if ds.length = n ∧ ds.all okA = true then some ds else none | _ => none

def isRef : V → Bool | .agg _ => false | .tup _ => false | .top => false | _ => true

def cGet (ds : List A) (j : Nat) : A := ds.getD j .top

def cellsL (plain : Bool) (n : Nat) (v : V) (k : List V → LX) : LX :=
  if plain then (if isRef v then chkCells [v] (k [v]) else .fail)
  else (match v with
    | .agg cs => if Nat.beq cs.length n then chkCells cs (k cs) else .fail
    | .d a => .cells (pCells n a) fun ds => k ((List.range n).map fun j => .d (cGet ds j))
    | _ => .fail)

def CellsOk (v : V) (ds : List V) : Prop := ∀ (w : World) (O : Nat → Prop) (m : Asg) (u : Value), relV w O m v u → relVL w O m ds u.cells.toList ∧ OneCells u.cells.toList

def DatOk (ds : List V) : Prop := ∀ c ∈ ds, ∀ a, c = .d a → okA a = true

section
variable {P : Program} {X : Ctx} {o : Oper} {ρ : Operand → V} {C : Cfg} {M : Node → Option Out} {st : Stor}

theorem chkCells_ok {k : LX} : ∀ {cs : List V}, ((∀ c ∈ cs, isRef c = true) → DatOk cs → LXok P X M o ρ st k) → LXok P X M o ρ st (chkCells cs k)
  | [], h => h (by simp) (fun c hc => by cases hc)
  | c :: cs, h => by
    cases c <;> simp only [chkCells]
    case agg => trivial
    case tup => trivial
    case top => trivial
    case d a =>
      intro ha
      refine chkCells_ok fun h1 h2 => h (fun c hc => ?_) (fun c hc a' e => ?_)
      · rcases List.mem_cons.1 hc with rfl | hc
        · rfl
        · exact h1 c hc
      · rcases List.mem_cons.1 hc with rfl | hc
        · cases e; exact ha
        · exact h2 c hc a' e
    all_goals
      refine chkCells_ok fun h1 h2 => h (fun c hc => ?_) (fun c hc a' e => ?_)
      · rcases List.mem_cons.1 hc with rfl | hc
        · rfl
        · exact h1 c hc
      · rcases List.mem_cons.1 hc with rfl | hc
        · cases e
        · exact h2 c hc a' e

theorem relV_one {w : World} {O : Nat → Prop} {m : Asg} {v : V} {u : Value} (h : relV w O m v u) (hr : isRef v = true) (hd : ∀ a, v = .d a → okA a = true) : u.oneCell' = true := by
  cases v <;> simp only [isRef, Bool.false_eq_true] at hr <;> simp only [relV] at h
  case d a => exact rel_okA h (hd a rfl)
  case nil => obtain ⟨a, rfl⟩ := h; rfl
  case fn => obtain ⟨vs, rfl, _⟩ := h; rfl
  case ptr => obtain ⟨b, c, n, _, rfl⟩ := h; rfl
  case row =>
    obtain ⟨hd, _, h2⟩ := h
    cases hd with
    | none => obtain ⟨a, rfl⟩ := h2; rfl
    | blk b c n => simp only [hdr] at h2; subst h2; rfl
    | tre f b c n ks => simp only [hdr] at h2; subst h2; rfl
    | mp b => simp only [hdr] at h2; subst h2; rfl
  case sub =>
    obtain ⟨hd, _, h2⟩ := h
    obtain ⟨a, n, c, rfl⟩ := subV_slice h2
    rfl
  case rptr => obtain ⟨b, c, n, _, rfl⟩ := h; rfl
  case win =>
    obtain ⟨hd, _, h⟩ := h
    cases hd with
    | none => simp only [winV] at h; obtain ⟨_, _, a, rfl⟩ := h; rfl
    | blk b c l => simp only [winV] at h; obtain ⟨_, q, rfl, _⟩ := h; rfl
    | tre => exact h.elim
    | mp => exact h.elim
  case ub => obtain ⟨b, rfl, _⟩ := h; rfl

theorem relVL_ones {w : World} {O : Nat → Prop} {m : Asg} : ∀ {cs : List V} {us : List Value}, relVL w O m cs us → (∀ c ∈ cs, isRef c = true) → DatOk cs → OneCells us
  | [], us, h, _, _ => by simp only [relVL] at h; subst h; intro v hv; cases hv
  | c :: cs, us, h, h1, h2 => by
    simp only [relVL] at h
    obtain ⟨v, r, rfl, g1, g2⟩ := h
    intro y hy
    rcases List.mem_cons.1 hy with rfl | hy
    · exact relV_one g1 (h1 c (by simp)) (h2 c (by simp))
    · exact relVL_ones g2 (fun c hc => h1 c (by simp [hc])) (fun c hc => h2 c (by simp [hc])) y hy

theorem cellsL_ok {plain : Bool} {n : Nat} {v : V} {k : List V → LX} (h : ∀ ds, CellsOk v ds → DatOk ds → ds.length = (if plain then 1 else n) → LXok P X M o ρ st (k ds)) : LXok P X M o ρ st (cellsL plain n v k) := by
  unfold cellsL
  split
  · rename_i hp
    split
    · rename_i hr
      refine chkCells_ok fun h1 h2 => h [v] (fun w O m u hu => ?_) h2 (by simp [hp])
      have ho := relV_one hu hr (h2 v (by simp))
      have hc := cells_one ho
      rw [hc]
      refine ⟨?_, fun y hy => ?_⟩
      · simp only [relVL]; exact ⟨u, [], rfl, hu, rfl⟩
      · have : y = u := by simpa using hy
        subst this; exact ho
    · trivial
  · rename_i hp
    split
    · rename_i cs
      split
      · rename_i hn
        refine chkCells_ok fun h1 h2 => h cs (fun w O m u hu => ?_) h2 (by simp [hp, Nat.eq_of_beq_eq_true hn])
        simp only [relV] at hu
        obtain ⟨vs, rfl, g⟩ := hu
        have g' : relVL w O m cs (Value.agg vs.toArray).cells.toList := by simpa [Value.cells] using g
        exact ⟨g', relVL_ones g' h1 h2⟩
      · trivial
    · rename_i a
      intro ds hds
      unfold pCells at hds
      split at hds
      · rename_i ds'
        split at hds
        · rename_i hc
          cases hds
          obtain ⟨hl, hok⟩ := hc
          have e : (List.range n).map (fun j => V.d (ds.getD j .top)) = ds.map V.d := by
            apply List.ext_getElem?
            intro q
            by_cases hq : q < n
            · have hq' : q < ds.length := by omega
              simp [List.getElem?_range hq, hq', List.getD_eq_getElem?_getD]
            · rw [List.getElem?_eq_none (by simp; omega), List.getElem?_eq_none (by simp; omega)]
          show LXok P X M o ρ st (k ((List.range n).map fun j => V.d (ds.getD j .top)))
          rw [e]
          have hD : DatOk (ds.map V.d) := fun c hc a' e' => by
            obtain ⟨b, hb, rfl⟩ := List.mem_map.1 hc
            cases e'
            exact List.all_eq_true.1 hok _ hb
          refine h _ (fun w O m u hu => ?_) hD (by simp [hp, hl])
          simp only [relV, rel] at hu
          obtain ⟨vs, rfl, g⟩ := hu
          have g2 : ∀ {ds : List A} {vs : List Value}, relL w O ds vs → relVL w O m (ds.map V.d) vs := by
            intro ds
            induction ds with
            | nil => intro vs h; simpa [relL, relVL] using h
            | cons d ds ih =>
              intro vs h
              simp only [relL] at h
              obtain ⟨v, r, rfl, e1, e2⟩ := h
              simp only [List.map_cons, relVL, relV]
              exact ⟨v, r, rfl, e1, ih e2⟩
          have g' : relVL w O m (ds.map V.d) (Value.agg vs.toArray).cells.toList := by simpa [Value.cells] using g2 g
          exact ⟨g', relVL_ones g' (fun c hc => by obtain ⟨b, _, rfl⟩ := List.mem_map.1 hc; rfl) hD⟩
        · cases hds
      · cases hds
    · trivial

theorem sealC_okA {st0 : Stor} : ∀ {cs : List V} {as : List A} {r : List Rd} {ws : List Wr}, sealC st0 cs = some (as, r, ws) → DatOk cs → as.all okA = true ∧ as.length = cs.length
  | [], as, r, ws, h, _ => by simp only [sealC, Option.some.injEq, Prod.mk.injEq] at h; obtain ⟨rfl, _⟩ := h; simp
  | c :: cs, as, r, ws, h, hd => by
    cases c <;> simp only [sealC, reduceCtorEq] at h
    case d a =>
      split at h
      · rename_i h1
        cases h
        have := sealC_okA h1 fun c hc => hd c (by simp [hc])
        exact ⟨by simp only [List.all_cons, hd (.d a) (by simp) a rfl, this.1, Bool.and_self], by simp [this.2]⟩
      · cases h
    case nil k =>
      split at h
      · rename_i h1
        cases h
        have := sealC_okA h1 fun c hc => hd c (by simp [hc])
        exact ⟨by simp only [List.all_cons, okA, this.1, Bool.and_self], by simp [this.2]⟩
      · cases h
    case row id =>
      split at h
      · rename_i h1
        have := sealC_okA h1 fun c hc => hd c (by simp [hc])
        split at h
        · cases h; exact ⟨by simp only [List.all_cons, okA, this.1, Bool.and_self], by simp [this.2]⟩
        · cases h; exact ⟨by simp only [List.all_cons, okA, this.1, Bool.and_self], by simp [this.2]⟩
        · cases h
      · cases h

/-! ### Boxes -/
theorem run_box {t : TypeId} {x : Operand} {ev : Operand → Value} (ho : o.op = .box t x) (w : World) : (execOp ev o).run P w = .ok (.value (.pointer (some ⟨w.heap.size, 0, none⟩))) (w.alloc (.cells (ev x).cells t)) := by
  simp [execOp, ho, Instr.box, newVar, newRow]

theorem TOp.box {t : TypeId} {x : Operand} (ho : o.op = .box t x) {v : V} (hv : ∀ (w : World) (O : Nat → Prop) (m : Asg) (u : Value), relV w O m (ρ x) u → relV w O m v u) {ds : List V} (hc : CellsOk v ds) {nid : Nat} : TOp P X o ρ ⟨.ptr nid 0, [.fresh nid], [.obj nid (.box ds)]⟩ := by
  intro w O0 m st ev hs hg hr _hc
  obtain ⟨h1, h2⟩ := hc _ _ _ _ (hv _ _ _ _ (hr x (by simp [ho, Op.operands])))
  rw [run_box ho]
  exact post_newbox hs (below_alloc w _) (by rw [size_alloc']; omega) (hg (.fresh nid) (by simp)) (heap_alloc_new w _) h2 h1

theorem TOp.alloc {t : TypeId} (ho : o.op = .alloc t) {i : TI} (hi : TI.ok P t i) {ds : List V} (hz : ∀ (w : World) (O : Nat → Prop) (m : Asg), relVL w O m ds i.zero.cells.toList) (hone : OneCells i.zero.cells.toList) {nid : Nat} :
    TOp P X o ρ ⟨.ptr nid 0, [.fresh nid], [.obj nid (.box ds)]⟩ := by
  intro w O0 m st ev hs hg hr _hc
  have hrun : (execOp ev o).run P w = .ok (.value (.pointer (some ⟨w.heap.size, 0, none⟩))) (w.alloc (.cells i.zero.cells t)) := by
    simp [execOp, ho, Instr.alloc, hi.run_zero w, newVar, newRow]
  rw [hrun]
  exact post_newbox hs (below_alloc w _) (by rw [size_alloc']; omega) (hg (.fresh nid) (by simp)) (heap_alloc_new w _) hone (hz _ _ _)

/-- The place of an element of a living row. -/
theorem TOp.indexRow {t : TypeId} {x ix : Operand} (ho : o.op = .indexAddr t x ix) {e : Nat} (ht : P.underlying t = some (.slice e)) {i : TI} (hi : TI.ok P e i) {id len n : Nat} {b : A} (hx : ρ x = .row id) (hn : dat (ρ ix) = some b) (h : pIx len b = some n) :
    TOp P X o ρ ⟨.rptr id n i.size 0, [.len id i.size len], []⟩ := by
  refine TOp.same fun w O0 m st ev hs hg hr => ?_
  have hx' := hr x (by simp [ho, Op.operands])
  have hn' := rel_dat hn (hr ix (by simp [ho, Op.operands]))
  rw [hx] at hx'
  obtain ⟨kk, z, rfl, h0, h2, rfl⟩ := pIx_some h
  obtain ⟨xs, g1, rfl⟩ := hg _ (List.mem_singleton.2 rfl)
  obtain ⟨hd, q1, q2, q3⟩ := row_at hs g1 hx'
  simp only [rel] at hn'
  cases hd with
  | none => simp only [rowOk] at q3; subst q3; simp at h2; omega
  | blk b c n =>
    obtain ⟨rfl, _⟩ := q3
    simp only [hdr] at q2
    have hb : 0 ≤ z ∧ z < (xs.length : Int) := ⟨h0, h2⟩
    refine ⟨.pointer (some ⟨b, z.toNat * i.size, none⟩), ?_, ?_⟩
    · simp only [execOp, ho, Instr.indexAt, q2, hn', asIntOf, Sem.run_bind, Sem.run_pure, Result.andThen_ok, run_underlying ht, hb, and_self, if_true, hi.run_sizeOf w, add_eq, Sem.run_ite, Nat.zero_add]
    · simp only [relV]
      exact ⟨_, b, q1, rfl, by simp⟩
  | tre => exact q3.elim
  | mp => exact q3.elim

/-- A part of a row: the row is turned no more. -/
theorem TOp.sliceRow {t : TypeId} {x : Operand} {lo hi : Option Operand} (ho : o.op = .slice t x lo hi none) {e : Nat} (ht : P.underlying t = some (.slice e)) {i : TI} (hi' : TI.ok P e i) {id : Nat} {xs : List (List A)} (hx : ρ x = .row id)
    {alo ahi : Option A} (hlo : ∀ y, lo = some y → ∃ a, alo = some a ∧ dat (ρ y) = some a) (hlo0 : lo = none → alo = none) (hhi : ∀ y, hi = some y → ∃ a, ahi = some a ∧ dat (ρ y) = some a) (hhi0 : hi = none → ahi = none)
    {r : A} (h : pSlice i.size (.sl i.size xs) alo ahi = some r) : TOp P X o ρ ⟨.d r, [.obj id (.row i.size xs)], [.obj id (.fro i.size xs)]⟩ := by
  intro w O0 m st ev hs hg hr _hc
  have hid : st id = .row i.size xs := hg _ (List.mem_singleton.2 rfl)
  have hx' := hr x (by simp [ho, Op.operands])
  rw [hx] at hx'
  have hs1 := hs.freeze hid
  have hsub : ∀ b, Ow O0 m (upd st id (.fro i.size xs)) b → Ow O0 m st b := Ow_upd fun h => by cases h
  have hdata : rel w (Ow O0 m (upd st id (.fro i.size xs))) (.sl i.size xs) (ev x) := by
    refine fro_rel hs1 (id := id) (upd_self _ _ _) ?_
    simp only [relV] at hx' ⊢
    exact hx'
  have hd : ∀ y, y ∈ o.op.operands → ∀ a, dat (ρ y) = some a → rel w (Ow O0 m (upd st id (.fro i.size xs))) a (ev y) := fun y hy a ha => rel_mono (MonoW.sub hsub) _ _ (rel_dat ha (hr y hy))
  obtain ⟨z, h1, h2⟩ := run_slice (P := P) (w := w) (O := Ow O0 m (upd st id (.fro i.size xs))) (ev := ev) ho ht hi' hdata (alo := alo) (ahi := ahi)
    (fun y hy => by obtain ⟨a, e1, e2⟩ := hlo y hy; exact ⟨a, e1, hd y (by simp [ho, Op.operands, hy]) a e2⟩) hlo0 (fun y hy => by obtain ⟨a, e1, e2⟩ := hhi y hy; exact ⟨a, e1, hd y (by simp [ho, Op.operands, hy]) a e2⟩) hhi0 h
  rw [h1]
  exact ⟨m, Chg.ghost fun h => (by cases h), hs1, by simp only [relV]; exact h2⟩
end
end
end Go.Proofs.YtnbjmmldjggkfaaGreat.Abs
