/- OPERATIONS THAT LOOK AND RECKON: that they come to what is said. -/
import Derived.Test.YtnbjmmldjggkfaaGreatE5
namespace Go.Proofs.YtnbjmmldjggkfaaGreat.Abs
open Go Go.RowKit
noncomputable section

/-- Where a run of the evaluator can be: at a call, at a loop's head. -/
inductive Node where
  | call (f : FuncId) (args : List A)
  | callv (f : FuncId) (args : List V) (objs : List Obj)
  | head (f : FuncId) (path : List Nat) (fr : List V) (objs : List Obj) (sh : Option (List Nat))

def fin (chk : Bool) (o : Out) : Option A :=
  match o.2 with
  | [] => if chk && !flatA o.1 then none else some o.1
  | _ => none

def DX.run (C : Cfg) (M : Node → Option Out) : DX → Option A
  | .opt x => x
  | .call f args chk => (M (.call f args)).bind (fin chk)
  | .callc fn args chk => (match fn with
    | .fn f caps => if C.pureF f then (M (.call f (args ++ caps))).bind (fin chk) else none
    | _ => none)

def Enters (P : Program) (f : FuncId) : Prop := ∀ (args : Array Value) (w : World), (callFunc f args).run P w = .ok (.enter f args) w

theorem enters_mk {P : Program} {f : FuncId} {fn : Func} {c : Code} (hf : P.funcs[f]? = some fn) (hn : (fn.name == "runtime.NumGoroutine") = false) (hb : fn.body = some c) : Enters P f := by
  intro args w
  simp [callFunc, hf, hb]
  simpa using hn

/-- A call that reads, and makes memory of its own at most. -/
def PureOk (X : Ctx) (P : Program) (f : FuncId) (args : List A) (out : Out) : Prop := Enters P f ∧
  ∀ (w : World) (O : Nat → Prop) (vs : List Value), X.J w → (∀ b, X.N b → O b) → (∀ b, O b → b < w.heap.size) → relL w O args vs →
    Calls P f vs.toArray w fun e w' => ∃ v, e = .returned v ∧ Below w.heap.size w w' ∧ rel w' O out.1 v

/-- The calls that a library function makes. -/
def askAll (C : Cfg) (M : Node → Option Out) : List (FuncId × List A) → Option (List Out)
  | [] => some []
  | (f, as) :: l => if C.pureF f then (M (.call f as)).bind fun o => (askAll C M l).bind fun os => some (o :: os) else none
def extRun (C : Cfg) (M : Node → Option Out) (x : ExtV) (args : List V) (objs : List Abs.Obj) : Option Out :=
  (x.ask args objs).bind fun qs => (askAll C M qs).bind fun outs => x.ans args objs outs
def AskOk (X : Ctx) (P : Program) (qs : List (FuncId × List A)) (outs : List Out) : Prop := outs.length = qs.length ∧ ∀ (i : Nat) (q : FuncId × List A) (o : Out), qs[i]? = some q → outs[i]? = some o → PureOk X P q.1 q.2 o

def PureM (X : Ctx) (C : Cfg) (M : Node → Option Out) : Prop := ∀ f args out, C.pureF f = true → M (.call f args) = some out → PureOk X C.P f args out

theorem askAll_ok {X : Ctx} {C : Cfg} {M : Node → Option Out} (hM : PureM X C M) : ∀ {qs : List (FuncId × List A)} {outs : List Out}, askAll C M qs = some outs → AskOk X C.P qs outs
  | [], outs, h => by simp only [askAll, Option.some.injEq] at h; subst h; exact ⟨rfl, fun i q o h => by simp at h⟩
  | (f, as) :: l, outs, h => by
    simp only [askAll] at h
    split at h
    · rename_i hp
      obtain ⟨o, h1, h2⟩ := Option.bind_eq_some_iff.1 h
      obtain ⟨os, h3, h4⟩ := Option.bind_eq_some_iff.1 h2
      cases h4
      obtain ⟨g1, g2⟩ := askAll_ok hM h3
      refine ⟨by simp [g1], fun i q o' hq ho => ?_⟩
      cases i with
      | zero => simp at hq ho; subst hq ho; exact hM f as o hp h1
      | succ i => exact g2 i q o' (by simpa using hq) (by simpa using ho)
    · cases h

section
variable {P : Program} {X : Ctx} {o : Oper} {ρ : Operand → V}

theorem TOp.same {v : V} {rds : List Rd} (h : ∀ (w : World) (O0 : Nat → Prop) (m : Asg) (st : Stor) (ev : Operand → Value), Sto X w O0 m st → (∀ r ∈ rds, agr st r) → (∀ x ∈ o.op.operands, relV w (Ow O0 m st) m (ρ x) (ev x)) →
    ∃ u, (execOp ev o).run P w = .ok (.value u) w ∧ relV w (Ow O0 m st) m v u) : TOp P X o ρ ⟨v, rds, []⟩ := by
  intro w O0 m st ev hs hg hr _hc
  obtain ⟨u, h1, h2⟩ := h w O0 m st ev hs hg hr
  rw [h1]
  exact ⟨m, Chg.refl _ _ _, hs, h2⟩

theorem TOp.sameC {v : V} {rds : List Rd} (h : ∀ (w : World) (O0 : Nat → Prop) (m : Asg) (st : Stor) (ev : Operand → Value), Sto X w O0 m st → (∀ r ∈ rds, agr st r) → (∀ x ∈ o.op.operands, relV w (Ow O0 m st) m (ρ x) (ev x)) → (∀ v, ev (.const v) = v) →
    ∃ u, (execOp ev o).run P w = .ok (.value u) w ∧ relV w (Ow O0 m st) m v u) : TOp P X o ρ ⟨v, rds, []⟩ := by
  intro w O0 m st ev hs hg hr hc
  obtain ⟨u, h1, h2⟩ := h w O0 m st ev hs hg hr hc
  rw [h1]
  exact ⟨m, Chg.refl _ _ _, hs, h2⟩

theorem TOp.data {a : A} {rds : List Rd} (h : ∀ (w : World) (O0 : Nat → Prop) (m : Asg) (st : Stor) (ev : Operand → Value), Sto X w O0 m st → (∀ r ∈ rds, agr st r) → (∀ x ∈ o.op.operands, relV w (Ow O0 m st) m (ρ x) (ev x)) →
    ∃ u, (execOp ev o).run P w = .ok (.value u) w ∧ rel w (Ow O0 m st) a u) : TOp P X o ρ ⟨.d a, rds, []⟩ :=
  TOp.same fun w O0 m st ev hs hg hr => by simpa only [relV] using h w O0 m st ev hs hg hr

theorem rel_dat {w : World} {O : Nat → Prop} {m : Asg} {v : V} {a : A} {u : Value} (h : dat v = some a) (hr : relV w O m v u) : rel w O a u := by
  cases v <;> simp only [dat, Option.some.injEq, reduceCtorEq] at h
  · subst h
    simp only [relV] at hr
    obtain ⟨a, rfl⟩ := hr
    simp only [rel]
    exact ⟨a, 0, rfl, by simp, by omega, Or.inl trivial⟩
  · subst h
    simpa only [relV] using hr

theorem run_move {x : Operand} {ev : Operand → Value} (ho : o.op = .move x ∨ o.op = .assign x) (w : World) : (execOp ev o).run P w = .ok (.value (ev x)) w := by
  rcases ho with ho | ho <;> simp only [execOp, ho, Sem.run_pure]

theorem run_pick {c a b : Operand} {ev : Operand → Value} (ho : o.op = .pick c a b) {t : Bool} {w : World} (hc : ev c = .bool t) : (execOp ev o).run P w = .ok (.value (if t then ev a else ev b)) w := by
  simp only [execOp, ho, hc, asBool, Sem.run_bind, Sem.run_pure, Result.andThen_ok]

theorem run_load {t : TypeId} {a : Operand} {ev : Operand → Value} (ho : o.op = .load t a) {b off : Nat} {w : World} {v : Value} (ha : ev a = .pointer (some ⟨b, off, none⟩)) (h : (loadVar t ⟨b, off, none⟩).run P w = .ok v w) : (execOp ev o).run P w = .ok (.value v) w := by
  simp only [execOp, ho, Instr.loadAt, ha, Instr.sureAddr, Sem.run_bind, Sem.run_pure, Result.andThen_ok, h]

theorem cellRds_agr {st : Stor} {id : Nat} : ∀ {cs : List V} {off : Nat}, (∀ r ∈ cellRds id off cs, agr st r) → ∀ j v, cs[j]? = some v → ∃ bs, st id = .box bs ∧ bs[off + j]? = some v
  | [], _, _, j, v, h => by simp at h
  | c :: cs, off, hg, j, v, h => by
    cases j with
    | zero => simp at h; subst h; exact hg (.cell id off c) (by simp [cellRds])
    | succ j =>
      simp at h
      have := cellRds_agr (id := id) (off := off + 1) (fun r hr => hg r (by simp only [cellRds, List.mem_cons]; exact Or.inr hr)) j v h
      rwa [show off + 1 + j = off + (j + 1) by omega] at this

theorem agr_cellRds {st : Stor} {id : Nat} {bs : List V} (hb : st id = .box bs) : ∀ {cs : List V} {off : Nat}, (∀ j v, cs[j]? = some v → bs[off + j]? = some v) → ∀ r ∈ cellRds id off cs, agr st r
  | [], _, _, r, h => by cases h
  | c :: cs, off, hc, r, h => by
    simp only [cellRds, List.mem_cons] at h
    rcases h with rfl | h
    · exact ⟨bs, hb, by simpa using hc 0 c (by simp)⟩
    · refine agr_cellRds hb (fun j v hj => ?_) r h
      have := hc (j + 1) v (by simpa using hj)
      rwa [show off + (j + 1) = off + 1 + j by omega] at this

/-- A box's cells, as they are read. -/
theorem box_reads {w : World} {O0 : Nat → Prop} {m : Asg} {st : Stor} (hs : Sto X w O0 m st) {id b c n : Nat} {cs : List V} (hb : st id = .box cs) (hm : m id = some (.blk b c n)) :
    ∃ vs, relVL w (Ow O0 m st) m cs vs ∧ Reads w b 0 vs := by
  have ho := hs.obj id
  rw [hb] at ho
  obtain ⟨hd, g1, g2⟩ := ho
  rw [hm] at g1
  cases g1
  obtain ⟨cc, T, g3, g4, g5⟩ := g2
  exact ⟨cc.toList, g5, Reads.block g3⟩

/-- A living row's cells. -/
theorem row_reads {w : World} {O0 : Nat → Prop} {m : Asg} {st : Stor} (hs : Sto X w O0 m st) {id b c n k : Nat} {xs : List (List A)} (hb : st id = .row k xs) (hm : m id = some (.blk b c n)) {i : Nat} {cs : List A} (hi : xs[i]? = some cs) :
    cs.length = k ∧ ∃ vs, relL w (Ow O0 m st) cs vs ∧ Reads w b (i * k) vs := by
  have ho := hs.obj id
  rw [hb] at ho
  obtain ⟨hd, g1, g2⟩ := ho
  rw [hm] at g1
  cases g1
  obtain ⟨_, _, _, q3, cc, T, q4, q5, q7, q6⟩ := g2
  have hr := rows_of_flat (off := 0) q3 q6 ((Reads.block q4).take _) q7
  obtain ⟨h1, h2⟩ := relRows_get hr hi
  obtain ⟨vs, h3, h4, _⟩ := relCells_reads h2
  exact ⟨h1, vs, h3, by simpa using h4⟩

theorem evLoad_sound {C : Cfg} (hD : TyOk C.P C.D) {t : TypeId} {x : Operand} (ho : o.op = .load t x) {st : Stor} :
    (∀ v rds, evLoad C t (ρ x) st = .val v rds → TOp C.P X o ρ ⟨v, rds, []⟩ ∧ ∀ r ∈ rds, agr st r) ∧
    (∀ y rds a, evLoad C t (ρ x) st = .opt (.opt y) rds → y = some a → TOp C.P X o ρ ⟨.d a, rds, []⟩ ∧ ∀ r ∈ rds, agr st r) := by
  have hmem : x ∈ o.op.operands := by simp [ho, Op.operands]
  constructor
  · intro v rds h
    unfold evLoad at h
    split at h
    · cases h
    · rename_i i hi
      split at h
      · split at h
        · cases h
        · split at h <;> cases h
      · rename_i id off hx
        split at h
        · rename_i cs hst
          split at h
          · rename_i hp
            split at h
            · rename_i v' hv
              cases h
              refine ⟨TOp.same fun w O0 m st' ev hs hg hr => ?_, fun r hr => by simp at hr; subst hr; exact ⟨cs, hst, hv⟩⟩
              have hx' := hr x hmem
              rw [hx] at hx'
              simp only [relV] at hx'
              obtain ⟨b, c, n, h1, h2⟩ := hx'
              obtain ⟨cs', g1, g2⟩ := hg _ (List.mem_singleton.2 rfl)
              obtain ⟨vs, g3, g4⟩ := box_reads hs g1 h1
              obtain ⟨u, g5, g6⟩ := relVL_get g3 g2
              have hlt := (List.getElem?_eq_some_iff.1 g5).1
              have hk : i.kind.known = true := by cases hi : i.kind <;> simp_all [TK.known, TK.plain]
              obtain ⟨z, q1, q2⟩ := run_loadCells (P := C.P) (hD _ _ hi) hk (g4.drop off) (by rw [(hD _ _ hi).one hp]; simp; omega)
              rcases q2 with ⟨_, q2⟩ | ⟨q2, _⟩
              · have e : z = u := by rw [List.getElem?_drop, Nat.add_zero, g5] at q2; cases q2; rfl
                subst e
                exact ⟨z, run_load ho (by simpa using h2) (by simpa using q1), g6⟩
              · rw [hp] at q2; cases q2
            · cases h
          · rename_i hp
            split at h
            · rename_i hk
              simp only [Bool.and_eq_true, Nat.ble_eq] at hk
              cases h
              refine ⟨TOp.same fun w O0 m st' ev hs hg hr => ?_, agr_cellRds hst fun j v hj => by
                rw [List.getElem?_take] at hj
                split at hj
                · rwa [List.getElem?_drop] at hj
                · cases hj⟩
              have hx' := hr x hmem
              rw [hx] at hx'
              simp only [relV] at hx'
              obtain ⟨b, c, n, h1, h2⟩ := hx'
              have hlen : ((cs.drop off).take i.size).length = i.size := by simp; omega
              by_cases h0 : i.size = 0
              · have hz : (loadVar t ⟨b, off, none⟩).run C.P w = .ok (.agg #[]) w := by
                  obtain ⟨z, q1, q2⟩ := run_loadCells (P := C.P) (w := w) (b := b) (off := off) (hD _ _ hi) hk.1 (vs := []) (fun j v h => by simp at h) (by simp [h0])
                  rcases q2 with ⟨q2, _⟩ | ⟨_, q2⟩
                  · exact absurd q2 hp
                  · rw [q2] at q1; simpa using q1
                refine ⟨_, run_load ho h2 hz, ?_⟩
                simp only [relV, h0, List.take_zero]
                exact ⟨[], rfl, by simp [relVL]⟩
              obtain ⟨bs, g1, g2⟩ : ∃ bs, st' id = .box bs ∧ ∀ j v, ((cs.drop off).take i.size)[j]? = some v → bs[off + j]? = some v := by
                have hc := cellRds_agr hg
                obtain ⟨bs, g1, _⟩ := hc 0 _ (List.getElem?_eq_getElem (by omega))
                refine ⟨bs, g1, fun j v hj => ?_⟩
                obtain ⟨bs', g3, g4⟩ := hc j v hj
                rw [g1] at g3
                cases g3
                exact g4
              obtain ⟨vs, g3, g4⟩ := box_reads hs g1 h1
              have hbl : off + i.size ≤ bs.length := by
                have := g2 (i.size - 1) _ (List.getElem?_eq_getElem (by omega))
                have := (List.getElem?_eq_some_iff.1 this).1
                omega
              have hvl := relVL_length g3
              obtain ⟨z, q1, q2⟩ := run_loadCells (P := C.P) (hD _ _ hi) hk.1 (g4.drop off) (by simp; omega)
              rcases q2 with ⟨q2, _⟩ | ⟨_, rfl⟩
              · exact absurd q2 hp
              · refine ⟨_, run_load ho h2 (by simpa using q1), ?_⟩
                simp only [relV]
                refine ⟨_, rfl, ?_⟩
                have e : (cs.drop off).take i.size = (bs.drop off).take i.size := by
                  apply List.ext_getElem?
                  intro j
                  by_cases hj : j < i.size
                  · obtain ⟨v, hv⟩ : ∃ v, ((cs.drop off).take i.size)[j]? = some v := ⟨_, List.getElem?_eq_getElem (by omega)⟩
                    rw [hv, List.getElem?_take, if_pos hj, List.getElem?_drop]
                    exact (g2 j v hv).symm
                  · rw [List.getElem?_eq_none (by omega), List.getElem?_eq_none (by simp; omega)]
                rw [e]
                exact relVL_take _ (relVL_drop _ g3)
            · cases h
        · cases h
      · split at h
        · split at h
          · split at h
            · cases h
            · split at h <;> cases h
          · cases h
        · cases h
      · cases h
  · intro y rds a h hy
    subst hy
    unfold evLoad at h
    split at h
    · cases h
    · rename_i i hi
      split at h
      · rename_i p hx
        split at h
        · rename_i hp
          simp only [DR.opt.injEq, DX.opt.injEq] at h
          obtain ⟨h, rfl⟩ := h
          refine ⟨TOp.data fun w O0 m st' ev hs hg hr => ?_, by simp⟩
          have hx' := hr x hmem
          rw [hx] at hx'
          simp only [relV] at hx'
          exact run_loadP ho (hD _ _ hi) hp hx' h
        · rename_i hp
          split at h
          · rename_i hk
            simp only [DR.opt.injEq, DX.opt.injEq] at h
            obtain ⟨h, rfl⟩ := h
            refine ⟨TOp.data fun w O0 m st' ev hs hg hr => ?_, by simp⟩
            have hx' := hr x hmem
            rw [hx] at hx'
            simp only [relV] at hx'
            exact run_loadN ho (hD _ _ hi) hk (by simpa using hp) hx' h
          · cases h
      · split at h
        · split at h
          · split at h <;> cases h
          · split at h <;> cases h
        · cases h
      · rename_i id ix k j hx
        split at h
        · rename_i k' xs hst
          split at h
          · rename_i hkk
            simp only [Bool.and_eq_true, Nat.ble_eq] at hkk
            obtain ⟨hk', hjk⟩ := hkk
            have hk' := Nat.eq_of_beq_eq_true hk'
            subst hk'
            simp only [rGetD] at h
            have key : ∀ (cs : List A), xs[ix]? = some cs → (∀ r ∈ [Rd.elem id ix k' (xs.getD ix [])], agr st r) ∧
                ∀ (w : World) (O0 : Nat → Prop) (m : Asg) (st' : Stor) (ev : Operand → Value), Sto X w O0 m st' → (∀ r ∈ [Rd.elem id ix k' (xs.getD ix [])], agr st' r) → (∀ x ∈ o.op.operands, relV w (Ow O0 m st') m (ρ x) (ev x)) →
                  cs.length = k' ∧ ∃ b vs, ev x = .pointer (some ⟨b, ix * k' + j, none⟩) ∧ relL w (Ow O0 m st') cs vs ∧ Reads w b (ix * k') vs := by
              intro cs hcs
              have hgd : xs.getD ix [] = cs := by rw [List.getD_eq_getElem?_getD, hcs]; rfl
              rw [hgd]
              refine ⟨fun r hr => by simp at hr; subst hr; exact ⟨xs, hst, hcs⟩, fun w O0 m st' ev hs hg hr => ?_⟩
              have hx' := hr x hmem
              rw [hx] at hx'
              simp only [relV] at hx'
              obtain ⟨hd0, b, h0, h1, h2⟩ := hx'
              obtain ⟨xs', g1, g2⟩ := hg _ (List.mem_singleton.2 rfl)
              obtain ⟨c, n, h1⟩ := row_root hs g1 h0 h1
              obtain ⟨g3, vs, g4, g5⟩ := row_reads hs g1 h1 g2
              exact ⟨g3, b, vs, h2, g4, g5⟩
            split at h
            · rename_i hp
              simp only [DR.opt.injEq, DX.opt.injEq] at h
              obtain ⟨h, rfl⟩ := h
              unfold pRowP at h
              rw [Option.bind_eq_some_iff] at h
              obtain ⟨cs, hcs, hca⟩ := h
              obtain ⟨k1, k2⟩ := key cs hcs
              refine ⟨TOp.data fun w O0 m st' ev hs hg hr => ?_, k1⟩
              obtain ⟨g3, b, vs, h2, g4, g5⟩ := k2 w O0 m st' ev hs hg hr
              obtain ⟨u, g6, g7⟩ := relL_get g4 hca
              have hlt := (List.getElem?_eq_some_iff.1 g6).1
              have hk : i.kind.known = true := by cases hi : i.kind <;> simp_all [TK.known, TK.plain]
              obtain ⟨z, q1, q2⟩ := run_loadCells (P := C.P) (hD _ _ hi) hk (g5.drop j) (by rw [(hD _ _ hi).one hp]; simp; omega)
              rcases q2 with ⟨_, q2⟩ | ⟨q2, _⟩
              · have e : z = u := by rw [List.getElem?_drop, Nat.add_zero, g6] at q2; cases q2; rfl
                subst e
                exact ⟨z, run_load ho h2 q1, g7⟩
              · rw [hp] at q2; cases q2
            · rename_i hp
              split at h
              · rename_i hk
                simp only [DR.opt.injEq, DX.opt.injEq] at h
                obtain ⟨h, rfl⟩ := h
                unfold pRowN at h
                rw [Option.map_eq_some_iff] at h
                obtain ⟨cs, hcs, rfl⟩ := h
                obtain ⟨k1, k2⟩ := key cs hcs
                refine ⟨TOp.data fun w O0 m st' ev hs hg hr => ?_, k1⟩
                obtain ⟨g3, b, vs, h2, g4, g5⟩ := k2 w O0 m st' ev hs hg hr
                have hvl := relL_length g4
                obtain ⟨z, q1, q2⟩ := run_loadCells (P := C.P) (hD _ _ hi) hk (g5.drop j) (by simp; omega)
                rcases q2 with ⟨q2, _⟩ | ⟨_, rfl⟩
                · exact absurd q2 hp
                · refine ⟨_, run_load ho h2 q1, ?_⟩
                  simp only [rel]
                  exact ⟨_, rfl, relL_take _ (relL_drop _ g4)⟩
              · cases h
          · cases h
        · cases h
      · cases h

end
end
end Go.Proofs.YtnbjmmldjggkfaaGreat.Abs
