/- OPERATIONS THAT LOOK AND RECKON: structs that are written out, calls; the whole. -/
import Derived.Test.YtnbjmmldjggkfaaGreatE6
import Derived.MapKept
namespace Go.Proofs.YtnbjmmldjggkfaaGreat.Abs
open Go Go.RowKit Go.MapKept
noncomputable section

theorem list_seg_step' {α : Type} (l : List α) (p : Nat) (v : α) (vs : List α) (h : p + 1 + vs.length ≤ l.length) :
    (l.set p v).take (p + 1) ++ vs ++ (l.set p v).drop (p + 1 + vs.length) = l.take p ++ (v :: vs) ++ l.drop (p + (vs.length + 1)) := by
  have h1 : (l.set p v).take (p + 1) = l.take p ++ [v] := by
    rw [List.take_succ_eq_append_getElem (by simp; omega)]
    simp [List.take_set_of_le]
  have h2 : (l.set p v).drop (p + 1 + vs.length) = l.drop (p + (vs.length + 1)) := by
    rw [List.drop_set_of_lt (by omega)]
    congr 1; omega
  rw [h1, h2]
  simp

theorem foldl_set_over {off : Nat} : ∀ (l : List Value) (k : Nat) (cells : Array Value), off + k + l.length ≤ cells.size →
    ((l.zipIdx k).foldl (fun (cs : Array Value) (p : Value × Nat) => cs.setIfInBounds (off + p.2) p.1) cells).toList = cells.toList.take (off + k) ++ l ++ cells.toList.drop (off + k + l.length)
  | [], k, cells, _ => by simp
  | v :: l, k, cells, h => by
    simp only [List.zipIdx_cons, List.foldl_cons]
    have ih := foldl_set_over (off := off) l (k + 1) (cells.setIfInBounds (off + k) v) (by simp at h ⊢; omega)
    rw [ih, Array.toList_setIfInBounds, ← Nat.add_assoc]
    exact list_seg_step' cells.toList (off + k) v l (by simp at h ⊢; omega)

theorem cells_one {v : Value} (h : v.oneCell' = true) : v.cells = #[v] := by
  cases v <;> first | rfl | (simp [Value.oneCell'] at h)

section
variable {w : World} {O : Nat → Prop} {m : Asg}

theorem rel_okA {a : A} {v : Value} (h : rel w O a v) (hk : okA a = true) : v.oneCell' = true := by
  cases a <;> simp only [okA, Bool.false_eq_true] at hk <;> simp only [rel] at h
  case val x => subst h; exact hk
  case sl => obtain ⟨a, cap, rfl, _⟩ := h; rfl
  case elt => obtain ⟨b, o, rfl, _⟩ := h; rfl
  case fn => obtain ⟨vs, rfl, _⟩ := h; rfl

theorem rel_cellsA {plain : Bool} {n : Nat} {a : A} {v : Value} (h : rel w O a v) {ds : List A} (hc : cellsA plain n a = some ds) : relL w O ds v.cells.toList ∧ (plain = true → v.oneCell' = true ∧ v.cells = #[v]) ∧ (plain = false → ds.length = n) := by
  unfold cellsA at hc
  split at hc
  · rename_i hp
    split at hc
    · rename_i hk
      cases hc
      have h1 := rel_okA h hk
      have h2 := cells_one h1
      refine ⟨?_, fun _ => ⟨h1, h2⟩, fun h => by rw [hp] at h; cases h⟩
      rw [h2]
      simp only [relL]
      exact ⟨_, [], rfl, h, rfl⟩
    · cases hc
  · rename_i hp
    split at hc
    · split at hc
      · rename_i hl
        cases hc
        simp only [rel] at h
        obtain ⟨vs, rfl, h2⟩ := h
        exact ⟨by simpa [Value.cells] using h2, fun h => absurd h hp, fun _ => hl⟩
      · cases hc
    · cases hc

theorem fill_relA {sz : Nat → Option (Nat × TI)} (hone : ∀ q off j, sz q = some (off, j) → j.kind.plain = true → j.size = 1) : ∀ (parts : List (Nat × A)) (vals : List (Nat × Value)) (cs : List A) (cells : Array Value) (r : A), relL w O cs cells.toList →
    parts.map Prod.fst = vals.map Prod.fst → relL w O (parts.map Prod.snd) (vals.map Prod.snd) → buildA sz cs parts = some r →
    ∃ cells', Instr.fill (fun q => (sz q).map fun x => (x.1, x.2.size)) cells vals = some cells' ∧ rel w O r (.agg cells')
  | [], vals, cs, cells, r, h, h1, _, hp => by
    simp only [List.map_nil] at h1
    have hv : vals = [] := by simpa using h1.symm
    subst hv
    simp only [buildA, Option.some.injEq] at hp
    subst hp
    refine ⟨cells, rfl, ?_⟩
    simp only [rel]
    exact ⟨cells.toList, by simp, h⟩
  | p :: parts, vals, cs, cells, r, h, h1, h2, hp => by
    obtain ⟨q, a⟩ := p
    cases vals with
    | nil => simp at h1
    | cons v vals =>
      obtain ⟨q', u⟩ := v
      simp only [List.map_cons, List.cons.injEq] at h1
      obtain ⟨rfl, h1⟩ := h1
      simp only [List.map_cons, relL, List.cons.injEq] at h2
      obtain ⟨u', rr, ⟨rfl, rfl⟩, g1, g2⟩ := h2
      simp only [buildA] at hp
      cases hs : sz q with
      | none => simp [hs] at hp
      | some on =>
        obtain ⟨off, j⟩ := on
        simp only [hs] at hp
        rw [Option.bind_eq_some_iff] at hp
        obtain ⟨ds, hc, hp⟩ := hp
        split at hp
        · rename_i hb
          obtain ⟨k1, k2, k3⟩ := rel_cellsA g1 hc
          have k4 := relL_length k1
          have k5 := relL_length h
          simp only [Array.length_toList] at k4 k5
          have hsz : u.cells.size = j.size := by
            cases hpl : j.kind.plain with
            | true => rw [(k2 hpl).2, hone q off j hs hpl]; rfl
            | false => rw [k4, k3 hpl]
          simp only [Instr.fill, hs, Option.map_some]
          rw [if_neg (by simp; omega)]
          refine fill_relA hone parts vals (over cs off ds) _ r ?_ h1 g2 hp
          have hz : (u.cells.zipIdx.foldl (fun (cs : Array Value) (p : Value × Nat) => cs.setIfInBounds (off + p.2) p.1) cells).toList = over cells.toList off u.cells.toList := by
            have := foldl_set_over (off := off) u.cells.toList 0 cells (by simp; omega)
            rw [← Array.foldl_toList, Array.toList_zipIdx]
            simpa [over] using this
          show relL w O (over cs off ds) (u.cells.zipIdx.foldl (fun (cs : Array Value) (p : Value × Nat) => cs.setIfInBounds (off + p.2) p.1) cells).toList
          rw [hz]
          exact relL_over h k1
        · cases hp
end

section
variable {P : Program} {X : Ctx} {o : Oper} {ρ : Operand → V} {C : Cfg}

theorem relVL_lift {w : World} {O : Nat → Prop} {m : Asg} : ∀ vs : List Value, relVL w O m (vs.map liftV) vs
  | [] => by simp [relVL]
  | v :: vs => by simp only [List.map_cons, relVL]; exact ⟨v, vs, rfl, rel_lift v, relVL_lift vs⟩

theorem relVL_zero {w : World} {O : Nat → Prop} {m : Asg} (t : Nat) (i : TI) : relVL w O m (zeroV C t i) i.zero.cells.toList := relVL_nilC (relVL_lift _)

theorem relL_datL {w : World} {O : Nat → Prop} {m : Asg} : ∀ {cs : List V} {as : List A} {vs : List Value}, datL cs = some as → relVL w O m cs vs → relL w O as vs
  | [], as, vs, h, hr => by simp only [datL, Option.some.injEq] at h; subst h; simpa [relVL, relL] using hr
  | c :: cs, as, vs, h, hr => by
    simp only [datL] at h
    split at h
    · rename_i a l ha hl
      cases h
      simp only [relVL] at hr
      obtain ⟨v, r, rfl, h1, h2⟩ := hr
      simp only [relL]
      exact ⟨v, r, rfl, rel_dat ha h1, relL_datL hl h2⟩
    · cases h

theorem allDat_rel {w : World} {O : Nat → Prop} {m : Asg} : ∀ {ps : List (Nat × V)} {as : List (Nat × A)} {vs : List Value}, allDat ps = some as → relVL w O m (ps.map Prod.snd) vs → relL w O (as.map Prod.snd) vs ∧ as.map Prod.fst = ps.map Prod.fst
  | [], as, vs, h, hr => by simp only [allDat, Option.some.injEq] at h; subst h; simpa [relVL, relL] using hr
  | (i, c) :: cs, as, vs, h, hr => by
    simp only [allDat] at h
    split at h
    · rename_i a l ha hl
      cases h
      simp only [List.map_cons, relVL] at hr
      obtain ⟨v, r, rfl, h1, h2⟩ := hr
      obtain ⟨h3, h4⟩ := allDat_rel hl h2
      simp only [List.map_cons, relL, h4]
      exact ⟨⟨v, r, rfl, rel_dat ha h1, h3⟩, trivial⟩
    · cases h

theorem partTys_rel {w : World} {O : Nat → Prop} {m : Asg} {fs : List (Nat × Nat)} : ∀ {ps : List (Nat × V)} {vs : List Value}, relVL w O m (ps.map Prod.snd) vs → relVL w O m ((partTys C fs ps).map Prod.snd) vs ∧ (partTys C fs ps).map Prod.fst = ps.map Prod.fst
  | [], vs, hr => by simpa [partTys] using hr
  | (i, c) :: cs, vs, hr => by
    simp only [List.map_cons, relVL] at hr
    obtain ⟨v, r, rfl, h1, h2⟩ := hr
    obtain ⟨h3, h4⟩ := partTys_rel (fs := fs) h2
    simp only [partTys, List.map_cons, relVL]
    cases fs[i]? with
    | none => exact ⟨⟨v, r, rfl, h1, h3⟩, by simp [h4]⟩
    | some q => exact ⟨⟨v, r, rfl, rel_nilV h1, h3⟩, by simp [h4]⟩

theorem run_places {D : Nat → Option TI} (hD : TyOk P D) {w : World} : ∀ (l : List Field), (∀ f ∈ l, ∃ j, D f.type = some j) →
    (l.mapM (fun (f : Field) => (do pure (f.offset, ← sizeOf f.type) : Sem (Nat × Nat)))).run P w = .ok (l.map fun f => (f.offset, ((D f.type).map (·.size)).getD 0)) w
  | [], _ => by simp
  | f :: l, h => by
    obtain ⟨j, hj⟩ := h f (by simp)
    have ih := run_places hD l (fun g hg => h g (by simp [hg])) (w := w)
    have hs := (hD _ _ hj).run_sizeOf w
    simp only [List.mapM_cons, Sem.run_bind, hs, Result.andThen_ok, Sem.run_pure, ih, List.map_cons, hj, Option.map_some, Option.getD_some]

theorem run_build (hD : TyOk C.P C.D) {t : TypeId} {ps : Array (Nat × Operand)} (ho : o.op = .build t ps) {i : TI} {fs : List (Nat × Nat)} (hi : C.D t = some i) (hk : i.kind = .struct fs) (hfs : fieldsKnown C fs = true) {w : World} {ev : Operand → Value} {cells' : Array Value}
    (hf : Instr.fill (fun q => (fieldOf C t q).map fun x => (x.1, x.2.size)) i.zero.cells (ps.toList.map fun p => (p.1, ev p.2)) = some cells') : (execOp ev o).run C.P w = .ok (.value (.agg cells')) w := by
  have hok := hD t i hi
  have hd := hok.desc
  rw [hk] at hd
  obtain ⟨g, h1, h2⟩ := hd
  have hall : ∀ f ∈ g.toList, ∃ j, C.D f.type = some j ∧ j.kind.known = true := by
    intro f hf
    have hm : (f.offset, f.type) ∈ fs := by rw [← h2]; exact List.mem_map.2 ⟨f, hf, rfl⟩
    have := List.all_eq_true.1 hfs _ hm
    simp only at this
    split at this
    · rename_i j hj; exact ⟨j, hj, this⟩
    · cases this
  have hpl := run_places hD (w := w) g.toList fun f hf => (hall f hf).imp fun j h => h.1
  have hmap : (g.mapM (fun (f : Field) => (do pure (f.offset, ← sizeOf f.type) : Sem (Nat × Nat)))).run C.P w = .ok (g.toList.map fun f => (f.offset, ((C.D f.type).map (·.size)).getD 0)).toArray w := by
    rw [Array.mapM_eq_mapM_toList]
    simp only [Sem.run_map, hpl, Result.andThen_ok]
  have hsz : (fun q => ((g.toList.map fun f => (f.offset, ((C.D f.type).map (·.size)).getD 0)).toArray)[q]?) = fun q => (fieldOf C t q).map fun x => (x.1, x.2.size) := by
    funext q
    unfold fieldOf
    simp only [hi, hk, ← h2, List.getElem?_toArray, List.getElem?_map]
    cases hq : g.toList[q]? with
    | none => simp
    | some f =>
      obtain ⟨j, hj, hjk⟩ := hall f (List.mem_of_getElem? hq)
      simp [hj, hjk]
  have hparts : (ps.map fun (p : Nat × Operand) => (p.1, ev p.2)).toList = ps.toList.map fun p => (p.1, ev p.2) := by simp
  have hfill : Instr.fill (fun q => ((g.toList.map fun f => (f.offset, ((C.D f.type).map (·.size)).getD 0)).toArray)[q]?) i.zero.cells (ps.map fun (p : Nat × Operand) => (p.1, ev p.2)).toList = some cells' := by
    rw [hsz, hparts]; exact hf
  have hrun : (Instr.build t (ps.map fun (p : Nat × Operand) => (p.1, ev p.2))).run C.P w = .ok (.agg cells') w := by
    simp only [Instr.build, Sem.run_bind, hok.run_zero w, Result.andThen_ok, run_underlying h1, hmap, hfill, Sem.run_pure]
  simp only [execOp, ho]
  show ((do pure (.value (← Instr.build t (ps.map fun (p : Nat × Operand) => (p.1, ev p.2)))) : Sem Next)).run C.P w = _
  simp only [Sem.run_bind, hrun, Result.andThen_ok, Sem.run_pure]

theorem relVL_ev {w : World} {O : Nat → Prop} {m : Asg} {ev : Operand → Value} : ∀ l : List Operand, (∀ x ∈ l, relV w O m (ρ x) (ev x)) → relVL w O m (l.map ρ) (l.map ev)
  | [], _ => by simp [relVL]
  | x :: l, h => by simp only [List.map_cons, relVL]; exact ⟨ev x, _, rfl, h x (by simp), relVL_ev l fun y hy => h y (by simp [hy])⟩

theorem fieldOf_spec (hD : TyOk C.P C.D) {s f off : Nat} {j : TI} (h : fieldOf C s f = some (off, j)) : ∃ i fs t, C.D s = some i ∧ i.kind = .struct fs ∧ fs[f]? = some (off, t) ∧ C.D t = some j ∧ j.kind.known = true ∧ (TK.struct fs).desc C.P s := by
  unfold fieldOf at h
  split at h
  · rename_i i hi
    split at h
    · rename_i fs hk
      split at h
      · rename_i o' t hf
        split at h
        · rename_i j' hj
          split at h
          · rename_i hkn
            cases h
            have hd := (hD _ _ hi).desc
            rw [hk] at hd
            exact ⟨i, fs, t, hi, hk, hf, hj, hkn, hd⟩
          · cases h
        · cases h
      · cases h
    · cases h
  · cases h

theorem call_enters {ev : Operand → Value} {f : Operand} {xs : Array Operand} {ts : Array TypeId} (ho : o.op = .call { callee := .value f, args := xs, argTypes := ts }) {g : FuncId} {us : List Value}
    (hf : ev f = .func (.func g) #[] us.toArray) (he : Enters P g) (w : World) : (execOp ev o).run P w = .ok (.enter g (xs.toList.map ev ++ us).toArray) w := by
  have : (xs.toList.map ev ++ us).toArray = xs.map ev ++ us.toArray := by
    apply Array.ext'; simp
  rw [this]
  simp [execOp, ho, resolve, Deferred.ofValue, hf, invoke, he _ w]

theorem Oc_ctx {w : World} {O0 : Nat → Prop} {m : Asg} {st : Stor} (hs : Sto X w O0 m st) {rds : List Rd} (hg : ∀ r ∈ rds, agr st r) : ∀ b, X.N b → Oc O0 m st rds b := fun b hb => by
  have h0 := hs.jn b hb
  refine ⟨Or.inl h0, fun ⟨id, o, hd, h1, h2, h3, h4⟩ => ?_⟩
  have : st id = o := hg _ h1
  exact (hs.blk id hd b (by rw [this]; exact h2) h3 h4).2 h0

theorem Oc_lt {w : World} {O0 : Nat → Prop} {m : Asg} {st : Stor} (hs : Sto X w O0 m st) {rds : List Rd} : ∀ b, Oc O0 m st rds b → b < w.heap.size := fun b hb => by
  rcases hb.1 with h | ⟨id, hd, h1, h2, h3⟩
  · exact hs.old b h
  · exact (hs.blk id hd b h1 h2 h3).1

/-- A call of a function that only looks. -/
theorem TOp.call {f : Operand} {xs : Array Operand} {ts : Array TypeId} (ho : o.op = .call { callee := .value f, args := xs, argTypes := ts }) {g : FuncId} {as : List A} {out : Out} {rds : List Rd} (hp : PureOk X P g as out)
    (hargs : ∀ (w : World) (O0 : Nat → Prop) (m : Asg) (st : Stor) (ev : Operand → Value), Sto X w O0 m st → (∀ r ∈ rds, agr st r) → (∀ x ∈ o.op.operands, relV w (Ow O0 m st) m (ρ x) (ev x)) →
      ∃ us : List Value, ev f = .func (.func g) #[] us.toArray ∧ relL w (Oc O0 m st rds) as (xs.toList.map ev ++ us))
    {a : A} (hfin : fin (aliveR rds) out = some a) : TOp P X o ρ ⟨.d a, rds, []⟩ := by
  intro w O0 m st ev hs hg hr _hc
  obtain ⟨us, h1, h2⟩ := hargs w O0 m st ev hs hg hr
  rw [call_enters ho h1 hp.1 w]
  refine ⟨rfl, (hp.2 w (Oc O0 m st rds) _ hs.j (Oc_ctx hs hg) (Oc_lt hs) h2).mono ?_⟩
  rintro e w' ⟨v, rfl, hb, hv⟩
  refine ⟨v, rfl, m, Chg.below hb, hs.below hb, ?_⟩
  simp only [relV]
  unfold fin at hfin
  split at hfin
  rotate_left
  · cases hfin
  split at hfin
  · cases hfin
  · rename_i hc
    cases hfin
    cases ha : aliveR rds with
    | false =>
      refine rel_mono (MonoW.sub fun b hb => ?_) _ _ hv
      exact ⟨hb, RB_none ha b⟩
    | true =>
      rw [ha] at hc
      simp only [Bool.true_and, Bool.not_eq_true', Bool.not_eq_false] at hc
      exact rel_flat _ _ (by simpa using hc) hv

theorem toAL_append_len : ∀ {n : Nat} {st : Stor} {cs : List V} {as : List A} {rds : List Rd}, toAL st n cs = some (as, rds) → as.length = cs.length
  | _, _, [], _, _, h => by simp only [toAL, Option.some.injEq, Prod.mk.injEq] at h; obtain ⟨rfl, rfl⟩ := h; rfl
  | 0, _, _ :: _, _, _, h => by simp [toAL] at h
  | n + 1, st, c :: cs, as, rds, h => by
    simp only [toAL] at h
    split at h
    · split at h
      · rename_i h2; cases h; simp [toAL_append_len h2]
      · cases h
    · cases h

/-! ### Maps -/
def keyD : Option IntKind → TypeDesc
  | none => .string
  | some k => .int k
theorem keyK_desc {P : Program} {t : Nat} {k : TK} {ks : Option IntKind} (h : keyK k = some ks) (hd : k.desc P t) : P.underlying t = some (keyD ks) := by
  cases k <;> simp only [keyK, Option.some.injEq, reduceCtorEq] at h <;> subst h <;> exact hd
theorem keyOk_is {w : World} {O : Nat → Prop} {ks : Option IntKind} {k : A} {u : Value} (h : keyOk ks k = true) (hr : rel w O k u) : IsKey (keyD ks) u ∧ k = .val u := by
  unfold keyOk at h
  split at h
  · simp only [rel] at hr; subst hr; exact ⟨trivial, rfl⟩
  · simp only [rel] at hr; subst hr; simp only [decide_eq_true_eq] at h; exact ⟨h, rfl⟩
  · cases h
theorem eqK_same {ks : Option IntKind} {a b : Value} {r : Bool} (h : eqK ks (.val a) (.val b) = some r) : Instr.sameNow (keyD ks) a b = some r ∧ (r = true → a = b) := by
  unfold eqK at h
  split at h
  · rename_i e1 e2
    cases e1; cases e2
    simp only [Option.some.injEq] at h
    subst h
    have key : ∀ x y : ByteArray, (x == y) = decide (bs x = bs y) := fun x y => by
      cases hb : (x == y) with
      | true => rw [(bytes_beq x y).1 hb]; simp
      | false =>
        symm
        rw [decide_eq_false_iff_not]
        intro e
        have := (bytes_beq x y).2 (bs_inj e)
        rw [hb] at this; cases this
    refine ⟨by simp only [Instr.sameNow, keyD, key], fun h => ?_⟩
    simp only [decide_eq_true_eq] at h
    rw [bs_inj h]
  · rename_i e1 e2
    cases e1; cases e2
    split at h
    · rename_i hk
      subst hk
      simp only [Option.some.injEq] at h
      subst h
      refine ⟨?_, fun h => ?_⟩
      · simp only [Instr.sameNow, keyD, if_true]; rfl
      · simp only [decide_eq_true_eq] at h; rw [h]
    · cases h
  · cases h
theorem eqK_val {ks : Option IntKind} {k a : A} {r : Bool} (h : eqK ks k a = some r) : (∃ u, k = .val u) ∧ ∃ v, a = .val v := by
  unfold eqK at h
  split at h
  · exact ⟨⟨_, rfl⟩, _, rfl⟩
  · exact ⟨⟨_, rfl⟩, _, rfl⟩
  · cases h
theorem mFind_ok {w : World} {O : Nat → Prop} {ks : Option IntKind} {u : Value} : ∀ {xs : List (List A)} {es : List MapEntry} {i : Nat} {r : Option (Nat × A)}, relEs w O xs es → mFind ks (.val u) xs i = some r →
    (r = none ∧ Instr.findNow (keyD ks) u es i = some none) ∨ ∃ n a e, r = some (i + n, a) ∧ Instr.findNow (keyD ks) u es i = some (some (i + n, e.val)) ∧ es[n]? = some e ∧ e.key = u ∧ rel w O a e.val ∧ n < xs.length
  | [], es, i, r, hr, h => by
    simp only [relEs] at hr
    subst hr
    simp only [mFind, Option.some.injEq] at h
    exact Or.inl ⟨h.symm, rfl⟩
  | x :: xs, es, i, r, hr, h => by
    simp only [relEs] at hr
    obtain ⟨e, es', rfl, h2, h3⟩ := hr
    unfold mFind at h
    split at h
    · rename_i e0; cases e0
    · rename_i k' v xs0 _ e0
      cases e0
      simp only [relL] at h2
      obtain ⟨k1, r1, e1, g1, v1, r2, e2, g2, e3⟩ := h2
      cases e1
      cases e2
      split at h
      · rename_i hq
        obtain ⟨_, kv, rfl⟩ := eqK_val hq
        simp only [rel] at g1
        obtain ⟨q1, q2⟩ := eqK_same hq
        simp only [Option.some.injEq] at h
        subst h
        refine Or.inr ⟨0, _, e, rfl, ?_, rfl, ?_, g2, by simp⟩
        · simp only [Instr.findNow, g1, q1, Nat.add_zero]
        · rw [g1, q2 rfl]
      · rename_i hq
        obtain ⟨_, kv, rfl⟩ := eqK_val hq
        simp only [rel] at g1
        obtain ⟨q1, q2⟩ := eqK_same hq
        rcases mFind_ok h3 h with ⟨h4, h5⟩ | ⟨n, a, e', h4, h5, h6, h7, h8, h9⟩
        · exact Or.inl ⟨h4, by simp only [Instr.findNow, g1, q1, h5]⟩
        · refine Or.inr ⟨n + 1, a, e', by rw [h4]; congr 2; omega, ?_, by simpa using h6, h7, h8, by simpa using h9⟩
          simp only [Instr.findNow, g1, q1, h5]
          congr 3; omega
      · cases h
    · cases h
/-- What a map's memory says, as data. -/
def MapOf (w : World) (O : Nat → Prop) (xs : List (List A)) (u : Value) : Prop := (xs = [] ∧ u = .map none) ∨ ∃ b es clock, u = .map (some b) ∧ w.heap[b]? = some (.map es clock) ∧ relEs w O xs es.toList
theorem mapA_of {w : World} {O : Nat → Prop} {a : A} {xs : List (List A)} {u : Value} (h : mapA a = some xs) (hr : rel w O a u) : MapOf w O xs u := by
  unfold mapA at h
  split at h
  · cases h
    simp only [rel] at hr
    rcases hr with hr | ⟨b, es, c, h1, _, _, h2, h3⟩
    · exact Or.inl hr
    · exact Or.inr ⟨b, es, c, h1, h2, h3⟩
  · cases h; simp only [rel] at hr; exact Or.inl ⟨rfl, hr⟩
  · cases h
theorem zA_rel {C : Cfg} {w : World} {O : Nat → Prop} {t : Nat} {i : TI} (hi : TI.ok C.P t i) (hk : zOk i = true) {z : List A} (h : datL (zeroV C t i) = some z) : rel w O (zA i.kind.plain z) i.zero := by
  have hz := relL_datL (w := w) (O := O) (m := fun _ => none) h (relVL_zero t i)
  unfold zA
  unfold zOk at hk
  cases hp : i.kind.plain with
  | true =>
    simp only [if_true]
    have h1 := hi.one hp
    have h2 := hi.zsize
    have hl := relL_length hz
    rw [Array.length_toList, h2, h1] at hl
    match z, hz, hl with
    | [a], hz, _ =>
      simp only [relL] at hz
      obtain ⟨v, r, e, g, e0⟩ := hz
      subst e0
      simp only [List.headD]
      have : i.zero.cells = #[v] := by apply Array.ext'; simpa using e
      have hz0 : i.zero = v := by
        cases hi0 : i.zero with
        | agg cs => rw [hi0, hp] at hk; cases hk
        | _ => rw [hi0] at this; simpa [Value.cells] using this
      rw [hz0]; exact g
  | false =>
    simp only [Bool.false_eq_true, if_false]
    rw [hp] at hk
    split at hk
    · rename_i cs e
      rw [e] at hz ⊢
      simp only [rel]
      exact ⟨cs.toList, rfl, hz⟩
    · cases hk
theorem run_look {C : Cfg} {w : World} {O : Nat → Prop} {ev : Operand → Value} {t kt et : TypeId} {x k : Operand} {c : Bool} {o : Oper} (ho : o.op = .lookup t x k c) (ht : C.P.underlying t = some (.map kt et)) {ks : Option IntKind} (hkt : C.P.underlying kt = some (keyD ks)) {ei : TI} (he : TI.ok C.P et ei)
    (hkn : zOk ei = true) {z : List A} (hz : datL (zeroV C et ei) = some z) {xs : List (List A)} (hm : MapOf w O xs (ev x)) {ka : A} (hka : rel w O ka (ev k)) (hok : keyOk ks ka = true) {r : Option (Nat × A)} (hf : mFind ks ka xs 0 = some r) :
    ∃ u, (execOp ev o).run C.P w = .ok (.value u) w ∧ rel w O (lookR c ei.kind.plain z r) u := by
  obtain ⟨hik, rfl⟩ := keyOk_is hok hka
  have hzr := zA_rel (w := w) (O := O) he hkn hz
  have fin : ∀ (es : Array MapEntry), relEs w O xs es.toList → (r = none ∧ (Instr.findKey kt (ev k) es.toList).run C.P w = .ok none w) ∨ ∃ n a m u, r = some (n, a) ∧ rel w O a u ∧ (Instr.findKey kt (ev k) es.toList).run C.P w = .ok (some (m, u)) w := by
    intro es hes
    rcases mFind_ok hes hf with ⟨h1, h2⟩ | ⟨n, a, e, h1, h2, _, _, h5, _⟩
    · exact Or.inl ⟨h1, run_findKey hkt h2⟩
    · exact Or.inr ⟨_, _, _, _, h1, h5, run_findKey hkt h2⟩
  have last : ∀ (v : A) (b : Bool) (u : Value), rel w O v u → rel w O (lookV c v b) (if c then .tuple #[u, .bool b] else u) := by
    intro v b u hr
    unfold lookV
    cases c with
    | false => exact hr
    | true =>
      simp only [if_true, rel]
      exact ⟨[u, .bool b], rfl, by simp only [relL]; exact ⟨_, _, rfl, hr, _, _, rfl, rfl, rfl⟩⟩
  have done : ∀ v, (Instr.lookup t (ev x) (ev k) c).run C.P w = .ok v w → (execOp ev o).run C.P w = .ok (.value v) w := by
    intro v hrun
    simp only [execOp, ho]
    show ((do pure (.value (← Instr.lookup t (ev x) (ev k) c)) : Sem Next)).run C.P w = _
    simp only [Sem.run_bind, hrun, Result.andThen_ok, Sem.run_pure]
  rcases hm with ⟨rfl, hx⟩ | ⟨b, es, clock, hx, hb, hes⟩
  · rcases fin #[] (by simp [relEs]) with ⟨rfl, h2⟩ | ⟨n, a, m, u, rfl, h1, h2⟩
    · refine ⟨_, done _ ?_, last _ _ _ hzr⟩
      unfold Instr.lookup
      rw [hx]
      simp only [Sem.run_bind, run_underlying ht, Result.andThen_ok, Sem.run_pure, run_checkKey hkt hik, h2, he.run_zero w]
    · refine ⟨_, done _ ?_, last _ _ _ h1⟩
      unfold Instr.lookup
      rw [hx]
      simp only [Sem.run_bind, run_underlying ht, Result.andThen_ok, Sem.run_pure, run_checkKey hkt hik, h2]
  · rcases fin es hes with ⟨rfl, h2⟩ | ⟨n, a, m, u, rfl, h1, h2⟩
    · refine ⟨_, done _ ?_, last _ _ _ hzr⟩
      unfold Instr.lookup
      rw [hx]
      simp only [Sem.run_bind, run_underlying ht, Result.andThen_ok, Sem.run_pure, MapKept.run_getObj_map hb, run_checkKey hkt hik, h2, he.run_zero w]
    · refine ⟨_, done _ ?_, last _ _ _ h1⟩
      unfold Instr.lookup
      rw [hx]
      simp only [Sem.run_bind, run_underlying ht, Result.andThen_ok, Sem.run_pure, MapKept.run_getObj_map hb, run_checkKey hkt hik, h2]

theorem map_at {X : Ctx} {w : World} {O0 : Nat → Prop} {m : Asg} {st : Stor} (hs : Sto X w O0 m st) {id : Nat} {xs : List (List A)} (hf : st id = .map xs) {u : Value} (hr : relV w (Ow O0 m st) m (.row id) u) :
    ∃ b es clock, m id = some (.mp b) ∧ u = .map (some b) ∧ w.heap[b]? = some (.map es clock) ∧ relEs w (Ow O0 m st) xs es.toList := by
  simp only [relV] at hr
  obtain ⟨hd, h1, h2⟩ := hr
  have ho := hs.obj id
  rw [hf] at ho
  obtain ⟨hd', g1, g2⟩ := ho
  rw [h1] at g1
  cases g1
  cases hd with
  | mp b =>
    obtain ⟨es, c, g3, g4⟩ := g2
    simp only [hdr] at h2
    exact ⟨b, es, c, h1, h2, g3, g4⟩
  | _ => exact g2.elim

def DRok (P : Program) (X : Ctx) (C : Cfg) (M : Node → Option Out) (o : Oper) (ρ : Operand → V) (st : Stor) : DR → Prop
  | .no => True
  | .val v rds => TOp P X o ρ ⟨v, rds, []⟩ ∧ ∀ r ∈ rds, agr st r
  | .opt x rds => ∀ a, x.run C M = some a → TOp P X o ρ ⟨.d a, rds, []⟩ ∧ ∀ r ∈ rds, agr st r

theorem DRok.opt1 {M : Node → Option Out} {st : Stor} {y : Option A} (h : ∀ a, y = some a → TOp P X o ρ ⟨.d a, [], []⟩) : DRok P X C M o ρ st (.opt (.opt y) []) :=
  fun a ha => ⟨h a ha, by simp⟩
end
end
end Go.Proofs.YtnbjmmldjggkfaaGreat.Abs
