/- FUNCTIONS: that what the least fixpoint says of a call, the call does. -/
import Derived.Test.YtnbjmmldjggkfaaGreatE18
namespace Go.Proofs.YtnbjmmldjggkfaaGreat.Abs
open Go Go.RowKit
noncomputable section

section
variable {C : Cfg} {X : Ctx} {w0 w : World} {Z0 O0 : Nat → Prop} {shv : Option (List Hd)} {m : Asg} {s : St} {a : Act} {st : Stor}

theorem evLoad_ptr (hD : TyOk C.P C.D) {t id off b c n : Nat} {v : V} {rds : List Rd} (h : evLoad C t (.ptr id off) st = .val v rds) (hs : Sto X w O0 m st) (h1 : m id = some (.blk b c n)) :
    ∃ z, (loadVar t ⟨b, off, none⟩).run C.P w = .ok z w ∧ relV w (Ow O0 m st) m v z := by
  unfold evLoad at h
  split at h
  · cases h
  · rename_i i hi
    dsimp only at h
    split at h
    · rename_i cs hst
      obtain ⟨vs, g3, g4⟩ := box_reads hs hst h1
      split at h
      · rename_i hp
        split at h
        · rename_i v' hv
          cases h
          obtain ⟨u, g5, g6⟩ := relVL_get g3 hv
          have hlt := (List.getElem?_eq_some_iff.1 g5).1
          have hk : i.kind.known = true := by cases hi : i.kind <;> simp_all [TK.known, TK.plain]
          obtain ⟨z, q1, q2⟩ := run_loadCells (P := C.P) (hD _ _ hi) hk (g4.drop off) (by rw [(hD _ _ hi).one hp]; simp; omega)
          rcases q2 with ⟨_, q2⟩ | ⟨q2, _⟩
          · have e : z = u := by rw [List.getElem?_drop, Nat.add_zero, g5] at q2; cases q2; rfl
            subst e
            exact ⟨z, by simpa using q1, g6⟩
          · rw [hp] at q2; cases q2
        · cases h
      · rename_i hp
        split at h
        · rename_i hk
          simp only [Bool.and_eq_true, Nat.ble_eq] at hk
          cases h
          have hvl := relVL_length g3
          obtain ⟨z, q1, q2⟩ := run_loadCells (P := C.P) (hD _ _ hi) hk.1 (g4.drop off) (by simp; omega)
          rcases q2 with ⟨q2, _⟩ | ⟨_, rfl⟩
          · exact absurd q2 hp
          · refine ⟨_, by simpa using q1, ?_⟩
            simp only [relV]
            exact ⟨_, rfl, relVL_take _ (relVL_drop _ g3)⟩
        · cases h
    · cases h

def resGo (tmps : Array Value) : ResultVar → Sem Value
  | .tmp t => pure (tmps.getD t undef)
  | .cell a t => do loadVar t (← asAddr (tmps.getD a undef))

theorem resV_ok (hD : TyOk C.P C.D) (hs : Sim X w0 Z0 O0 shv m s a w) {x : ResultVar} {v : V} (h : resV C s x = some v) : ∃ z, (resGo a.tmps x).run C.P w = .ok z w ∧ relV w (Ow O0 m s.st) m v z := by
  cases x with
  | tmp t =>
    cases h
    exact ⟨a.tmps.getD t undef, by simp [resGo], hs.ev (.tmp t)⟩
  | cell b t =>
    simp only [resV] at h
    split at h
    · rename_i v' rds hl
      cases h
      have hb := hs.ev (.tmp b)
      revert hl hb
      generalize evF s.n s.fr (.tmp b) = p
      intro hl hb
      cases p with
      | ptr id off =>
        simp only [relV] at hb
        obtain ⟨bb, c, n, h1, h2⟩ := hb
        obtain ⟨z, h3, h4⟩ := evLoad_ptr hD hl hs.sto h1
        refine ⟨z, ?_, h4⟩
        simp only [Act.eval] at h2
        simp only [resGo, Sem.run_bind, h2, asAddr, Sem.run_pure, Result.andThen_ok, h3]
      | d p =>
        unfold evLoad at hl
        split at hl
        · cases hl
        · dsimp only at hl; split at hl
          · cases hl
          · split at hl <;> cases hl
      | rptr id i k j =>
        unfold evLoad at hl
        split at hl
        · cases hl
        · dsimp only at hl; split at hl
          · split at hl
            · split at hl
              · cases hl
              · split at hl <;> cases hl
            · cases hl
          · cases hl
      | _ =>
        unfold evLoad at hl
        split at hl <;> cases hl
    · cases h

theorem resL_ok (hD : TyOk C.P C.D) (hs : Sim X w0 Z0 O0 shv m s a w) : ∀ (l : List ResultVar) (ts : List TypeId) {vs : List V}, resL C s l ts = some vs → ∃ us, (l.mapM (resGo a.tmps)).run C.P w = .ok us w ∧ relVL w (Ow O0 m s.st) m vs us
  | [], ts, vs, h => by
    simp only [resL] at h
    cases h
    exact ⟨[], by simp, by simp [relVL]⟩
  | x :: l, [], vs, h => by
    simp only [resL] at h
    split at h
    · rename_i v vs' h1 h2
      cases h
      obtain ⟨z, g1, g2⟩ := resV_ok hD hs h1
      obtain ⟨us, g3, g4⟩ := resL_ok hD hs l [] h2
      exact ⟨z :: us, by simp only [List.mapM_cons, Sem.run_bind, g1, Result.andThen_ok, g3, Sem.run_pure], by simp only [relVL]; exact ⟨z, us, rfl, g2, g4⟩⟩
    · cases h
  | x :: l, t :: ts, vs, h => by
    simp only [resL] at h
    split at h
    · rename_i v vs' h1 h2
      cases h
      obtain ⟨z, g1, g2⟩ := resV_ok hD hs h1
      obtain ⟨us, g3, g4⟩ := resL_ok hD hs l ts h2
      exact ⟨z :: us, by simp only [List.mapM_cons, Sem.run_bind, g1, Result.andThen_ok, g3, Sem.run_pure], by simp only [relVL]; exact ⟨z, us, rfl, rel_nilV g2, g4⟩⟩
    · cases h

theorem finishP_ok (hD : TyOk C.P C.D) (hs : Sim X w0 Z0 O0 shv m s a w) {fn : Func} {out : Out} (h : finishP C fn s = some out) : ∃ v, (results fn a.tmps).run C.P w = .ok v w ∧ rel w O0 out.1 v ∧ out.2 = [] := by
  unfold finishP at h
  split at h
  · rename_i vs hvs
    split at h
    · rename_i r rds hr
      cases h
      obtain ⟨us, h1, h2⟩ := resL_ok hD hs _ _ hvs
      have hm : (fn.results.mapM (resGo a.tmps)).run C.P w = .ok us.toArray w := by
        rw [Array.mapM_eq_mapM_toList]
        simp only [Sem.run_map, h1, Result.andThen_ok]
      have hl := relVL_length h2
      refine ⟨if h : us.toArray.size = 1 then us.toArray[0] else .tuple us.toArray, ?_, ?_, rfl⟩
      · have e : results fn a.tmps = (do let vs ← fn.results.mapM (resGo a.tmps); pure (if h : vs.size = 1 then vs[0] else .tuple vs)) := by
          unfold results
          congr 1
        rw [e]
        simp only [Sem.run_bind, hm]
        simp only [Result.andThen_ok, Sem.run_pure]
      · have hrel : relV w (Ow O0 m s.st) m (mkRes vs) (if h : us.toArray.size = 1 then us.toArray[0] else .tuple us.toArray) := by
          match vs, us, h2, hl with
          | [r], [v], h2, _ =>
            simp only [relVL, List.cons.injEq] at h2
            obtain ⟨u, t, ⟨rfl, rfl⟩, h3, _⟩ := h2
            simpa [mkRes] using h3
          | [], us, h2, hl =>
            have hne : ¬ us.toArray.size = 1 := by simp at hl ⊢; simp [hl]
            rw [dif_neg hne]
            simp only [mkRes, relV]
            exact ⟨us, rfl, h2⟩
          | r1 :: r2 :: rs, us, h2, hl =>
            have hne : ¬ us.toArray.size = 1 := by simp at hl ⊢; omega
            rw [dif_neg hne]
            simp only [mkRes, relV]
            exact ⟨us, rfl, h2⟩
        have hg := rel_toA hs.sto 60 (mkRes vs) hr hrel
        refine rel_mono (MonoW.sub fun b hb => ⟨Or.inl hb, ?_⟩) _ _ hg
        rintro ⟨id, o, hd, h3, h4, h5, h7⟩
        have h6 := toA_rds 60 (mkRes vs) hr _ h3
        simp only [agr] at h6
        exact (hs.sto.blk id hd b (by rw [h6]; exact h4) h5 h7).2 hb
    · cases h
  · cases h

/-- What must hold of a program once and for all. -/
structure Sane (C : Cfg) : Prop where
  ty : TyOk C.P C.D
  mixed : C.P.follows .mixedOrders = true
  names : ∀ (f : FuncId) (fn : Func), C.P.funcs[f]? = some fn → (fn.name == "runtime.NumGoroutine") = false
  lex : ∀ (f : FuncId) (fn : Func) (c : Code), C.P.funcs[f]? = some fn → fn.body = some c → lexC c = true


theorem relL_relVL {O : Nat → Prop} : ∀ {as : List A} {us : List Value}, relL w O as us → relVL w O m (as.map V.d) us
  | [], us, h => by simpa [relL, relVL] using h
  | x :: as, us, h => by
    simp only [relL] at h
    obtain ⟨v, r, h1, h2, h3⟩ := h
    simp only [List.map_cons, relVL, relV]
    exact ⟨v, r, h1, h2, relL_relVL h3⟩


/-! ### What a call that was handed objects hands back -/
structure ExtM (c c' : MAcc) : Prop where
  as : ∀ (i : Nat) (a : A), c.as[i]? = some a → c'.as[i]? = some a
  ns : ∀ (i : Nat) (x : Option Nat), c.ns[i]? = some x → c'.ns[i]? = some x
  rds : ∀ x, x ∈ c.rds → x ∈ c'.rds

theorem ExtM.refl (c : MAcc) : ExtM c c := ⟨fun _ _ h => h, fun _ _ h => h, fun _ h => h⟩
theorem ExtM.trans {a b c : MAcc} (h : ExtM a b) (k : ExtM b c) : ExtM a c := ⟨fun i x e => k.as i x (h.as i x e), fun i x e => k.ns i x (h.ns i x e), fun x e => k.rds x (h.rds x e)⟩
theorem get_app {α : Type} {l : List α} {x : α} : ∀ (i : Nat) (a : α), l[i]? = some a → (l ++ [x])[i]? = some a := fun i a h => by
  rw [List.getElem?_append_left (List.getElem?_eq_some_iff.mp h).1]; exact h
theorem ExtM.ns1 (c : MAcc) (x : Option Nat) : ExtM c ⟨c.as, c.ns ++ [x], c.rds⟩ := ⟨fun _ _ h => h, get_app, fun _ h => h⟩
theorem ExtM.as1 (c : MAcc) (a : A) (r : List Rd) : ExtM c ⟨c.as ++ [a], c.ns, c.rds ++ r⟩ := ⟨get_app, fun _ _ h => h, fun _ h => List.mem_append_left _ h⟩

/-- Where what is handed back lies. -/
def nsM (m : Asg) : Option Nat → Option Hd
  | some id => m id
  | none => some .none
def owI (id : Nat) : OW → Option Nat
  | .cons => none
  | _ => some id
def rowIs (st : Stor) (b : Bool) (k : Nat) (xs : List (List A)) : Option Nat → Prop
  | none => xs = [] ∧ Nat.blt (kdK k) 128 = true
  | some id => rowK b k xs = .gone ∨ (st id = rowK b k xs ∧ (rowK b k xs).alive = true)
theorem rowIs_alive {st : Stor} {b : Bool} {k : Nat} {xs : List (List A)} {id : Nat} {o : Abs.Obj} (h : rowIs st b k xs (some id)) (e : o = rowK b k xs) (ha : o.alive = true) : st id = o ∧ (st id).alive = true := by
  rcases h with h | ⟨h1, h2⟩
  · rw [e, h] at ha; cases ha
  · rw [h1, e]; exact ⟨rfl, h2⟩

def mFin (sh : List Nat) (ns : List (Option Nat)) (m : Asg) : Asg := fun i =>
  if i < sh.length then (sh[i]?).bind m else match ns[i - sh.length]? with
    | some (some id) => m id
    | some none => some .none
    | none => none

theorem mFin_sh {sh : List Nat} {ns : List (Option Nat)} {m : Asg} {q id : Nat} (h : sh[q]? = some id) : mFin sh ns m q = m id := by
  have := (List.getElem?_eq_some_iff.mp h).1
  unfold mFin
  rw [if_pos this, h]
  rfl
theorem mFin_ns {sh : List Nat} {ns : List (Option Nat)} {m : Asg} {q : Nat} {x : Option Nat} (h : ns[q]? = some x) : mFin sh ns m (sh.length + q) = nsM m x := by
  unfold mFin
  have e : sh.length + q - sh.length = q := by omega
  rw [if_neg (by omega), e]
  rw [h]
  cases x <;> rfl

theorem range_cGet : ∀ (ds : List A), ((List.range ds.length).map fun j => V.d (cGet ds j)) = ds.map V.d := fun ds => by
  refine List.ext_getElem? fun i => ?_
  rw [List.getElem?_map, List.getElem?_map]
  by_cases h : i < ds.length
  · rw [List.getElem?_range h, List.getElem?_eq_getElem h]
    simp [cGet, h]
  · rw [List.getElem?_eq_none (by simpa using h), List.getElem?_eq_none (by omega)]
    rfl

def HRel (st : Stor) (w : World) (m : Asg) (O O' : Nat → Prop) (F : MAcc) : Prop := ∀ (a : A) (r : List Rd) (v : V) (u : Value), toA st 60 v = some (a, r) → (∀ x ∈ r, x ∈ F.rds) → relV w O m v u → rel w O' a u

section
variable {O O' : Nat → Prop} {F : MAcc} {sh : List Nat}

mutual
theorem mt_ok :
    ∀ (s : Sh) (v : V) {c c' : MAcc}, mt st sh s v c = some c' → ExtM c c' ∧ (HRel st w m O O' F → ExtM c' F → ∀ u, relV w O m v u → relV w O' (mFin sh F.ns m) (s.toV F.as) u)
  | .d i, v, c, c', h => by
    simp only [mt] at h
    split at h
    · rename_i a r ha
      split at h
      · rename_i hb
        cases h
        have hb := Nat.eq_of_beq_eq_true hb
        refine ⟨ExtM.as1 _ _ _, fun hR hF u hu => ?_⟩
        have : F.as[i]? = some a := hF.as i a (by rw [hb]; simp)
        simp only [Sh.toV, relV]
        rw [List.getD_eq_getElem?_getD, this]
        exact hR a r v u ha (fun x hx => hF.rds x (by simp [hx])) hu
      · cases h
    · cases h
  | .row o, v, c, c', h => by
    cases v <;> simp only [mt, reduceCtorEq] at h
    case row id =>
      split at h
      · rename_i q hq
        split at h
        · rename_i hb
          cases h
          have hb := Nat.eq_of_beq_eq_true hb
          subst hb
          refine ⟨ExtM.refl _, fun hR hF u hu => ?_⟩
          simp only [relV, Sh.toV] at hu ⊢
          obtain ⟨hd, h1, h2⟩ := hu
          exact ⟨hd, by rw [mFin_sh hq]; exact h1, h2⟩
        · cases h
      · split at h
        · rename_i hb
          cases h
          have hb := Nat.eq_of_beq_eq_true hb
          refine ⟨ExtM.ns1 _ _, fun hR hF u hu => ?_⟩
          simp only [relV, Sh.toV] at hu ⊢
          obtain ⟨hd, h1, h2⟩ := hu
          refine ⟨hd, ?_, h2⟩
          rw [hb, mFin_ns (hF.ns c.ns.length (some id) (by simp))]
          exact h1
        · cases h
    case nil k =>
      split at h
      · rename_i hb
        cases h
        have hb := Nat.eq_of_beq_eq_true hb
        refine ⟨ExtM.ns1 _ _, fun hR hF u hu => ?_⟩
        simp only [relV, Sh.toV] at hu ⊢
        refine ⟨.none, ?_, hu⟩
        rw [hb, mFin_ns (hF.ns c.ns.length none (by simp))]
        rfl
      · cases h
  | .ptr o off, v, c, c', h => by
    cases v <;> simp only [mt, reduceCtorEq] at h
    case ptr id off' =>
      split at h
      · rename_i q hq
        split at h
        · rename_i hb
          simp only [Bool.and_eq_true] at hb
          cases h
          have hb1 := Nat.eq_of_beq_eq_true hb.1
          have hb2 := Nat.eq_of_beq_eq_true hb.2
          subst hb1 hb2
          refine ⟨ExtM.refl _, fun hR hF u hu => ?_⟩
          simp only [relV, Sh.toV] at hu ⊢
          obtain ⟨b, cc, n, h1, h2⟩ := hu
          exact ⟨b, cc, n, by rw [mFin_sh hq]; exact h1, h2⟩
        · cases h
      · cases h
  | .agg l, v, c, c', h => by
    cases v <;> simp only [mt, reduceCtorEq] at h
    case agg cs =>
      obtain ⟨h1, h2⟩ := mtL_ok l cs h
      refine ⟨h1, fun hR hF u hu => ?_⟩
      simp only [relV, Sh.toV] at hu ⊢
      obtain ⟨vs, h3, h4⟩ := hu
      exact ⟨vs, h3, h2 hR hF vs h4⟩
    case d a =>
      rw [Option.bind_eq_some_iff] at h
      obtain ⟨ds, ha, h⟩ := h
      obtain ⟨h1, h2⟩ := mtL_ok l _ h
      refine ⟨h1, fun hR hF u hu => ?_⟩
      unfold pAgg at ha
      split at ha
      · split at ha
        · rename_i hl
          cases ha
          simp only [relV, rel, Sh.toV] at hu ⊢
          obtain ⟨vs, h3, h4⟩ := hu
          refine ⟨vs, h3, h2 hR hF vs ?_⟩
          rw [← hl, range_cGet]
          exact relL_relVL h4
        · cases ha
      · cases ha
  | .tup l, v, c, c', h => by
    cases v <;> simp only [mt, reduceCtorEq] at h
    case tup cs =>
      obtain ⟨h1, h2⟩ := mtL_ok l cs h
      refine ⟨h1, fun hR hF u hu => ?_⟩
      simp only [relV, Sh.toV] at hu ⊢
      obtain ⟨vs, h3, h4⟩ := hu
      exact ⟨vs, h3, h2 hR hF vs h4⟩
theorem mtL_ok :
    ∀ (l : List Sh) (vs : List V) {c c' : MAcc}, mtL st sh l vs c = some c' → ExtM c c' ∧ (HRel st w m O O' F → ExtM c' F → ∀ us, relVL w O m vs us → relVL w O' (mFin sh F.ns m) (Sh.toVL F.as l) us)
  | [], [], c, c', h => by
    simp only [mtL] at h
    cases h
    exact ⟨ExtM.refl _, fun _ _ us hu => by simpa [relVL, Sh.toVL] using hu⟩
  | [], _ :: _, _, _, h => by simp only [mtL, reduceCtorEq] at h
  | _ :: _, [], _, _, h => by simp only [mtL, reduceCtorEq] at h
  | s :: l, v :: vs, c, c', h => by
    simp only [mtL] at h
    rw [Option.bind_eq_some_iff] at h
    obtain ⟨c1, g1, g2⟩ := h
    obtain ⟨h1, h2⟩ := mt_ok s v g1
    obtain ⟨h3, h4⟩ := mtL_ok l vs g2
    refine ⟨h1.trans h3, fun hR hF us hu => ?_⟩
    simp only [relVL, Sh.toVL] at hu ⊢
    obtain ⟨x, r, e, q1, q2⟩ := hu
    exact ⟨x, r, e, h2 hR (h3.trans hF) x q1, h4 hR hF r q2⟩
end

theorem mtB_ok :
    ∀ (ws : List OW) (ids : List Nat) {c c' : MAcc}, mtB st sh ws ids c = some c' → ExtM c c' ∧ ws.length = ids.length ∧ (HRel st w m O O' F → ExtM c' F → ∀ (i : Nat) (l : List Sh) (id : Nat), ws[i]? = some (.box l) → ids[i]? = some id → ∃ cs, st id = .box cs ∧ ∀ us, relVL w O m cs us → relVL w O' (mFin sh F.ns m) (Sh.toVL F.as l) us)
  | [], [], c, c', h => by
    simp only [mtB] at h
    cases h
    exact ⟨ExtM.refl _, rfl, fun _ _ i l id h => by simp at h⟩
  | [], _ :: _, _, _, h => by simp only [mtB, reduceCtorEq] at h
  | x :: _, [], _, _, h => by cases x <;> simp only [mtB, reduceCtorEq] at h
  | x :: ws, id :: ids, c, c', h => by
    have gen : mtB st sh ws ids c = some c' → (∀ l, x ≠ .box l) → ExtM c c' ∧ (x :: ws).length = (id :: ids).length ∧ (HRel st w m O O' F → ExtM c' F → ∀ (i : Nat) (l : List Sh) (id' : Nat), (x :: ws)[i]? = some (.box l) → (id :: ids)[i]? = some id' → ∃ cs, st id' = .box cs ∧ ∀ us, relVL w O m cs us → relVL w O' (mFin sh F.ns m) (Sh.toVL F.as l) us) := by
      intro h hx
      obtain ⟨h1, h2, h3⟩ := mtB_ok ws ids h
      refine ⟨h1, by simp [h2], fun hR hF i l id' hi hid => ?_⟩
      cases i with
      | zero => simp at hi; exact absurd hi (hx l)
      | succ i => exact h3 hR hF i l id' (by simpa using hi) (by simpa using hid)
    cases x with
    | cons => exact gen (by simpa only [mtB] using h) fun l h => by cases h
    | io j => exact gen (by simpa only [mtB] using h) fun l h => by cases h
    | box l =>
      simp only [mtB] at h
      split at h
      · rename_i cs hst
        rw [Option.bind_eq_some_iff] at h
        obtain ⟨c1, g1, g2⟩ := h
        obtain ⟨h1, h2⟩ := mtL_ok l cs g1
        obtain ⟨h3, h4, h5⟩ := mtB_ok ws ids g2
        refine ⟨h1.trans h3, by simp [h4], fun hR hF i l' id' hi hid => ?_⟩
        cases i with
        | zero =>
          simp at hi hid
          subst hi hid
          exact ⟨cs, hst, fun us hus => h2 hR (h3.trans hF) us hus⟩
        | succ i => exact h5 hR hF i l' id' (by simpa using hi) (by simpa using hid)
      · cases h
end

theorem mtB_len {st : Stor} {sh : List Nat} : ∀ {ws : List OW} {ids : List Nat} {c c' : MAcc}, mtB st sh ws ids c = some c' → ws.length = ids.length
  | [], [], c, c', _ => rfl
  | [], _ :: _, _, _, h => by simp only [mtB, reduceCtorEq] at h
  | x :: _, [], _, _, h => by cases x <;> simp only [mtB, reduceCtorEq] at h
  | x :: ws, id :: ids, c, c', h => by
    cases x with
    | cons => simp only [mtB] at h; simp [mtB_len h]
    | io j => simp only [mtB] at h; simp [mtB_len h]
    | box l =>
      simp only [mtB] at h
      split at h
      · rw [Option.bind_eq_some_iff] at h
        obtain ⟨c1, g1, g2⟩ := h
        simp [mtB_len g2]
      · cases h

theorem mtB_box {st : Stor} {sh : List Nat} : ∀ {ws : List OW} {ids : List Nat} {c c' : MAcc} {i id : Nat} {l : List Sh}, mtB st sh ws ids c = some c' → ws[i]? = some (.box l) → ids[i]? = some id → ∃ cs, st id = .box cs
  | [], _, _, _, _, _, _, _, h, _ => by simp at h
  | _ :: _, [], _, _, _, _, _, _, _, h => by simp at h
  | x :: ws, y :: ids, c, c', i, id, l, h, hi, hid => by
    cases i with
    | zero =>
      simp at hi hid
      subst hi hid
      simp only [mtB] at h
      split at h
      · rename_i cs hst; exact ⟨cs, hst⟩
      · cases h
    | succ i =>
      simp only [List.getElem?_cons_succ] at hi hid
      cases x with
      | cons => simp only [mtB] at h; exact mtB_box h hi hid
      | io j => simp only [mtB] at h; exact mtB_box h hi hid
      | box l =>
        simp only [mtB] at h
        split at h
        · rw [Option.bind_eq_some_iff] at h
          obtain ⟨c1, g1, g2⟩ := h
          exact mtB_box g2 hi hid
        · cases h

theorem liveL_get : ∀ {ws : List OW} {sh : List Nat}, ws.length = sh.length → (liveL ws sh).length = ws.length ∧ ∀ (i : Nat) (ow : OW) (id : Nat), ws[i]? = some ow → sh[i]? = some id → (liveL ws sh)[i]? = some (owI id ow)
  | [], [], _ => ⟨rfl, fun i ow id h => by simp at h⟩
  | [], _ :: _, h => by cases h
  | _ :: _, [], h => by cases h
  | x :: ws, y :: sh, h => by
    obtain ⟨h1, h2⟩ := liveL_get (ws := ws) (sh := sh) (by simpa using h)
    have e : liveL (x :: ws) (y :: sh) = owI y x :: liveL ws sh := by cases x <;> rfl
    rw [e]
    refine ⟨by simp [h1], fun i ow id hi hid => ?_⟩
    cases i with
    | zero => simp at hi hid; subst hi hid; cases x <;> rfl
    | succ i => exact h2 i ow id (by simpa using hi) (by simpa using hid)

theorem ioL_length : ∀ {ws : List OW} {sh : List Nat}, ws.length = sh.length → (ioL ws sh).length = ioN ws
  | [], [], _ => rfl
  | [], _ :: _, h => by cases h
  | _ :: _, [], h => by cases h
  | x :: ws, y :: sh, h => by
    have := ioL_length (ws := ws) (sh := sh) (by simpa using h)
    cases x <;> simp [ioL, ioN, this]

theorem ioL_get : ∀ {ws : List OW} {sh : List Nat} {n : Nat}, ioOk ws n = true → ∀ (i j id : Nat), ws[i]? = some (.io j) → sh[i]? = some id → n ≤ j ∧ (ioL ws sh)[j - n]? = some (some id)
  | [], _, _, _, i, j, id, h, _ => by simp at h
  | _ :: _, [], _, _, i, j, id, _, h => by simp at h
  | x :: ws, y :: sh, n, ho, i, j, id, h, hid => by
    cases x with
    | io j0 =>
      simp only [ioOk, Bool.and_eq_true] at ho
      have e0 := Nat.eq_of_beq_eq_true ho.1
      subst e0
      cases i with
      | zero => simp at h hid; subst h hid; exact ⟨Nat.le_refl _, by simp [ioL]⟩
      | succ i =>
        obtain ⟨h1, h2⟩ := ioL_get ho.2 i j id (by simpa using h) (by simpa using hid)
        refine ⟨by omega, ?_⟩
        rw [show j - j0 = (j - (j0 + 1)) + 1 by omega]
        simpa [ioL] using h2
    | cons =>
      cases i with
      | zero => simp at h
      | succ i => exact ioL_get (ws := ws) (sh := sh) (n := n) ho i j id (by simpa using h) (by simpa using hid)
    | box l =>
      cases i with
      | zero => simp at h
      | succ i => exact ioL_get (ws := ws) (sh := sh) (n := n) ho i j id (by simpa using h) (by simpa using hid)

theorem pNo_false {a : A} {x : Unit} (h : pNo a = some x) : isTrueA a = false := by
  unfold pNo at h
  split at h
  · rfl
  · cases h
theorem rowK_row {b : Bool} {k k' : Nat} {xs : List (List A)} (h1 : k' = kdK k) (h2 : Nat.blt (kdK k) 64 = true) : rowK b k xs = .gone ∨ rowK b k xs = .row k' xs := by
  rcases rowK_cases b k xs with h | ⟨q, h, rfl⟩
  · exact Or.inl h
  · right; rw [h, h1]; unfold mkRow; rw [h2]; rfl
theorem rowsAt_get {st : Stor} {a : A} : ∀ {ks : List Nat} {l : List (Option Nat)} {rs : List (List (List A))}, rowsAt st a ks l = some rs → rs.length = ks.length ∧ l.length = ks.length ∧
    ∀ (j : Nat) (x : Option Nat), l[j]? = some x → ∃ k xs, ks[j]? = some k ∧ rs[j]? = some xs ∧ rowIs st (isTrueA a) k xs x
  | [], [], rs, h => by simp only [rowsAt] at h; cases h; exact ⟨rfl, rfl, fun j x h => by simp at h⟩
  | [], _ :: _, _, h => by simp only [rowsAt, reduceCtorEq] at h
  | _ :: _, [], _, h => by simp only [rowsAt, reduceCtorEq] at h
  | k :: ks, none :: l, rs, h => by
    simp only [rowsAt] at h
    obtain ⟨r, hr, h⟩ := Option.bind_eq_some_iff.1 h
    split at h
    · rename_i h128
      cases h
      obtain ⟨h1, h2, h3⟩ := rowsAt_get hr
      refine ⟨by simp [h1], by simp [h2], fun j x hx => ?_⟩
      cases j with
      | zero => simp at hx; subst hx; exact ⟨k, [], rfl, rfl, rfl, h128⟩
      | succ j => simpa using h3 j x (by simpa using hx)
    · cases h
  | k :: ks, some id :: l, rs, h => by
    simp only [rowsAt] at h
    obtain ⟨r, hr, h⟩ := Option.bind_eq_some_iff.1 h
    obtain ⟨h1, h2, h3⟩ := rowsAt_get hr
    have fin : ∀ xs, rs = xs :: r → rowIs st (isTrueA a) k xs (some id) → rs.length = (k :: ks).length ∧ (some id :: l).length = (k :: ks).length ∧
        ∀ (j : Nat) (x : Option Nat), (some id :: l)[j]? = some x → ∃ k_1 xs, (k :: ks)[j]? = some k_1 ∧ rs[j]? = some xs ∧ rowIs st (isTrueA a) k_1 xs x := by
      rintro xs rfl hi
      refine ⟨by simp [h1], by simp [h2], fun j x hx => ?_⟩
      cases j with
      | zero => simp at hx; subst hx; exact ⟨k, xs, rfl, rfl, hi⟩
      | succ j => simpa using h3 j x (by simpa using hx)
    split at h
    · rename_i k' xs hst
      split at h
      · rename_i hb
        cases h
        rw [Bool.and_eq_true] at hb
        refine fin xs rfl ?_
        rcases rowK_row (b := isTrueA a) (xs := xs) (Nat.eq_of_beq_eq_true hb.1) hb.2 with g | g
        · exact Or.inl g
        · exact Or.inr ⟨by rw [g, hst], by rw [g]; rfl⟩
      · cases h
    · rename_i k' xs hst
      split at h
      · rename_i hb
        cases h
        simp only [Bool.and_eq_true, Bool.not_eq_true'] at hb
        have hb1 := Nat.eq_of_beq_eq_true hb.1
        have hb2 := hb.2.1
        have hb3 := hb.2.2
        subst hb1
        refine fin xs rfl (Or.inr ?_)
        have : Nat.blt (k' + 64) 64 = false := by
          cases hh : Nat.blt (k' + 64) 64 with
          | false => rfl
          | true => rw [Nat.blt_eq] at hh; omega
        have e : rowK (isTrueA a) (k' + 64) xs = .tre true k' xs := by
          unfold rowK mkRow
          rw [hb3, this, hb2]
          simp only [cond_true, cond_false]
          rw [show k' + 64 - 64 = k' by omega]
        exact ⟨by rw [e, hst], by rw [e]; rfl⟩
      · cases h
    · rename_i xs hst
      split at h
      · rename_i hb
        cases h
        have hb1 := Nat.eq_of_beq_eq_true hb
        subst hb1
        exact fin xs rfl (Or.inr ⟨hst, rfl⟩)
      · cases h
    · split at h
      · rename_i hst hb
        obtain ⟨u, hu, h⟩ := Option.bind_eq_some_iff.1 h
        cases h
        refine fin [] rfl (Or.inl ?_)
        rw [pNo_false hu]
        have : Nat.blt k 256 = false := by
          cases hh : Nat.blt k 256 with
          | false => rfl
          | true => rw [Nat.blt_eq] at hh; rw [Nat.ble_eq] at hb; omega
        unfold rowK
        rw [this]; rfl
      · cases h
    · cases h

theorem slL_get : ∀ {ks : List Nat} {rs : List (List (List A))} {j k : Nat} {r : List (List A)}, ks[j]? = some k → rs[j]? = some r → (slL ks rs)[j]? = some (.sl k r)
  | [], _, _, _, _, h, _ => by simp at h
  | _ :: _, [], _, _, _, _, h => by simp at h
  | k0 :: ks, r0 :: rs, j, k, r, h1, h2 => by
    cases j with
    | zero => simp at h1 h2; subst h1 h2; rfl
    | succ j => simpa [slL] using slL_get (ks := ks) (rs := rs) (by simpa using h1) (by simpa using h2)

theorem hasO_iff {x : Nat} : ∀ {l : List (Option Nat)}, hasO x l = true ↔ some x ∈ l
  | [] => by simp [hasO]
  | none :: l => by simp only [hasO, List.mem_cons, reduceCtorEq, false_or]; exact hasO_iff
  | some y :: l => by
    simp only [hasO, Bool.or_eq_true, List.mem_cons, Option.some.injEq]
    rw [hasO_iff]
    exact or_congr ⟨Nat.eq_of_beq_eq_true, fun e => by simp [e]⟩ Iff.rfl

theorem nodupO_get : ∀ {l : List (Option Nat)}, nodupO l = true → ∀ (i j x : Nat), l[i]? = some (some x) → l[j]? = some (some x) → i = j
  | [], _, i, j, x, h, _ => by simp at h
  | none :: l, hn, i, j, x, h1, h2 => by
    cases i with
    | zero => simp at h1
    | succ i =>
      cases j with
      | zero => simp at h2
      | succ j => congr 1; exact nodupO_get (l := l) hn i j x (by simpa using h1) (by simpa using h2)
  | some y :: l, hn, i, j, x, h1, h2 => by
    simp only [nodupO, Bool.and_eq_true, Bool.not_eq_true'] at hn
    have hy : ∀ q, l[q]? ≠ some (some y) := fun q hq => by
      have := hasO_iff.mpr (List.mem_of_getElem? hq)
      rw [hn.1] at this
      cases this
    cases i with
    | zero =>
      simp at h1
      subst h1
      cases j with
      | zero => rfl
      | succ j => exact absurd (by simpa using h2) (hy j)
    | succ i =>
      cases j with
      | zero => simp at h2; subst h2; exact absurd (by simpa using h1) (hy i)
      | succ j => congr 1; exact nodupO_get hn.2 i j x (by simpa using h1) (by simpa using h2)

theorem eqP_eq : ∀ {a b : List Nat}, eqP a b = true → a = b
  | [], [], _ => rfl
  | [], _ :: _, h => by cases h
  | _ :: _, [], h => by cases h
  | x :: a, y :: b, h => by
    simp only [eqP, Bool.and_eq_true] at h
    rw [Nat.eq_of_beq_eq_true h.1, eqP_eq h.2]

theorem ups_get : ∀ {k n q : Nat}, q < k → (ups n k)[q]? = some (n + q)
  | 0, _, _, h => by omega
  | k + 1, n, 0, _ => rfl
  | k + 1, n, q + 1, h => by
    have := ups_get (k := k) (n := n + 1) (q := q) (by omega)
    simp only [ups, List.getElem?_cons_succ, this]
    congr 1; omega

/-- What a call that was handed objects hands back lies in memory as it says. -/
theorem mkRow_is {o : Abs.Obj} {k : Nat} {xs : List (List A)} (e : o = mkRow k xs) : ∃ k xs, o = .row k xs ∨ o = .fro k xs ∨ (∃ f, o = .tre f k xs) ∨ o = .map xs := by
  rcases mkRow_cases k xs with h | h | h
  · exact ⟨_, _, Or.inl (e.trans h)⟩
  · exact ⟨_, _, Or.inr (Or.inr (Or.inl ⟨_, e.trans h⟩))⟩
  · exact ⟨0, _, Or.inr (Or.inr (Or.inr (e.trans h)))⟩
theorem finS_ok {X : Ctx} {w : World} {O0 : Nat → Prop} {m : Asg} {st : Stor} {sg : SigA} {sh : List Nat} {vs : List V} {out : Out} (hs : Sto X w O0 m st) (hshm : ∀ id ∈ sh, ∃ h, m id = some h) (h : finS st sg sh vs = some out) {u : Value} (hu : relV w (Ow O0 m st) m (mkRes vs) u) :
    ∃ as rs m', HolesOk sg out as rs ∧ (∀ i id, sh[i]? = some id → m' i = m id) ∧ Sto X w O0 m' (stOf (sg.objs as rs)) ∧ (∀ b, Mz m' (stOf (sg.objs as rs)) b → Mz m st b) ∧ relV w (Ow O0 m' (stOf (sg.objs as rs))) m' (sg.r.toV as) u := by
  unfold finS at h
  rw [Option.bind_eq_some_iff] at h
  obtain ⟨c1, hB, h⟩ := h
  rw [Option.bind_eq_some_iff] at h
  obtain ⟨F, hr, h⟩ := h
  split at h
  rotate_left
  · cases h
  rename_i hc
  simp only [Bool.and_eq_true] at hc
  obtain ⟨⟨⟨⟨⟨hc1, hc2⟩, hc3⟩, hc4⟩, hc5⟩, hc6⟩ := hc
  have hc1 := Nat.eq_of_beq_eq_true hc1
  have hc2 := Nat.eq_of_beq_eq_true hc2
  have hc4 := eqP_eq hc4
  obtain ⟨rs, hrs, h⟩ := Option.bind_eq_some_iff.1 h
  cases h
  generalize hlive : liveL sg.ws sh ++ F.ns = live at hc5 hc6
  generalize hm' : mFin sh F.ns m = m'
  generalize hst' : stOf (sg.objs F.as rs) = st'
  have hwl := mtB_len hB
  obtain ⟨la, hget⟩ := liveL_get hwl
  obtain ⟨hrl, hll, hrow⟩ := rowsAt_get hrs
  have hiol := ioL_length hwl
  have hN : ∀ q, q < sg.nw.length → sg.nw[q]? = some (ioN sg.ws + q) := fun q hq => by rw [hc4]; exact ups_get hq
  have lv1 : ∀ i ow id, sg.ws[i]? = some ow → sh[i]? = some id → live[i]? = some (owI id ow) := fun i ow id h1 h2 => by
    rw [← hlive, List.getElem?_append_left (by rw [la]; exact (List.getElem?_eq_some_iff.mp h1).1)]
    exact hget i ow id h1 h2
  have lv2 : ∀ q x, F.ns[q]? = some x → live[sh.length + q]? = some x := fun q x h => by
    rw [← hlive, List.getElem?_append_right (by rw [la, hwl]; omega), la, hwl, show sh.length + q - sh.length = q by omega]
    exact h
  generalize hbb : isTrueA (condA sg.ks F.as) = bb at *
  have hobe : sg.objs F.as rs = sg.objsB bb F.as rs := by rw [← hbb]; rfl
  have ob1 : ∀ i ow, sg.ws[i]? = some ow → st' i = ow.toO bb sg.ks F.as rs := fun i ow h => by
    rw [← hst']
    refine stOf_some ?_
    rw [hobe, SigA.objsB, List.getElem?_append_left (by simpa using (List.getElem?_eq_some_iff.mp h).1), List.getElem?_map, h]
    rfl
  have ob2 : ∀ q, q < sg.nw.length → st' (sh.length + q) = rowO bb sg.ks rs (ioN sg.ws + q) := fun q hq => by
    rw [← hst']
    refine stOf_some ?_
    rw [hobe, SigA.objsB, List.getElem?_append_right (by simp; omega), List.length_map, hwl, show sh.length + q - sh.length = q by omega, List.getElem?_map, hN q hq]
    rfl
  have ob3 : ∀ i, sh.length + sg.nw.length ≤ i → st' i = .dead := fun i hi => by
    rw [← hst']
    exact stOf_none (by simp [SigA.objs, SigA.objsB]; omega)
  have m1 : ∀ i id, sh[i]? = some id → m' i = m id := fun i id h => by rw [← hm']; exact mFin_sh h
  have m2 : ∀ q x, F.ns[q]? = some x → m' (sh.length + q) = nsM m x := fun q x h => by rw [← hm']; exact mFin_ns h
  have m3 : ∀ i, sh.length + sg.nw.length ≤ i → m' i = none := fun i hi => by
    rw [← hm']
    unfold mFin
    rw [if_neg (by omega), List.getElem?_eq_none (by omega)]
  have key : (∀ b, Ow O0 m' st' b → Ow O0 m st b) → (∀ b, Mz m' st' b → ∃ (i id : Nat) (hd : Hd), (live[i]?).join = some id ∧ (st id).alive = true ∧ m id = some hd ∧ b ∈ hd.blocks) →
      ∀ (a : A) (r : List Rd) (v : V) (u : Value), toA st 60 v = some (a, r) → (∀ x ∈ r, x ∈ F.rds) → relV w (Ow O0 m st) m v u → rel w (Ow O0 m' st') a u := by
    intro hsub hmi a r v u hto hsubr hrel
    refine rel_mono (MonoW.sub fun b hb => ⟨hsub b hb, ?_⟩) _ _ (rel_toA hs 60 v hto hrel)
    rintro ⟨id, o, hd, hmem, hal, hm, hi⟩
    have hst : st id = o := toA_rds 60 v hto _ hmem
    rcases hb with hb | hb
    · exact (hs.blk id hd b (by rw [hst]; exact hal) hm hi).2 hb
    · obtain ⟨i, id', hd', h1, h2, h3, hi'⟩ := hmi b hb
      have := hs.inj id id' hd hd' b (by rw [hst]; exact hal) h2 hm h3 hi hi'
      subst this
      have hin : some id ∈ live := by
        cases hl : live[i]? with
        | none => rw [hl] at h1; cases h1
        | some x => rw [hl] at h1; simp only [Option.join_some] at h1; subst h1; exact List.mem_of_getElem? hl
      have hk := List.all_eq_true.mp hc6 _ (hsubr _ hmem)
      simp only [hal, Bool.not_true, Bool.false_or, Bool.not_eq_true'] at hk
      rw [hasO_iff.mpr hin] at hk
      cases hk
  have hext := (mt_ok (w := w) (m := m) (O := Ow O0 m st) (O' := Ow O0 m' st') (F := F) sg.r (mkRes vs) hr).1
  have hbox := (mtB_ok (w := w) (m := m) (O := Ow O0 m st) (O' := Ow O0 m' st') (F := F) sg.ws sh hB).2.2
  rw [hm'] at hbox
  obtain ⟨hsto, hmz⟩ := Sto.pick (X := X) (w := w) (O0' := O0) (m' := m') (st' := st') hs hs.jn (fun b hb => Or.inl hb) (fun i => (live[i]?).join) (fun i => by
      by_cases hi : i < sh.length
      · have hg : sh[i]? = some sh[i] := List.getElem?_eq_getElem hi
        have hi' : i < sg.ws.length := by omega
        have hw : sg.ws[i]? = some sg.ws[i] := List.getElem?_eq_getElem hi'
        have hl := lv1 i _ _ hw hg
        have ho := ob1 i _ hw
        have hm := m1 i _ hg
        generalize sg.ws[i] = ow at hw hl ho
        cases ow with
        | cons => exact Or.inr (Or.inl ho)
        | io j =>
          obtain ⟨_, g1⟩ := ioL_get hc3 i j _ hw hg
          have g1 : (ioL sg.ws sh ++ F.ns)[j]? = some (some sh[i]) := by
            rw [List.getElem?_append_left (by have := (List.getElem?_eq_some_iff.mp g1).1; simpa using this)]
            simpa using g1
          obtain ⟨k, xs, g2, g3, g4⟩ := hrow j _ g1
          have e : st' i = rowK bb k xs := by rw [ho]; simp [OW.toO, rowO, List.getD_eq_getElem?_getD, g2, g3]
          rcases g4 with g4 | ⟨g4, _⟩
          · exact Or.inr (Or.inl (e.trans g4))
          · rcases rowK_cases bb k xs with g5 | ⟨k', g5, _⟩
            · exact Or.inr (Or.inl (e.trans g5))
            · exact Or.inr (Or.inr (Or.inr ⟨sh[i], by rw [hl]; rfl, hm, Or.inl ⟨mkRow_is (e.trans g5), by rw [e]; exact g4⟩⟩))
        | box l =>
          refine Or.inr (Or.inr (Or.inr ⟨sh[i], by rw [hl]; rfl, hm, Or.inr ?_⟩))
          have hst : ∃ cs, st sh[i] = .box cs := mtB_box hB hw hg
          obtain ⟨cs, hcs⟩ := hst
          refine ⟨cs, _, hcs, ho, fun hsub hmi us hus => ?_⟩
          obtain ⟨cs', h1, h2⟩ := hbox (key hsub hmi) hext i l _ hw hg
          rw [hcs] at h1
          cases h1
          exact h2 us hus
      · by_cases hi2 : i < sh.length + sg.nw.length
        · obtain ⟨q, rfl⟩ : ∃ q, i = sh.length + q := ⟨i - sh.length, by omega⟩
          have hq : q < sg.nw.length := by omega
          have hns : F.ns[q]? = some F.ns[q] := List.getElem?_eq_getElem (by omega)
          have hl := lv2 q _ hns
          have ho := ob2 q hq
          have hm := m2 q _ hns
          generalize F.ns[q] = x at hns hl hm
          have g1 : (ioL sg.ws sh ++ F.ns)[ioN sg.ws + q]? = some x := by
            rw [List.getElem?_append_right (by omega), hiol, show ioN sg.ws + q - ioN sg.ws = q by omega]
            exact hns
          obtain ⟨k, xs, g2, g3, g4⟩ := hrow _ _ g1
          have e : st' (sh.length + q) = rowK bb k xs := by rw [ho]; simp [rowO, List.getD_eq_getElem?_getD, g2, g3]
          cases x with
          | none =>
            obtain ⟨g4, g5⟩ : xs = [] ∧ Nat.blt (kdK k) 128 = true := g4
            subst g4
            rcases rowK_cases bb k [] with g6 | ⟨k', g6, g7⟩
            · exact Or.inr (Or.inl (e.trans g6))
            · refine Or.inr (Or.inr (Or.inl ⟨?_, hm⟩))
              rw [e, g6, g7]
              have g8 : Nat.beq (kdK k) 128 = false := by
                cases h : Nat.beq (kdK k) 128 with
                | false => rfl
                | true => rw [Nat.blt_eq, Nat.eq_of_beq_eq_true h] at g5; omega
              unfold mkRow
              rw [g8]
              cases Nat.blt (kdK k) 64
              · exact ⟨_, Or.inr rfl⟩
              · exact ⟨_, Or.inl rfl⟩
          | some id =>
            rcases g4 with g4 | ⟨g4, _⟩
            · exact Or.inr (Or.inl (e.trans g4))
            · rcases rowK_cases bb k xs with g5 | ⟨k', g5, _⟩
              · exact Or.inr (Or.inl (e.trans g5))
              · exact Or.inr (Or.inr (Or.inr ⟨id, by rw [hl]; rfl, hm, Or.inl ⟨mkRow_is (e.trans g5), by rw [e]; exact g4⟩⟩))
        · exact Or.inl ⟨ob3 i (by omega), m3 i (by omega)⟩)
    (fun i i' id h1 h2 _ _ => by
      have g : ∀ i : Nat, (live[i]?).join = some id → live[i]? = some (some id) := fun i h => by
        cases hl : live[i]? with
        | none => rw [hl] at h; cases h
        | some x => rw [hl] at h; simp only [Option.join_some] at h; rw [h]
      exact nodupO_get hc5 i i' id (g i h1) (g i' h2))
    (fun i id hd b h1 h2 h3 hi0 hb => by
      have hl : live[i]? = some (some id) := by
        cases hl : live[i]? with
        | none => rw [hl] at h1; cases h1
        | some x => rw [hl] at h1; simp only [Option.join_some] at h1; rw [h1]
      have hal : (st id).alive = true := by
        by_cases hi : i < sh.length
        · have hg : sh[i]? = some sh[i] := List.getElem?_eq_getElem hi
          have hw : sg.ws[i]? = some sg.ws[i] := List.getElem?_eq_getElem (by omega)
          have hl' := lv1 i _ _ hw hg
          rw [hl] at hl'
          generalize sg.ws[i] = ow at hw hl'
          cases ow with
          | cons => cases hl'
          | io j =>
            simp only [owI, Option.some.injEq] at hl'
            subst hl'
            obtain ⟨_, g1⟩ := ioL_get hc3 i j _ hw hg
            have g1 : (ioL sg.ws sh ++ F.ns)[j]? = some (some sh[i]) := by
              rw [List.getElem?_append_left (by have := (List.getElem?_eq_some_iff.mp g1).1; simpa using this)]
              simpa using g1
            obtain ⟨k, xs, g2, g3, g4⟩ := hrow j _ g1
            have e : st' i = rowK bb k xs := by rw [ob1 i _ hw]; simp [OW.toO, rowO, List.getD_eq_getElem?_getD, g2, g3]
            exact (rowIs_alive g4 e h2).2
          | box l =>
            simp only [owI, Option.some.injEq] at hl'
            subst hl'
            obtain ⟨cs, hcs⟩ := mtB_box hB hw hg
            rw [hcs]; rfl
        · have hlt := (List.getElem?_eq_some_iff.mp hl).1
          rw [← hlive, List.length_append, la, hwl] at hlt
          obtain ⟨q, rfl⟩ : ∃ q, i = sh.length + q := ⟨i - sh.length, by omega⟩
          have hns : F.ns[q]? = some F.ns[q] := List.getElem?_eq_getElem (by omega)
          have hl' := lv2 q _ hns
          rw [hl] at hl'
          have hl' := (Option.some.inj hl').symm
          rw [hl'] at hns
          have g1 : (ioL sg.ws sh ++ F.ns)[ioN sg.ws + q]? = some (some id) := by
            rw [List.getElem?_append_right (by omega), hiol, show ioN sg.ws + q - ioN sg.ws = q by omega]
            exact hns
          obtain ⟨k, xs, g2, g3, g4⟩ := hrow _ _ g1
          have e : st' (sh.length + q) = rowK bb k xs := by rw [ob2 q (by omega)]; simp [rowO, List.getD_eq_getElem?_getD, g2, g3]
          exact (rowIs_alive g4 e h2).2
      exact (hs.blk id hd b hal h3 hi0).2 hb)
  refine ⟨F.as, rs, m', ⟨hc1, fun i a h => ?_, hrl, fun j r k h1 h2 => ?_⟩, m1, by rw [hst']; exact hsto, by rw [hst']; exact hmz, ?_⟩
  · simp only [hD]
    rw [List.getElem?_append_left (List.getElem?_eq_some_iff.mp h).1]
    exact h
  · simp only [hR]
    rw [List.getElem?_append_right (by omega), show sg.nd + j - F.as.length = j by omega, slL_get h2 h1]
    simp
  · rw [hst']
    have hsub : ∀ b, Ow O0 m' st' b → Ow O0 m st b := fun b hb => hb.imp id (hmz b)
    have hmi : ∀ b, Mz m' st' b → ∃ (i id : Nat) (hd : Hd), (live[i]?).join = some id ∧ (st id).alive = true ∧ m id = some hd ∧ b ∈ hd.blocks := by
      rintro b ⟨i, hd, ha, hmm, hbi⟩
      by_cases hi : i < sh.length
      · have hg : sh[i]? = some sh[i] := List.getElem?_eq_getElem hi
        have hw : sg.ws[i]? = some sg.ws[i] := List.getElem?_eq_getElem (by omega)
        have hl := lv1 i _ _ hw hg
        have ho := ob1 i _ hw
        have hm := m1 i _ hg
        rw [hm] at hmm
        generalize sg.ws[i] = ow at hw hl ho
        cases ow with
        | cons => rw [ho] at ha; cases ha
        | io j =>
          obtain ⟨_, g1⟩ := ioL_get hc3 i j _ hw hg
          have g1 : (ioL sg.ws sh ++ F.ns)[j]? = some (some sh[i]) := by
            rw [List.getElem?_append_left (by have := (List.getElem?_eq_some_iff.mp g1).1; simpa using this)]
            simpa using g1
          obtain ⟨k, xs, g2, g3, g4⟩ := hrow j _ g1
          have e : st' i = rowK bb k xs := by rw [ho]; simp [OW.toO, rowO, List.getD_eq_getElem?_getD, g2, g3]
          exact ⟨i, sh[i], hd, by rw [hl]; rfl, (rowIs_alive g4 e ha).2, hmm, hbi⟩
        | box l =>
          obtain ⟨cs, hcs⟩ := mtB_box hB hw hg
          exact ⟨i, sh[i], hd, by rw [hl]; rfl, by rw [hcs]; rfl, hmm, hbi⟩
      · by_cases hi2 : i < sh.length + sg.nw.length
        · obtain ⟨q, rfl⟩ : ∃ q, i = sh.length + q := ⟨i - sh.length, by omega⟩
          have hns : F.ns[q]? = some F.ns[q] := List.getElem?_eq_getElem (by omega)
          have hl := lv2 q _ hns
          have hm := m2 q _ hns
          rw [hm] at hmm
          generalize F.ns[q] = x at hns hl hmm
          cases x with
          | none => cases hmm; simp [Hd.blocks] at hbi
          | some id =>
            have g1 : (ioL sg.ws sh ++ F.ns)[ioN sg.ws + q]? = some (some id) := by
              rw [List.getElem?_append_right (by omega), hiol, show ioN sg.ws + q - ioN sg.ws = q by omega]
              exact hns
            obtain ⟨k, xs, g2, g3, g4⟩ := hrow _ _ g1
            have e : st' (sh.length + q) = rowK bb k xs := by rw [ob2 q (by omega)]; simp [rowO, List.getD_eq_getElem?_getD, g2, g3]
            exact ⟨sh.length + q, id, hd, by rw [hl]; rfl, (rowIs_alive g4 e ha).2, hmm, hbi⟩
        · rw [m3 i (by omega)] at hmm; cases hmm
    have := (mt_ok (w := w) (m := m) (O := Ow O0 m st) (O' := Ow O0 m' st') (F := F) sg.r (mkRes vs) hr).2 (key hsub hmi) (ExtM.refl _) u hu
    rw [hm'] at this
    exact this

/-- What a function's code is to end in. -/
def Fin (C : Cfg) (X : Ctx) (f : FuncId) (w0 : World) (Z0 O0 : Nat → Prop) (shv : Option (List Hd)) (fn : Func) (r : Out) : Exit → Act → World → Prop :=
  fun e a w => ∃ ex s m, e = Ex.to ex ∧ s.n = fn.ntmps ∧ endF C f fn ex s = some r ∧ Sim X w0 Z0 O0 shv m s a w

theorem endF_M {f : FuncId} {fn : Func} {ex : Ex} {out : Out} (h : endF C f fn ex s = some out) : endM C f fn s = some out ∧ (ex = .normal ∨ ex = .ret) := by
  cases ex with
  | normal => exact ⟨h, Or.inl rfl⟩
  | ret => exact ⟨h, Or.inr rfl⟩
  | exit id => cases h

/-- The values that a call hands back, as a whole. -/
theorem results_ok (hD : TyOk C.P C.D) (hs : Sim X w0 Z0 O0 shv m s a w) {fn : Func} {vs : List V} (hvs : resL C s fn.results.toList fn.resultTypes.toList = some vs) :
    ∃ v, (results fn a.tmps).run C.P w = .ok v w ∧ relV w (Ow O0 m s.st) m (mkRes vs) v := by
  obtain ⟨us, h1, h2⟩ := resL_ok hD hs _ _ hvs
  have hm : (fn.results.mapM (resGo a.tmps)).run C.P w = .ok us.toArray w := by
    rw [Array.mapM_eq_mapM_toList]
    simp only [Sem.run_map, h1, Result.andThen_ok]
  have hl := relVL_length h2
  refine ⟨if h : us.toArray.size = 1 then us.toArray[0] else .tuple us.toArray, ?_, ?_⟩
  · have e : results fn a.tmps = (do let vs ← fn.results.mapM (resGo a.tmps); pure (if h : vs.size = 1 then vs[0] else .tuple vs)) := by
      unfold results
      congr 1
    rw [e]
    simp only [Sem.run_bind, hm]
    simp only [Result.andThen_ok, Sem.run_pure]
  · match vs, us, h2, hl with
    | [r], [v], h2, _ =>
      simp only [relVL, List.cons.injEq] at h2
      obtain ⟨u, t, ⟨rfl, rfl⟩, h3, _⟩ := h2
      simpa [mkRes] using h3
    | [], us, h2, hl =>
      have hne : ¬ us.toArray.size = 1 := by simp at hl ⊢; simp [hl]
      rw [dif_neg hne]
      simp only [mkRes, relV]
      exact ⟨us, rfl, h2⟩
    | r1 :: r2 :: rs, us, h2, hl =>
      have hne : ¬ us.toArray.size = 1 := by simp at hl ⊢; omega
      rw [dif_neg hne]
      simp only [mkRes, relV]
      exact ⟨us, rfl, h2⟩

theorem relVL_start {O : Nat → Prop} {args : List V} {vs : List Value} {n : Nat} (hrel : relVL w O m args vs) (hle : args.length ≤ n) {i : Nat} {v : Value} (hv : (vs.toArray ++ Array.replicate (n - vs.toArray.size) undef)[i]? = some v) : relV w O m (args.getD i .top) v := by
  cases hc : args[i]? with
  | none => rw [List.getD_eq_getElem?_getD, hc]; simp [relV]
  | some x =>
    obtain ⟨u, k1, k2⟩ := relVL_get hrel hc
    have hlt : i < vs.length := (List.getElem?_eq_some_iff.mp k1).1
    have : v = u := by
      rw [Array.getElem?_append_left (by simpa using hlt)] at hv
      rw [List.getElem?_toArray, k1] at hv
      cases hv; rfl
    subst this
    rw [List.getD_eq_getElem?_getD, hc]
    exact k2

/-- A row under another number, cut to a head of it. -/
theorem rehome {X : Ctx} {w : World} {O0 : Nat → Prop} {m : Asg} {st : Stor} (hs : Sto X w O0 m st) {id nid k n : Nat} {xs : List (List A)} (hid : st id = .row k xs) (hf : st nid = .dead) {hd hd' : Hd} (hm : m id = some hd)
    (hc : (hd' = .none ∧ xs.take n = []) ∨ (∃ b c l, hd = .blk b c l ∧ hd' = .blk b c (xs.take n).length)) :
    Chg w m st w (upd m nid (some hd')) (upd (upd st id .gone) nid (.row k (xs.take n))) ∧ Sto X w O0 (upd m nid (some hd')) (upd (upd st id .gone) nid (.row k (xs.take n))) := by
  have hne : id ≠ nid := fun e => by subst e; rw [hid] at hf; cases hf
  refine move_obj hs hne (by rw [hid]; rfl) hf hm ?_ (fun h => by cases h) fun hmono => ⟨hd', rfl, ?_⟩
  · intro b e
    rcases hc with ⟨rfl, _⟩ | ⟨b', c', l', rfl, rfl⟩
    · simp [Hd.blocks] at e
    · rw [blk_mem e]; exact mem_blk
  · rcases hc with ⟨rfl, h0⟩ | ⟨b, c, l, rfl, rfl⟩
    · exact h0
    · have ho := hs.obj id
      rw [hid] at ho
      obtain ⟨hd0, q1, q2⟩ := ho
      rw [hm] at q1
      cases q1
      obtain ⟨q0, q1, q2, q3, cc, T, q4, q5, q6, q7⟩ := q2
      have hle : (xs.take n).length ≤ xs.length := by simp; omega
      have htk : (cc.toList.take (xs.length * k)).take ((xs.take n).length * k) = cc.toList.take ((xs.take n).length * k) := by
        rw [List.take_take, Nat.min_eq_left (Nat.mul_le_mul_right k hle)]
      have hfl : (xs.take n).flatten = xs.flatten.take ((xs.take n).length * k) := by
        rw [← flatten_take xs _ q3]
        congr 1
        simp
      refine ⟨rfl, by omega, q2, fun y hy => q3 y (List.mem_of_mem_take hy), cc, T, q4, q5, ?_, ?_⟩
      · rw [← htk]; exact q6.take _
      · rw [← htk, hfl]
        exact relL_take _ (relL_mono hmono _ _ q7)

theorem shrink1_ok (t : Nat) (hs : Sim X w0 Z0 O0 shv m s a w) : (shrink1 t s).sh = s.sh ∧ (shrink1 t s).n = s.n ∧ ∃ m', Sim X w0 Z0 O0 shv m' (shrink1 t s) a w := by
  unfold shrink1
  split
  rotate_left
  · exact ⟨rfl, rfl, m, hs⟩
  rename_i id k off n hfr
  split
  rotate_left
  · exact ⟨rfl, rfl, m, hs⟩
  rename_i k' xs hst
  cases hb : Nat.beq k' k && (Nat.beq off 0 && isDead (s.st s.nx)) with
  | false => exact ⟨rfl, rfl, m, hs⟩
  | true =>
    simp only [Bool.and_eq_true] at hb
    obtain ⟨hk, h0, hdd⟩ := hb
    have hk := Nat.eq_of_beq_eq_true hk
    have h0 := Nat.eq_of_beq_eq_true h0
    subst hk
    subst h0
    have hf : s.st s.nx = .dead := by
      cases hh : s.st s.nx <;> rw [hh] at hdd <;> first | rfl | cases hdd
    have ho := hs.sto.obj id
    rw [hst] at ho
    obtain ⟨hd, q1, q2⟩ := ho
    obtain ⟨hd', hc, hv⟩ : ∃ hd', ((hd' = .none ∧ xs.take n = []) ∨ (∃ b c l, hd = .blk b c l ∧ hd' = .blk b c (xs.take n).length)) ∧ ∀ v, winV k' 0 n hd v → hdr hd' v := by
      cases hd with
      | tre => exact q2.elim
      | mp => exact q2.elim
      | none =>
        simp only [rowOk] at q2
        subst q2
        exact ⟨.none, Or.inl ⟨rfl, by simp⟩, fun v hv => hv.2.2⟩
      | blk b c l =>
        obtain ⟨rfl, h1, _⟩ := q2
        by_cases hc0 : c = 0
        · have : xs = [] := List.eq_nil_of_length_eq_zero (by omega)
          subst this
          refine ⟨.none, Or.inl ⟨rfl, by simp⟩, fun v hv => ?_⟩
          simp only [winV] at hv
          obtain ⟨h2, q, h3, _⟩ := hv
          have hn : n = 0 := by simp at h2; omega
          subst hn
          rw [hc0] at h3
          exact ⟨_, h3⟩
        · refine ⟨_, Or.inr ⟨b, c, _, rfl, rfl⟩, fun v hv => ?_⟩
          simp only [winV] at hv
          obtain ⟨h2, q, h3, h4⟩ := hv
          have := h4 (by omega)
          subst this
          simp only [hdr]
          rw [h3]
          have : (xs.take n).length = n := by simp; omega
          rw [this]
          simp
    obtain ⟨k1, k2⟩ := rehome hs.sto hst hf q1 hc
    have hs2 := hs.chg k1 k2
    refine ⟨rfl, rfl, _, hs2.defers, hs2.tsz, hs2.os, hs2.tape, hs2.output, hs2.size, hs2.keep, hs2.new, hs2.sto, fun i v hi => ?_, hs2.sh, hs2.shf⟩
    show relV _ _ _ (upd s.fr t (.row s.nx) i) v
    by_cases e : i = t
    · subst e
      rw [upd_self]
      have := hs.fr i v hi
      rw [hfr] at this
      simp only [relV] at this ⊢
      obtain ⟨h, e1, e2⟩ := this
      rw [q1] at e1
      cases e1
      exact ⟨hd', upd_self _ _ _, hv v e2⟩
    · rw [upd_ne _ _ e]
      exact hs2.fr i v hi

theorem frzO_alive (o : Abs.Obj) : (frzO o).alive = o.alive := by cases o <;> rfl
/-- Trees in the making are done. -/
theorem frzS_ok (hs : Sim X w0 Z0 O0 shv m s a w) : Sim X w0 Z0 O0 shv (fun i => (m i).map Hd.freeze) (frzS s) a w := by
  have hmle : MLe m (fun i => (m i).map Hd.freeze) := fun i h e => ⟨h.freeze, by simp [e], h.le_freeze⟩
  have hmz : ∀ b, Mz (fun i => (m i).map Hd.freeze) (fun i => frzO (s.st i)) b → Mz m s.st b := by
    rintro b ⟨i, hd, h1, h2, h3⟩
    rw [frzO_alive] at h1
    obtain ⟨h, e, rfl⟩ := Option.map_eq_some_iff.1 h2
    exact ⟨i, h, h1, e, by rwa [Hd.freeze_blocks] at h3⟩
  have hchg : Chg w m s.st w (fun i => (m i).map Hd.freeze) (fun i => frzO (s.st i)) :=
    ⟨rfl, rfl, Quiet.refl _, Nat.le_refl _, fun _ _ _ => rfl, hmle, fun b hb => Or.inl (hmz b hb)⟩
  refine hs.chg hchg (hs.sto.chg hchg ?_ ?_ ?_ ?_)
  · intro i h
    have : s.st i = .dead := by
      cases hc : s.st i <;> rw [hc] at h <;> first | rfl | cases h
    rw [hs.sto.fresh i this]
    rfl
  · intro i hd b h1 h2 h3
    rw [frzO_alive] at h1
    obtain ⟨h, e, rfl⟩ := Option.map_eq_some_iff.1 h2
    rw [Hd.freeze_blocks] at h3
    exact Or.inr (hs.sto.blk i h b h1 e h3)
  · intro i i' hd hd' b h1 h2 h3 h4 h5 h6
    rw [frzO_alive] at h1 h2
    obtain ⟨h, e, rfl⟩ := Option.map_eq_some_iff.1 h3
    obtain ⟨h', e', rfl⟩ := Option.map_eq_some_iff.1 h4
    rw [Hd.freeze_blocks] at h5 h6
    exact hs.sto.inj i i' h h' b h1 h2 e e' h5 h6
  · intro i
    have ho := hs.sto.obj i
    cases hc : s.st i with
    | gone => exact Or.inr (by simp only [frzO]; trivial)
    | dead => exact Or.inr (by simp only [frzO]; trivial)
    | tre f k xs =>
      rw [hc] at ho
      obtain ⟨hd, e1, e2, e3⟩ := ho
      refine Or.inr ⟨hd.freeze, by rw [e1]; rfl, treOk_freeze e2, by rw [Hd.freeze_blocks]; exact e3⟩
    | box cs =>
      refine Or.inl ⟨rfl, ?_, fun _ _ _ _ _ => rfl⟩
      rw [hc] at ho
      obtain ⟨hd, e1, e2⟩ := ho
      rw [e1, Option.map_some, Hd.freeze_eq (boxOk_fixed e2)]
    | row k xs =>
      refine Or.inl ⟨rfl, ?_, fun _ _ _ _ _ => rfl⟩
      rw [hc] at ho
      obtain ⟨hd, e1, e2⟩ := ho
      rw [e1, Option.map_some, Hd.freeze_eq (rowOk_fixed e2)]
    | map xs =>
      refine Or.inl ⟨rfl, ?_, fun _ _ _ _ _ => rfl⟩
      rw [hc] at ho
      obtain ⟨hd, e1, e2⟩ := ho
      rw [e1, Option.map_some, Hd.freeze_eq (mapOk_fixed e2)]
    | fro k xs =>
      refine Or.inl ⟨rfl, ?_, fun _ _ _ _ _ => rfl⟩
      rw [hc] at ho
      obtain ⟨hd, e1, e2, _⟩ := ho
      rw [e1, Option.map_some, Hd.freeze_eq e2]

theorem shrinkS_ok : ∀ (ts : List Nat) {s : St} {m : Asg}, Sim X w0 Z0 O0 shv m s a w → (shrinkS ts s).sh = s.sh ∧ (shrinkS ts s).n = s.n ∧ ∃ m', Sim X w0 Z0 O0 shv m' (shrinkS ts s) a w
  | [], s, m, hs => ⟨rfl, rfl, _, frzS_ok hs⟩
  | t :: ts, s, m, hs => by
    obtain ⟨h1, h2, m1, h3⟩ := shrink1_ok t hs
    obtain ⟨g1, g2, g3⟩ := shrinkS_ok ts h3
    exact ⟨g1.trans h1, g2.trans h2, g3⟩

theorem Mn_ok (hC : Sane C) (hext : ∀ f x args out, C.ext f = some x → x args = some out → PureOk X C.P f args out) (hextv : ∀ f x args objs sgs sg qs outs out, C.extv f = some x → C.sig f = some sgs → altOf objs.length sgs = some sg → x.ask args objs = some qs → AskOk X C.P qs outs → x.ans args objs outs = some out → SOk X C.P f args objs sg out) : ∀ n,
    PureM X C (Mn C n) ∧ StM X C (Mn C n) ∧ ∀ (f : FuncId) (fn : Func) (c : Code) (p : List Nat) (b : Code) (fr : List V) (objs : List Abs.Obj) (sh : Option (List Nat)) (r : Out) (w0 : World) (Z0 O0 : Nat → Prop) (shv : Option (List Hd)) (m : Asg) (a : Act) (w : World),
      C.P.funcs[f]? = some fn → fn.body = some c → subAt c p = some (.loop b) → Mn C n (.head f p fr objs sh) = some r → Sim X w0 Z0 O0 shv m (St.of fn.ntmps fr objs sh) a w →
      LoopAgain C.P b (postAt C.P c p (Fin C X f w0 Z0 O0 shv fn r)) a w
  | 0 => ⟨fun f args out _ h => (by cases h), fun f args objs sgs sg out _ _ h => (by cases h), fun f fn c p b fr objs sh r w0 Z0 O0 shv m a w _ _ _ h _ => (by cases h)⟩
  | n + 1 => by
    obtain ⟨ih1, ih3, ih2⟩ := Mn_ok hC hext hextv n
    have loops : ∀ (f : FuncId) (fn : Func) (c : Code) (r : Out) (w0 : World) (Z0 O0 : Nat → Prop) (shv : Option (List Hd)), C.P.funcs[f]? = some fn → fn.body = some c → LoopsOk C (Mn C n) f X w0 Z0 O0 shv fn.ntmps r c [] (Fin C X f w0 Z0 O0 shv fn r) := by
      intro f fn c r w0 Z0 O0 shv hf hb q b s m a w hq hn hag hs
      rw [List.nil_append] at hag
      obtain ⟨fr, objs, sh, m', h1, h2⟩ := again_ok hag hs
      rw [hn] at h2
      exact ih2 f fn c q b fr objs sh r w0 Z0 O0 shv m' a w hf hb hq h1 h2
    have kok : ∀ (f : FuncId) (fn : Func) (r : Out) (w0 : World) (Z0 O0 : Nat → Prop) (shv : Option (List Hd)), KOk X w0 Z0 O0 shv fn.ntmps r (endF C f fn) (Fin C X f w0 Z0 O0 shv fn r) :=
      fun f fn r w0 Z0 O0 shv e s m a w hn hk hs => ⟨e, s, m, rfl, hn, hk, hs⟩
    refine ⟨?_, ?_, ?_⟩
    · intro f args out hsig h
      simp only [Mn, step] at h
      split at h
      · rename_i x hx
        exact hext f x args out hx h
      · rw [hsig] at h
        dsimp only at h
        split at h
        · rename_i fn hf
          split at h
          · rename_i c hb
            simp only [brn] at h
            split at h
            · rename_i hle
              have hle : args.length ≤ fn.ntmps := by simpa using hle
              refine ⟨enters_mk hf (hC.names _ _ hf) hb, ?_⟩
              intro w O vs hJ hN hO hrel
              refine calls_of_wp hf hb ?_
              have hl := relL_length hrel
              have hs : Sim X w (fun _ => False) O none (fun _ => none) (startP fn args) { tmps := vs.toArray ++ Array.replicate (fn.ntmps - vs.toArray.size) undef, defers := [] } w := by
                refine ⟨rfl, by simp [startP, St.of]; omega, rfl, rfl, Quiet.refl _, Nat.le_refl _, fun _ _ _ => rfl, fun b ⟨_, _, _, h2, _⟩ => (by cases h2), ⟨hJ, hN, fun _ _ => rfl, hO, fun id hd b _ h _ => (by cases h), fun id id' hd hd' b _ _ h _ _ _ => (by cases h), fun id => by simp [startP, St.of, ObjOk]⟩, ?_, rfl, fun _ h => (by cases h)⟩
                intro i v hv
                have hOw : Ow O (fun _ => none) (startP fn args).st = O := by
                  funext b
                  simp [Ow, Mz]
                rw [hOw]
                exact relVL_start (relL_relVL (m := fun _ => none) hrel) (by simpa using hle) hv
              refine wp_mono (evC_ok hC.ty ih1 ih3 hC.mixed c [] (startP fn args) (endF C f fn) (Fin C X f w (fun _ => False) O none fn out) _ _ _ (hC.lex _ _ _ hf hb) rfl h hs (kok _ _ _ _ _ _ _) (loops _ _ _ _ _ _ _ _ hf hb)) ?_
              rintro e a' w' ⟨ex, s, m, rfl, hn, hk, hs'⟩
              have hbel : Below w.heap.size w w' := ⟨hs'.os, hs'.tape, hs'.output, hs'.size, fun b hb => hs'.keep b hb (fun h => h)⟩
              obtain ⟨hk, hex⟩ := endF_M hk
              have hsh : s.sh = none := by
                have := hs'.sh
                cases hh : s.sh with
                | none => rfl
                | some l => rw [hh] at this; cases this
              unfold endM at hk
              rw [hsh] at hk
              obtain ⟨v, h1, h2, _⟩ := finishP_ok hC.ty hs' hk
              rcases hex with rfl | rfl
              · exact ⟨hs'.defers, v, h1, v, rfl, hbel, h2⟩
              · exact ⟨hs'.defers, v, h1, v, rfl, hbel, h2⟩
            · cases h
          · cases h
        · cases h
    · intro f args objs sgs sg out hsig halt h
      simp only [Mn, step] at h
      split at h
      · rename_i x hx
        obtain ⟨qs, hq1, hq2⟩ := Option.bind_eq_some_iff.1 h
        obtain ⟨outs, hq3, hq4⟩ := Option.bind_eq_some_iff.1 hq2
        exact hextv f x args objs sgs sg qs outs out hx hsig halt hq1 (askAll_ok ih1 hq3) hq4
      · rename_i hxn
        clear hxn
        split at h
        rotate_left
        · cases h
        rename_i fn hf
        split at h
        · rename_i c hb
          simp only [brn] at h
          split at h
          · rename_i hle
            have hle : args.length ≤ fn.ntmps := by simpa using hle
            refine ⟨enters_mk hf (hC.names _ _ hf) hb, ?_⟩
            intro w O m vs hsto hsome hrel
            refine calls_of_wp hf hb ?_
            have hl := relVL_length hrel
            obtain ⟨shm, hshm⟩ : ∃ shm : List Hd, (List.range objs.length).map m = shm.map some := by
              refine ⟨(List.range objs.length).map fun i => (m i).getD .none, ?_⟩
              rw [List.map_map]
              refine List.map_congr_left fun i hi => ?_
              obtain ⟨hd, hh, _⟩ := hsome i (by simpa using hi)
              simp [hh]
            have hshf : ∀ hd ∈ shm, hd.fixed = true := fun hd hm => by
              obtain ⟨i, hi⟩ := List.mem_iff_getElem?.mp hm
              have h1 := congrArg (fun x => x[i]?) hshm
              simp only [List.getElem?_map, hi, Option.map_some] at h1
              obtain ⟨j, hj, e⟩ := Option.map_eq_some_iff.1 h1
              have hlt : i < objs.length := by have := (List.getElem?_eq_some_iff.mp hj).1; simpa using this
              rw [List.getElem?_range hlt] at hj
              cases hj
              obtain ⟨hd', hh, hf⟩ := hsome i hlt
              rw [hh] at e
              cases e
              exact hf
            have hs : Sim X w (Mz m (stOf objs)) O (some shm) m (startS fn args objs) { tmps := vs.toArray ++ Array.replicate (fn.ntmps - vs.toArray.size) undef, defers := [] } w := by
              refine ⟨rfl, by simp [startS, St.of]; omega, rfl, rfl, Quiet.refl _, Nat.le_refl _, fun _ _ _ => rfl, fun b hb => Or.inl hb, hsto, ?_, ?_, fun s h => by cases h; exact hshf⟩
              · intro i v hv
                exact relVL_start hrel hle hv
              · show (some (List.range objs.length)).map _ = _
                simp only [Option.map_some, hshm]
            refine wp_mono (evC_ok hC.ty ih1 ih3 hC.mixed c [] (startS fn args objs) (endF C f fn) (Fin C X f w (Mz m (stOf objs)) O (some shm) fn out) _ _ _ (hC.lex _ _ _ hf hb) rfl h hs (kok _ _ _ _ _ _ _) (loops _ _ _ _ _ _ _ _ hf hb)) ?_
            rintro e a' w' ⟨ex, s, m1, rfl, hn, hk, hs'⟩
            obtain ⟨hk, hex⟩ := endF_M hk
            obtain ⟨hsh0, hn0, m2, hs2⟩ := shrinkS_ok (resTmps fn.results.toList) hs'
            obtain ⟨l, hsl, hlm⟩ : ∃ l, s.sh = some l ∧ l.map m2 = (List.range objs.length).map m := by
              have := hs2.sh
              rw [hsh0] at this
              cases hh : s.sh with
              | none => rw [hh] at this; cases this
              | some l =>
                rw [hh] at this
                simp only [Option.map_some, Option.some.injEq] at this
                exact ⟨l, rfl, this.trans hshm.symm⟩
            have hll : l.length = objs.length := by simpa using congrArg List.length hlm
            have hlg : ∀ i id, l[i]? = some id → m2 id = m i := fun i id hi => by
              have h1 := congrArg (fun x => x[i]?) hlm
              simp only [List.getElem?_map, hi, Option.map_some] at h1
              have hlt := (List.getElem?_eq_some_iff.mp hi).1
              rw [List.getElem?_range (by omega)] at h1
              simpa using h1
            unfold endM at hk
            rw [hsl] at hk
            dsimp only at hk
            rw [hsig] at hk
            dsimp only at hk
            rw [hll, halt] at hk
            dsimp only at hk
            unfold endS at hk
            split at hk
            rotate_left
            · cases hk
            rename_i rvs hrvs
            obtain ⟨v, h1, h2⟩ := results_ok hC.ty hs2 hrvs
            obtain ⟨as, rs, m', g1, g2, g3, g4, g5⟩ := finS_ok hs2.sto (fun id hid => by
              obtain ⟨i, hi⟩ := List.mem_iff_getElem?.mp hid
              rw [hlg i id hi]
              obtain ⟨h, hh, _⟩ := hsome i (by have := (List.getElem?_eq_some_iff.mp hi).1; omega)
              exact ⟨h, hh⟩) hk h2
            have key : ∃ v', Ending.returned v = Ending.returned v' ∧ ∃ as rs m', HolesOk sg out as rs ∧ (w'.os = w.os ∧ w'.tape = w.tape ∧ Quiet w w' ∧ w.heap.size ≤ w'.heap.size) ∧
                (∀ b, b < w.heap.size → ¬ Mz m (stOf objs) b → w'.heap[b]? = w.heap[b]?) ∧ (∀ b, Mz m' (stOf (sg.objs as rs)) b → Mz m (stOf objs) b ∨ w.heap.size ≤ b) ∧ (∀ i, i < objs.length → m' i = m i) ∧
                Sto X w' O m' (stOf (sg.objs as rs)) ∧ relV w' (Ow O m' (stOf (sg.objs as rs))) m' (sg.r.toV as) v' := by
              refine ⟨v, rfl, as, rs, m', g1, ⟨hs2.os, hs2.tape, hs2.output, hs2.size⟩, hs2.keep, fun b hb => hs2.new b (g4 b hb), fun i hi => ?_, g3, g5⟩
              have hi' : l[i]? = some l[i] := List.getElem?_eq_getElem (by omega)
              rw [g2 i _ hi', hlg i _ hi']
            rcases hex with rfl | rfl
            · exact ⟨hs'.defers, v, h1, key⟩
            · exact ⟨hs'.defers, v, h1, key⟩
          · cases h
        · cases h
    · intro f fn c p b fr objs sh r w0 Z0 O0 shv m a w hf hb hq h hs
      simp only [Mn, step] at h
      rw [hf] at h
      dsimp only at h
      rw [hb] at h
      dsimp only at h
      exact evAt_ok hC.ty ih1 ih3 hC.mixed c p [] _ _ _ m a w b (hC.lex _ _ _ hf hb) rfl h hq hs (kok _ _ _ _ _ _ _) (loops _ _ _ _ _ _ _ _ hf hb)

/-- What the least fixpoint says of a call, the call does. -/
theorem MM_ok {C : Cfg} {X : Ctx} (hC : Sane C) (hext : ∀ f x args out, C.ext f = some x → x args = some out → PureOk X C.P f args out) (hextv : ∀ f x args objs sgs sg qs outs out, C.extv f = some x → C.sig f = some sgs → altOf objs.length sgs = some sg → x.ask args objs = some qs → AskOk X C.P qs outs → x.ans args objs outs = some out → SOk X C.P f args objs sg out) : PureM X C (MM C) := by
  intro f args out hsig h
  obtain ⟨n, hn⟩ := MM_some h
  exact (Mn_ok hC hext hextv n).1 f args out hsig hn
end
end
end Go.Proofs.YtnbjmmldjggkfaaGreat.Abs
