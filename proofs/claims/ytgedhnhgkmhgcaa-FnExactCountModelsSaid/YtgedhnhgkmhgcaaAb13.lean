/- REGIONS, ENDS AND LOOPS' HEADS, RECKONED. -/
import Derived.Test.YtgedhnhgkmhgcaaAb12
namespace Go.Proofs.Ytgedhnhgkmhgcaa.Abs
open Go Go.RowKit

section
variable (P : Program) (D : Nat → Option TI)

def guardV (ops : Array Oper) (g : Option (Nat × Bool)) (fr : List A) (yes no : List A → Prop) : Prop :=
  match g with
  | none => yes fr
  | some (j, want) => (match (ops[j]?).bind (·.dst) with
    | some d => (match fr[d]? with
      | some (.val (.bool b)) => (b = want → yes (fr.set d (.val (.bool want)))) ∧ (b = (!want) → no (fr.set d (.val (.bool (!want)))))
      | some (.val (.tuple _)) => no fr
      | _ => False)
    | none => False)

/-- a region that draws its order -/
def dlex (ops : Array Oper) (bx : List (List A)) (rw : List (Nat × List (List A))) (K : List A → Prop) : List Oper → List A → Prop
  | [], fr => K fr
  | o :: rest, fr => guardV ops o.guard fr (fun fr => qval P D bx rw o.op (St.ev fr) fun r => dlex ops bx rw K rest (putA fr o.dst r)) (fun fr => dlex ops bx rw K rest (putA fr o.dst (.val undef)))

def vAppend (s : St) (dst : Option Tmp) (xs : List A) (ts : List Nat) (K : St → Prop) : Prop :=
  match xs, ts with
  | [x, y], [t, t'] => t = t' ∧ (match D t with
    | some ⟨.slice e, _, _, _⟩ => (match D e, srcA s.rw y with
      | some i, some ys => (match x with
        | .emp => (srcK s.rw i.size y ∧ ys.flatten.all okCell = true ∧ ys.length * i.bytes ≤ 140737488355328 ∧ ys.length ≤ 9223372036854775807) ∧ K ⟨putA s.fr dst (.row s.rw.length ys.length), s.bx, s.rw ++ [(i.size, ys)], s.nb, s.nx⟩
        | .row id n => (match s.rw[id]? with
          | some q => (q.1 = i.size ∧ q.2.length = n ∧ srcK s.rw i.size y ∧ ys.flatten.all okCell = true ∧ (q.2.length + ys.length) * i.bytes ≤ 140737488355328 ∧ q.2.length + ys.length ≤ 9223372036854775807) ∧
              K ⟨putA s.fr dst (.row id (n + ys.length)), s.bx, s.rw.set id (q.1, q.2 ++ ys), s.nb, s.nx⟩
          | none => False)
        | _ => False)
      | _, _ => False)
    | _ => False)
  | _, _ => False

def vStore (s : St) (dst : Option Tmp) (t : Nat) (a x : A) (K : St → Prop) : Prop :=
  match D t with
  | some i => (match a with
    | .ptr id off => (match s.bx[id]?, cellsOf? x with
      | some cs, some ds => (ds.all okCell = true ∧ ds.length = i.size ∧ off + ds.length ≤ cs.length) ∧ K ⟨putA s.fr dst (.val undef), s.bx.set id (overA cs off ds), s.rw, s.nb, s.nx⟩
      | _, _ => False)
    | .rptr id l k ii j => (match s.rw[id]?, cellsOf? (normA D t x) with
      | some q, some ds => (match q.2[ii]? with
        | some cs => (q.1 = k ∧ q.2.length = l ∧ ds.all okCell = true ∧ ds.length = i.size ∧ j + ds.length ≤ cs.length) ∧ K ⟨putA s.fr dst (.val undef), s.bx, s.rw.set id (q.1, q.2.set ii (overA cs j ds)), s.nb, s.nx⟩
        | none => False)
      | _, _ => False)
    | _ => False)
  | none => False

def vMake (s : St) (dst : Option Tmp) (t : Nat) (x y : A) (K : St → Prop) : Prop :=
  match D t with
  | some ⟨.slice e, _, _, _⟩ => (match D e, x, y with
    | some i, .val (.int _ l), .val (.int _ c) => (0 ≤ l ∧ l ≤ c ∧ (i.bytes : Int) * c ≤ 281474976710656 ∧ c ≤ 9223372036854775807) ∧
        K ⟨putA s.fr dst (.row s.rw.length l.toNat), s.bx, s.rw ++ [(i.size, List.replicate l.toNat (i.zero.cells.toList.map liftV))], s.nb, s.nx⟩
    | _, _, _ => False)
  | _ => False

/-- A call: a value comes back, or a new row of the caller's own. -/
def vCallS (s : St) (dst : Option Tmp) (f : A) (xs : List A) (ts : List Nat) (K : St → Prop) : Prop :=
  match f with
  | .fn g caps =>
    if noIdsL (normL D ts xs ++ caps) = true then
      (∃ r, Pure P g (normL D ts xs ++ caps) r ∧ K ⟨putA s.fr dst r, s.bx, s.rw, s.nb, s.nx⟩) ∨
      (∃ k ys, PureRow P g (normL D ts xs ++ caps) k ys ∧ noIdsLL ys = true ∧ K ⟨putA s.fr dst (.row s.rw.length ys.length), s.bx, s.rw ++ [(k, ys)], s.nb, s.nx⟩)
    else noIdsL ((normL D ts xs ++ caps).map (shutA s.bx s.rw)) = true ∧
      ((∃ r, Pure P g ((normL D ts xs ++ caps).map (shutA s.bx s.rw)) r ∧ flat r = true ∧ K ⟨putA s.fr dst r, s.bx, s.rw, s.nb, s.nx⟩) ∨
      (∃ k ys, PureRow P g ((normL D ts xs ++ caps).map (shutA s.bx s.rw)) k ys ∧ flatLL ys = true ∧ K ⟨putA s.fr dst (.row s.rw.length ys.length), s.bx, s.rw ++ [(k, ys)], s.nb, s.nx⟩))
  | _ => False

/-- an operation in a region that keeps its order -/
def sval (op : Op) (dst : Option Tmp) (s : St) (K : St → Prop) : Prop :=
  match op with
  | .box _ x => (match cellsOf? (St.ev s.fr x) with
    | some cs => K ⟨putA s.fr dst (.ptr s.bx.length 0), s.bx ++ [cs], s.rw, s.nb, s.nx⟩
    | none => False)
  | .alloc t => (match D t with
    | some i => K ⟨putA s.fr dst (.ptr s.bx.length 0), s.bx ++ [i.zero.cells.toList.map liftV], s.rw, s.nb, s.nx⟩
    | none => False)
  | .store t a x => vStore D s dst t (St.ev s.fr a) (St.ev s.fr x) K
  | .makeSlice t x y => vMake D s dst t (St.ev s.fr x) (St.ev s.fr y) K
  | .call ⟨.builtin .append, xs, ts⟩ => vAppend D s dst (xs.toList.map (St.ev s.fr)) ts.toList K
  | .call ⟨.value f, xs, ts⟩ => vCallS P D s dst (St.ev s.fr f) (xs.toList.map (St.ev s.fr)) ts.toList K
  | op => qval P D s.bx s.rw op (St.ev s.fr) fun r => K ⟨putA s.fr dst r, s.bx, s.rw, s.nb, s.nx⟩

def slex (ops : Array Oper) (K : St → Prop) : List Oper → St → Prop
  | [], s => K s
  | o :: rest, s => guardV ops o.guard s.fr (fun fr => sval P D o.op o.dst ⟨fr, s.bx, s.rw, s.nb, s.nx⟩ (slex ops K rest)) (fun fr => slex ops K rest ⟨putA fr o.dst (.val undef), s.bx, s.rw, s.nb, s.nx⟩)
end

section
variable {P : Program} {D : Nat → Option TI}

theorem guardV_cases {ops : Array Oper} {o : Oper} {fr : List A} {yes no : List A → Prop} (h : guardV ops o.guard fr yes no) : (WantsA ops o fr true ∧ yes fr) ∨ (WantsA ops o fr false ∧ no fr) := by
  unfold guardV at h
  unfold WantsA
  cases hg : o.guard with
  | none => simp only [hg] at h ⊢; exact Or.inl ⟨trivial, h⟩
  | some jw =>
    obtain ⟨j, want⟩ := jw
    simp only [hg] at h ⊢
    unfold slotA
    split at h
    · rename_i d hd
      split at h
      · rename_i b hb
        by_cases e : b = want
        · have h1 := h.1 e
          subst e
          rw [set_self hb] at h1
          exact Or.inl ⟨⟨.bool b, by simp [hd, hb], by simp [boolOf]⟩, h1⟩
        · have e' : b = !want := by cases b <;> cases want <;> simp_all
          have h1 := h.2 e'
          rw [← e', set_self hb] at h1
          refine Or.inr ⟨⟨.bool b, by simp [hd, hb], by simp [boolOf, e]⟩, h1⟩
      · rename_i vs hb
        exact Or.inr ⟨⟨.tuple vs, by simp [hd, hb], by simp [boolOf]⟩, h⟩
      · exact h.elim
    · exact h.elim

theorem aLex_of_dlex (hD : TyOk P D) {ops : Array Oper} {bx : List (List A)} {rw : List (Nat × List (List A))} {K : List A → Prop} : ∀ (l : List Oper) (fr : List A), dlex P D ops bx rw K l fr → aLex P ops bx rw K l fr
  | [], _, h => h
  | o :: rest, fr, h => by
    simp only [dlex] at h
    simp only [aLex]
    rcases guardV_cases h with ⟨h1, h2⟩ | ⟨h1, h2⟩
    · obtain ⟨r, h3, h4⟩ := does_qval hD h2
      exact ⟨r, Or.inl ⟨h1, h3⟩, aLex_of_dlex hD rest _ h4⟩
    · exact ⟨_, Or.inr ⟨h1, rfl⟩, aLex_of_dlex hD rest _ h2⟩

theorem AWP.drawV (hD : TyOk P D) {id : Nat} {l : List Oper} {Q : Exit → St → Prop} {s : St} (hm : P.follows .mixedOrders = true) (hB : Region.lexB .any l.toArray = true)
    (h : dlex P D l.toArray s.bx s.rw (fun fr => Q .normal ⟨fr, s.bx, s.rw, s.nb, s.nx⟩) l s.fr) : AWP P (.region id l.toArray true) Q s :=
  AWP.draw hm hB (aLex_of_dlex hD l s.fr h)

theorem sop_of_callS {o : Oper} {s : St} {K : St → Prop} {f : Operand} {xs : Array Operand} {ts : Array TypeId} (ho : o.op = .call { callee := .value f, args := xs, argTypes := ts })
    (h : vCallS P D s o.dst (St.ev s.fr f) (xs.toList.map (St.ev s.fr)) ts.toList K) : SOp P o s K := by
  unfold vCallS at h
  split at h
  · rename_i g caps hf
    have hsub : ∀ (w : World) (O : Nat → Prop) (m : M) (ls : List Nat) (vs : List Value), relL w O m ls (xs.toList.map (St.ev s.fr)) vs → relL w O m ls (normL D ts.toList (xs.toList.map (St.ev s.fr))) vs := fun _ _ _ _ _ h => relL_normL h
    split at h
    · rename_i hn
      rcases h with ⟨r, h1, h2⟩ | ⟨k, ys, h1, h2, h3⟩
      · exact SOp.of_quiet (q_call ho hf hsub hn h1) h2
      · exact SOp.of_rowA ho hf hsub hn h1 h2 h3
    · obtain ⟨hn, h⟩ := h
      rcases h with ⟨r, h1, h2, h3⟩ | ⟨k, ys, h1, h2, h3⟩
      · exact SOp.of_quiet (q_callB ho hf hsub hn h1 h2) h3
      · exact SOp.of_rowB ho hf hsub hn h1 h2 h3
  · exact h.elim

theorem sop_of_sval (hD : TyOk P D) {o : Oper} {s : St} {K : St → Prop} (h : sval P D o.op o.dst s K) : SOp P o s K := by
  have hq : ∀ op, o.op = op → (qval P D s.bx s.rw op (St.ev s.fr) fun r => K ⟨putA s.fr o.dst r, s.bx, s.rw, s.nb, s.nx⟩) → SOp P o s K := by
    intro op e hh
    subst e
    obtain ⟨r, h1, h2⟩ := does_qval hD hh
    exact SOp.of_quiet h1 h2
  generalize ho : o.op = op at h
  unfold sval at h
  split at h
  · rename_i t x
    split at h
    · rename_i cs hc
      exact SOp.of_rop (r_box ho hc) h
    · exact h.elim
  · rename_i t
    split at h
    · rename_i i hi
      exact SOp.of_rop (r_alloc ho (hD _ _ hi)) h
    · exact h.elim
  · rename_i t a x
    unfold vStore at h
    split at h
    · rename_i i hi
      split at h
      · rename_i id off ha
        split at h
        · rename_i cs ds hid hx
          exact SOp.of_rop (r_store ho (hD _ _ hi) ha hid hx h.1.1 h.1.2.1 h.1.2.2) h.2
        · exact h.elim
      · rename_i id l k ii j ha
        split at h
        · rename_i q ds hid hx
          split at h
          · rename_i cs hc
            obtain ⟨⟨h1, h2, h3, h4, h5⟩, h6⟩ := h
            subst h1
            refine SOp.of_rop (bx' := s.bx) (rw' := s.rw.set id (q.1, q.2.set ii (overA cs j ds))) (r := .val undef) ?_ h6
            have key := r_storeRow (P := P) (bx := s.bx) (ρ := fun y => normA D t (St.ev s.fr y)) ho (hD _ _ hi) (id := id) (l := l) (k := q.1) (ii := ii) (j := j) (by simp [ha, normA]) hid h2 hc (ds := ds) hx h3 h4 h5
            exact fun w O0 m ev hs hr => key w O0 m ev hs fun y hy => rel_normA (hr y hy)
          · exact h.elim
        · exact h.elim
      · exact h.elim
    · exact h.elim
  · rename_i t x y
    unfold vMake at h
    split at h
    · rename_i e a b z hd
      split at h
      · rename_i i kl l kc c hi hx hy
        exact SOp.of_rop (r_make ho (hD _ _ hd).desc (hD _ _ hi) hx hy h.1.1 h.1.2.1 h.1.2.2.1 h.1.2.2.2) h.2
      · exact h.elim
    · exact h.elim
  · rename_i xs ts
    unfold vAppend at h
    split at h
    · rename_i x y t t' hxs hts
      obtain ⟨rfl, h⟩ := h
      obtain ⟨l, rfl⟩ : ∃ l : List Operand, xs = l.toArray := ⟨xs.toList, by simp⟩
      obtain rfl : ts = #[t, t] := by apply Array.ext'; simpa using hts
      have hl : l.length = 2 := by have := congrArg List.length hxs; simpa using this
      obtain ⟨p, q, rfl⟩ : ∃ p q, l = [p, q] := by
        match l, hl with
        | [p, q], _ => exact ⟨p, q, rfl⟩
      simp only [List.map_cons, List.map_nil, List.cons.injEq, and_true] at hxs
      obtain ⟨hp, hq'⟩ := hxs
      split at h
      · rename_i e a b z hd
        split at h
        · rename_i i ys hi hys
          rw [← hq'] at hys
          split at h
          · obtain ⟨⟨h1, h2, h3, h4⟩, h5⟩ := h
            exact SOp.of_rop (r_append0 ho rfl rfl (hD _ _ hd).desc (hD _ _ hi) hp hys (by rw [hq']; exact h1) h2 h3 h4) h5
          · split at h
            · rename_i qq hid
              obtain ⟨⟨h1, h2, h3, h4, h5, h6⟩, h7⟩ := h
              exact SOp.of_rop (r_append ho rfl rfl (hD _ _ hd).desc (hD _ _ hi) hp (k := qq.1) (us := qq.2) hid h2 h1 hys (by rw [hq', h1]; exact h3) h4 h5 h6) h7
            · exact h.elim
          · exact h.elim
        · exact h.elim
      · exact h.elim
    · exact h.elim
  · rename_i f xs ts
    exact sop_of_callS ho h
  · exact hq _ ho h

theorem aSeq_of_slex (hD : TyOk P D) {ops : Array Oper} {K : St → Prop} : ∀ (l : List Oper) (s : St), slex P D ops K l s → aSeq P ops K l s
  | [], _, h => h
  | o :: rest, s, h => by
    simp only [slex] at h
    simp only [aSeq]
    rcases guardV_cases h with ⟨h1, h2⟩ | ⟨h1, h2⟩
    · exact Or.inl ⟨h1, (sop_of_sval hD h2).mono fun s' h' => aSeq_of_slex hD rest s' h'⟩
    · exact Or.inr ⟨h1, aSeq_of_slex hD rest _ h2⟩

theorem AWP.regionV (hD : TyOk P D) {id : Nat} {l : List Oper} {Q : Exit → St → Prop} {s : St} (h : slex P D l.toArray (Q .normal) l s) : AWP P (.region id l.toArray false) Q s :=
  AWP.region (aSeq_of_slex hD l s h)

/-! ### The end of a function -/
def resOne (D : Nat → Option TI) (s : St) : ResultVar → Option A
  | .tmp t => some (s.fr.getD t (.val undef))
  | .cell a t => (match D t, cellsAt s.bx s.rw (s.fr.getD a (.val undef)) with
    | some i, some cs => if i.kind.known = true ∧ (i.kind.plain = true → i.size = 1) ∧ i.size ≤ cs.length then some (loadA i cs) else none
    | _, _ => none)

def mkRes : List A → A
  | [r] => r
  | rs => .tup rs

def resGo (tmps : Array Value) : ResultVar → Sem Value
  | .tmp t => pure (tmps.getD t undef)
  | .cell a t => do loadVar t (← asAddr (tmps.getD a undef))

theorem run_resOne (hD : TyOk P D) {s : St} {we : World} {m0 : M} {ls0 : List Nat} {O0 : Nat → Prop} {m : M} {a : Act} {w : World} (hs : Sim we m0 ls0 O0 m s a w) : ∀ (l : List ResultVar) (rs : List A), l.mapM (resOne D s) = some rs →
    ∃ vs, (l.mapM (resGo a.tmps)).run P w = .ok vs w ∧ relL w (Ow O0 m) m (lens s.rw) rs vs
  | [], rs, h => by
    simp only [List.mapM_nil] at h
    cases h
    exact ⟨[], by simp, by simp [relL]⟩
  | x :: l, rs, h => by
    rw [List.mapM_cons] at h
    cases hx : resOne D s x with
    | none => simp [hx] at h
    | some r =>
      cases hl : l.mapM (resOne D s) with
      | none => simp [hx, hl] at h
      | some rs' =>
        simp [hx, hl] at h
        subst h
        obtain ⟨vs, h1, h2⟩ := run_resOne hD hs l rs' hl
        cases x with
        | tmp t =>
          simp only [resOne, Option.some.injEq] at hx
          subst hx
          have := rel_ev hs.fr (.tmp t)
          simp only [St.ev, Act.eval] at this
          refine ⟨a.tmps.getD t undef :: vs, ?_, by simp only [relL]; exact ⟨_, _, rfl, this, h2⟩⟩
          simp only [List.mapM_cons, resGo, Sem.run_bind, Sem.run_pure, Result.andThen_ok, h1]
        | cell b t =>
          simp only [resOne] at hx
          split at hx
          · rename_i i cs hi hc
            split at hx
            · rename_i hk
              simp only [Option.some.injEq] at hx
              subst hx
              have hb := rel_ev hs.fr (.tmp b)
              simp only [St.ev, Act.eval] at hb
              obtain ⟨bb, off, us, g1, g2, g3⟩ := reads_at hs.store hb hc
              obtain ⟨v, g4, g5⟩ := run_loadVarA (P := P) (hD _ _ hi) hk.1 g2 g3 hk.2.2 hk.2.1
              refine ⟨v :: vs, ?_, by simp only [relL]; exact ⟨_, _, rfl, g5, h2⟩⟩
              simp only [List.mapM_cons, resGo, Sem.run_bind, g1, asAddr, Sem.run_pure, Result.andThen_ok, g4, h1]
            · cases hx
          · cases hx

theorem res_of (hD : TyOk P D) {fn : Func} {s : St} {rs : List A} (h : fn.results.toList.mapM (resOne D s) = some rs) : Res P fn s (mkRes rs) := by
  intro we m0 ls0 O0 m a w hs
  obtain ⟨vs, h1, h2⟩ := run_resOne hD hs _ _ h
  have hm : (fn.results.mapM (resGo a.tmps)).run P w = .ok vs.toArray w := by
    rw [Array.mapM_eq_mapM_toList]
    simp only [Sem.run_map, h1, Result.andThen_ok]
  have hl := relL_length h2
  refine ⟨if h : vs.toArray.size = 1 then vs.toArray[0] else .tuple vs.toArray, ?_, ?_⟩
  · have e : results fn a.tmps = (do let vs ← fn.results.mapM (resGo a.tmps); pure (if h : vs.size = 1 then vs[0] else .tuple vs)) := by
      unfold results
      congr 1
    rw [e]
    simp only [Sem.run_bind, hm]
    simp only [Result.andThen_ok, Sem.run_pure]
  · match rs, vs, h2, hl with
    | [r], [v], h2, _ =>
      simp only [relL, List.cons.injEq] at h2
      obtain ⟨u, t, ⟨rfl, rfl⟩, h3, _⟩ := h2
      simpa [mkRes] using h3
    | [], vs, h2, hl =>
      have hne : ¬ vs.toArray.size = 1 := by simp at hl ⊢; simp [hl]
      rw [dif_neg hne]
      simp only [mkRes, rel]
      exact ⟨vs, rfl, h2⟩
    | r1 :: r2 :: rs, vs, h2, hl =>
      have hne : ¬ vs.toArray.size = 1 := by simp at hl ⊢; omega
      rw [dif_neg hne]
      simp only [mkRes, rel]
      exact ⟨vs, rfl, h2⟩

theorem atEnd_ret (hD : TyOk P D) {fn : Func} {s : St} {R : A → List (List A) → List (Nat × List (List A)) → Prop} {rs : List A} (h : fn.results.toList.mapM (resOne D s) = some rs) (hR : R (mkRes rs) s.bx s.rw) : atEnd P fn R .ret s :=
  ⟨_, res_of hD h, hR⟩
theorem atEnd_normal (hD : TyOk P D) {fn : Func} {s : St} {R : A → List (List A) → List (Nat × List (List A)) → Prop} {rs : List A} (h : fn.results.toList.mapM (resOne D s) = some rs) (hR : R (mkRes rs) s.bx s.rw) : atEnd P fn R .normal s :=
  ⟨_, res_of hD h, hR⟩

def normR (D : Nat → Option TI) (ts : List Nat) (a : A) : A :=
  match ts, a with
  | [t], a => normA D t a
  | ts, .tup cs => .tup (normL D ts cs)
  | _, a => a

theorem rel_normR {w : World} {O : Nat → Prop} {m : M} {ls : List Nat} {ts : List Nat} {a : A} {v : Value} (h : rel w O m ls a v) : rel w O m ls (normR D ts a) v := by
  unfold normR
  split
  · exact rel_normA h
  · simp only [rel] at h ⊢
    obtain ⟨vs, h1, h2⟩ := h
    exact ⟨vs, h1, relL_normL h2⟩
  · exact h

/-- What the end of a walk must come to. -/
def finP (D : Nat → Option TI) (ts : List Nat) (r : A) : A → List (List A) → List (Nat × List (List A)) → Prop := fun r' bx rw => normR D ts (shutA bx rw r') = r ∧ noIds (shutA bx rw r') = true

/-- A contract with a new row, out of its walk. -/
def finR (k : Nat) (xs : List (List A)) : A → List (List A) → List (Nat × List (List A)) → Prop := fun r _ rw => noIdsLL xs = true ∧ ((r = .emp ∧ xs = []) ∨ ∃ id, r = .row id xs.length ∧ rw[id]? = some (k, xs))

theorem PureRow.of_walk {f : FuncId} {fn : Func} {c : Code} {As : List A} {k : Nat} {xs : List (List A)} (hf : P.funcs[f]? = some fn) (hnm : (fn.name == "runtime.NumGoroutine") = false) (hb : fn.body = some c)
    (h : AWP P c (atEnd P fn (finR k xs)) ⟨frame0 fn.ntmps As, [], [], 0, 0⟩) : PureRow P f As k xs := by
  have hc := ACall.of_awp hf hnm hb h
  refine ⟨hc.1, fun O w vs hO hrel => ?_⟩
  have hs : Store w O ⟨[], []⟩ [] [] := ⟨rfl, rfl, by simp [M.blocks], fun b hb => by simp [M.blocks] at hb, hO, fun id b cs h => by simp at h, fun id h k xs h' => by simp at h'⟩
  have hOw : Ow O ⟨[], []⟩ = O := by funext b; simp [Ow, M.blocks]
  refine (hc.2 O w ⟨[], []⟩ vs hs (by rw [hOw]; exact hrel)).mono ?_
  rintro e w' ⟨v, m', r', bx', rw', rfl, hera, hst, hr', hn, hsh⟩
  have hbel : Below w.heap.size w w' := ⟨hera.os, hera.tape, hera.output, hera.size, fun k hk => hera.keep k hk (by simp [M.blocks])⟩
  rcases hsh with ⟨rfl, rfl⟩ | ⟨id, rfl, hid⟩
  · simp only [rel] at hr'
    exact ⟨v, none, rfl, hbel, by simpa only [hdr, List.length_nil] using hr', by simp [rowOk], fun b cap h => by cases h⟩
  · simp only [rel] at hr'
    obtain ⟨l, h1, h2, _, h3⟩ := hr'
    have hl : xs.length = l := by
      simp only [lens, List.getElem?_map, hid, Option.map_some, Option.some.injEq] at h1
      omega
    obtain ⟨hd, h4, h5⟩ := h3 hl
    have hrow := hst.row id hd k xs h4 hid
    refine ⟨v, hd, rfl, hbel, h5, ?_, fun b cap e => ?_⟩
    · cases hd with
      | none => exact hrow
      | some bc =>
        obtain ⟨b, cap⟩ := bc
        obtain ⟨q1, q2, q3, c, T, q4, q5, q6⟩ := hrow
        refine ⟨q1, q2, q3, c, T, q4, q5, relL_shut ⟨Nat.le_refl _, fun _ _ _ => rfl, fun b' _ hb' ho => hb' ?_⟩ _ _ (noIds_flatten hn) q6⟩
        rcases ho with ho | ho
        · exact Or.inl ho
        · refine Or.inr ?_
          simp [M.blocks] at ho
          subst ho
          exact mem_blocks_rw h4
    · subst e
      have hm := mem_blocks_rw h4
      refine ⟨?_, (hst.blk b hm).1⟩
      rcases hera.new b hm with h6 | h6
      · simp [M.blocks] at h6
      · exact h6

/-- A contract out of a walk; empty slices by their types; the objects given up. -/
theorem Pure.of_walk (D : Nat → Option TI) (ts : List Nat) {f : FuncId} {fn : Func} {c : Code} {As : List A} {r : A} (hf : P.funcs[f]? = some fn) (hnm : (fn.name == "runtime.NumGoroutine") = false) (hb : fn.body = some c)
    (h : AWP P c (atEnd P fn (finP D ts r)) ⟨frame0 fn.ntmps As, [], [], 0, 0⟩) : Pure P f As r := by
  have hc := ACall.of_awp hf hnm hb h
  refine ⟨hc.1, fun O w vs hO hrel => ?_⟩
  have hs : Store w O ⟨[], []⟩ [] [] := ⟨rfl, rfl, by simp [M.blocks], fun b hb => by simp [M.blocks] at hb, hO, fun id b cs h => by simp at h, fun id h k xs h' => by simp at h'⟩
  have hOw : Ow O ⟨[], []⟩ = O := by funext b; simp [Ow, M.blocks]
  refine (hc.2 O w ⟨[], []⟩ vs hs (by rw [hOw]; exact hrel)).mono ?_
  rintro e w' ⟨v, m', r', bx', rw', rfl, hera, hst, hr', hsh, hn⟩
  subst hsh
  exact ⟨v, rfl, ⟨hera.os, hera.tape, hera.output, hera.size, fun k hk => hera.keep k hk (by simp [M.blocks])⟩, rel_normR (rel_shutA hst hr' hn)⟩

end
end Go.Proofs.Ytgedhnhgkmhgcaa.Abs
