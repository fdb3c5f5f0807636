/- REGIONS: that the evaluator's run of a region is the program's. -/
import Derived.Test.YtnbjmmldjggkfaaGreatE15
namespace Go.Proofs.YtnbjmmldjggkfaaGreat.Abs
open Go Go.RowKit
noncomputable section

/-- The second frame knows at least as much. -/
def LeF (fr frC : Nat → V) : Prop := ∀ i, fr i = .top ∨ fr i = frC i

theorem LeF.refl (fr : Nat → V) : LeF fr fr := fun _ => Or.inr rfl

theorem LeF.put {fr frC : Nat → V} (h : LeF fr frC) (dst : Option Tmp) {v v' : V} (hv : v = .top ∨ v = v') : LeF (putV fr dst v) (putV frC dst v') := by
  cases dst with
  | none => exact h
  | some d =>
    intro i
    simp only [putV]
    by_cases e : i = d
    · subst e; rw [upd_self, upd_self]; exact hv
    · rw [upd_ne _ _ e, upd_ne _ _ e]; exact h i

theorem LeF.rel {fr frC : Nat → V} (h : LeF fr frC) (n : Nat) {w : World} {O : Nat → Prop} {m : Asg} {x : Operand} {v : Value} (hr : relV w O m (evF n frC x) v) : relV w O m (evF n fr x) v := by
  cases x with
  | tmp t =>
    simp only [evF] at hr ⊢
    cases hb : Nat.blt t n with
    | false => simp [relV]
    | true =>
      rw [hb] at hr
      simp only [cond_true] at hr ⊢
      rcases h t with e | e
      · rw [e]; simp [relV]
      · rw [e]; exact hr
  | const v => exact hr
  | global g => exact hr
  | func f => exact hr

theorem TOp.le {P : Program} {X : Ctx} {o : Oper} {n : Nat} {fr frC : Nat → V} {t : Tx} (h : LeF fr frC) (ht : TOp P X o (evF n fr) t) : TOp P X o (evF n frC) t :=
  fun w O0 m st ev hs hr hx hc => ht w O0 m st ev hs hr (fun x hx' => h.rel n (hx x hx')) hc

/-- What holds under guards. -/
def GsOk (gs : List GE) (frC : Nat → V) : Prop := ∀ g ∈ gs, ∀ t, frC g.gd = .d t → pWant t g.want = some true → g.v = frC g.dst

theorem lookG_some {i d : Nat} {w : Bool} {v : V} : ∀ {gs : List GE}, lookG i d w gs = some v → ∃ g ∈ gs, g.dst = i ∧ g.gd = d ∧ g.want = w ∧ g.v = v
  | [], h => by cases h
  | g :: gs, h => by
    simp only [lookG] at h
    cases hb : (Nat.beq g.dst i && (Nat.beq g.gd d && (g.want == w))) with
    | true =>
      rw [hb] at h
      simp only [cond_true, Option.some.injEq] at h
      simp only [Bool.and_eq_true, beq_iff_eq] at hb
      exact ⟨g, by simp, Nat.eq_of_beq_eq_true hb.1, Nat.eq_of_beq_eq_true hb.2.1, hb.2.2, h⟩
    | false =>
      rw [hb] at h
      simp only [cond_false] at h
      obtain ⟨g', h1, h2⟩ := lookG_some h
      exact ⟨g', by simp [h1], h2⟩

theorem GsOk.over {gs : List GE} {fr frC : Nat → V} (h : GsOk gs frC) (hf : LeF fr frC) {d : Nat} {w : Bool} {t : A} (hd : frC d = .d t) (hw : pWant t w = some true) : LeF (overG gs d w fr) frC := by
  intro i
  unfold overG
  cases hl : lookG i d w gs with
  | none => exact hf i
  | some v =>
    obtain ⟨g, h1, h2, h3, h4, h5⟩ := lookG_some hl
    subst h2 h3 h4 h5
    exact Or.inr (h g h1 t hd hw)

theorem GsOk.drop {gs : List GE} {frC : Nat → V} (h : GsOk gs frC) (dst : Option Tmp) (v : V) : GsOk (dropG gs dst) (putV frC dst v) := by
  cases dst with
  | none => exact h
  | some d =>
    intro g hg t ht hw
    simp only [dropG, List.mem_filter, Bool.and_eq_true, Bool.not_eq_true'] at hg
    obtain ⟨h1, h2, h3⟩ := hg
    have e2 : g.dst ≠ d := fun e => by rw [e] at h2; simp at h2
    have e3 : g.gd ≠ d := fun e => by rw [e] at h3; simp at h3
    simp only [putV] at ht ⊢
    rw [upd_ne _ _ e3] at ht
    rw [upd_ne _ _ e2]
    exact h g h1 t ht hw

theorem GsOk.add {gs : List GE} {frC : Nat → V} (h : GsOk gs frC) (dst : Option Tmp) {d : Nat} {want : Bool} {v u : V} {t : A} (hd : frC d = .d t) (hv : pWant t want = some true → u = v) : GsOk (addG gs dst d want v) (putV frC dst u) := by
  cases dst with
  | none => exact h
  | some x =>
    simp only [addG]
    cases hb : Nat.beq x d with
    | true => exact h.drop (some x) u
    | false =>
      simp only [cond_false]
      have hne : d ≠ x := fun e => by subst e; simp at hb
      intro g hg t' ht hw
      rcases List.mem_cons.mp hg with rfl | hg
      · simp only [putV] at ht ⊢
        rw [upd_ne _ _ hne, hd] at ht
        cases ht
        rw [upd_self]
        exact (hv hw).symm
      · exact h.drop (some x) u g hg t' ht hw

theorem pG_some {t : A} {want : Bool} {x : Option A} {a : A} (h : pG t want x = some a) : (pWant t want = some true ∧ x = some a) ∨ (pWant t want = some false ∧ a = .val undef) := by
  unfold pG at h
  unfold pWant
  split at h
  · split at h
    · rename_i e; exact Or.inl ⟨by simp [e], h⟩
    · rename_i e; cases h; exact Or.inr ⟨by simp [e], rfl⟩
  · cases h; exact Or.inr ⟨rfl, rfl⟩
  · cases h

theorem wants_of {ops : Array Oper} {o : Oper} {n j d : Nat} {want b : Bool} {frC : Nat → V} {t : A} (hg : o.guard = some (j, want)) (hj : dstOf ops j = some d) (hd : d < n) (ht : frC d = .d t) (hw : pWant t want = some b) : WantsA ops n o frC b := by
  unfold WantsA
  rw [hg]
  have h1 : (ops[j]?).bind (·.dst) = some d := by
    unfold dstOf at hj
    cases ho : ops[j]? with
    | none => rw [ho] at hj; cases hj
    | some o' => rw [ho] at hj; exact hj
  unfold pWant at hw
  split at hw
  · rename_i c
    cases hw
    refine ⟨d, _, h1, hd, ht, ?_⟩
    cases c <;> cases want <;> rfl
  · cases hw
    exact ⟨d, _, h1, hd, ht, rfl⟩
  · cases hw

section
variable {C : Cfg} {X : Ctx} {M : Node → Option Out} {o : Oper} {st : Stor} {r : Out}

theorem LXok.run {ρ : Operand → V} {κ : V → List Rd → List Wr → Option Out} : ∀ {x : LX}, LXok C.P X M o ρ st x → x.run M κ = some r → ∃ v rds wrs, κ v rds wrs = some r ∧ TOp C.P X o ρ ⟨v, rds, wrs⟩ ∧ ∀ q ∈ rds, agr st q
  | .fail, _, h => by cases h
  | .ret v rds wrs, hx, h => ⟨v, rds, wrs, h, hx.1, hx.2⟩
  | .bnd x k, hx, h => by
    simp only [LX.run, Option.bind_eq_some_iff] at h
    obtain ⟨a, h1, h2⟩ := h
    exact LXok.run (hx a h1) h2
  | .nat x k, hx, h => by
    simp only [LX.run, Option.bind_eq_some_iff] at h
    obtain ⟨a, h1, h2⟩ := h
    exact LXok.run (hx a h1) h2
  | .rows x k, hx, h => by
    simp only [LX.run, Option.bind_eq_some_iff] at h
    obtain ⟨a, h1, h2⟩ := h
    exact LXok.run (hx a h1) h2
  | .cells x k, hx, h => by
    simp only [LX.run, Option.bind_eq_some_iff] at h
    obtain ⟨a, h1, h2⟩ := h
    exact LXok.run (hx a h1) h2
  | .chk b k, hx, h => by
    simp only [LX.run, brn] at h
    split at h
    · rename_i hb; exact LXok.run (hx hb) h
    · cases h
  | .node x k, hx, h => by
    simp only [LX.run, Option.bind_eq_some_iff] at h
    obtain ⟨a, h1, h2⟩ := h
    exact LXok.run (hx a h1) h2
  | .cnd a x y, hx, h => by
    simp only [LX.run, Option.bind_eq_some_iff] at h
    obtain ⟨t, h1, h2⟩ := h
    cases t with
    | true => exact LXok.run (hx.1 h1) h2
    | false => exact LXok.run (hx.2 h1) h2

theorem run1_ok (hD : TyOk C.P C.D) (hM : PureM X C M) (hS : StM X C M) {n : Nat} {fr : Nat → V} {nid : Nat} {κ : V → List Rd → List Wr → Option Out} (h : run1 C M o n fr st nid κ = some r) :
    ∃ v rds wrs, κ v rds wrs = some r ∧ TOp C.P X o (evF n fr) ⟨v, rds, wrs⟩ ∧ ∀ q ∈ rds, agr st q := by
  unfold run1 at h
  have hs := evD_sound (X := X) (o := o) (ρ := evF n fr) (st := st) hD hM
  split at h
  · rename_i v rds e
    rw [e] at hs
    exact ⟨v, rds, [], h, hs.1, hs.2⟩
  · rename_i x rds e
    rw [e] at hs
    rw [Option.bind_eq_some_iff] at h
    obtain ⟨a, h1, h2⟩ := h
    obtain ⟨g1, g2⟩ := hs a h1
    exact ⟨_, rds, [], h2, g1, g2⟩
  · split at h
    · rename_i hn
      exact LXok.run (evL_sound hD hM hS nid hn) h
    · cases h

/-- One operation. -/
theorem stepOp_ok (hD : TyOk C.P C.D) (hM : PureM X C M) (hS : StM X C M) {ops : Array Oper} {n : Nat} {fr frC : Nat → V} {nid : Nat} {gs : List GE} {κ : V → List Rd → List Wr → List GE → Option Out} (hf : LeF fr frC) (hg : GsOk gs frC) (h : stepOp C M ops o n fr st nid gs κ = some r) :
    ∃ (t : Tx) (v : V) (rds : List Rd) (wrs : List Wr) (gs' : List GE), κ v rds wrs gs' = some r ∧ AY C.P X ops n o frC t ∧ (∀ q ∈ t.rds, agr st q) ∧ (v = .top ∨ v = t.v) ∧ t.rds ⊆ rds ∧ t.wrs = wrs ∧ GsOk gs' (putV frC o.dst t.v) := by
  unfold stepOp at h
  split at h
  · rename_i hgd
    obtain ⟨v, rds, wrs, h1, h2, h3⟩ := run1_ok hD hM hS h
    exact ⟨⟨v, rds, wrs⟩, v, rds, wrs, _, h1, Or.inl ⟨by simp [WantsA, hgd], h2.le hf⟩, h3, Or.inr rfl, fun _ h => h, rfl, hg.drop _ _⟩
  · rename_i j want hgd
    split at h
    · rename_i d hj
      split at h
      · rename_i hlt
        have hlt : d < n := by simpa [Nat.blt_eq] using hlt
        split at h
        · rename_i t ht
          have htC : frC d = .d t := by
            rcases hf d with e | e
            · rw [ht] at e; cases e
            · rw [← e]; exact ht
          have skip : pWant t want = some false → AY C.P X ops n o frC ⟨.d (.val undef), [], []⟩ := fun hw => Or.inr ⟨wants_of hgd hj hlt htC hw, rfl, rfl⟩
          have hs := evD_sound (X := X) (o := o) (ρ := evF n (overG gs d want fr)) (st := st) hD hM
          split at h
          · rename_i a rds e
            rw [e] at hs
            rw [Option.bind_eq_some_iff] at h
            obtain ⟨a', h1, h2⟩ := h
            rcases pG_some h1 with ⟨g1, g2⟩ | ⟨g1, g2⟩
            · cases g2
              exact ⟨⟨.d a, rds, []⟩, _, _, _, _, h2, Or.inl ⟨wants_of hgd hj hlt htC g1, hs.1.le (hg.over hf htC g1)⟩, hs.2, Or.inr rfl, fun _ h => h, rfl, hg.drop _ _⟩
            · subst g2
              exact ⟨_, _, _, _, _, h2, skip g1, by simp, Or.inr rfl, by simp, rfl, hg.drop _ _⟩
          · rename_i v rds _ e
            rw [e] at hs
            rw [Option.bind_eq_some_iff] at h
            obtain ⟨b, h1, h2⟩ := h
            cases b with
            | true => exact ⟨⟨v, rds, []⟩, _, _, _, _, h2, Or.inl ⟨wants_of hgd hj hlt htC h1, hs.1.le (hg.over hf htC h1)⟩, hs.2, Or.inl rfl, fun _ h => h, rfl, hg.add _ htC fun _ => rfl⟩
            | false => exact ⟨_, _, _, _, _, h2, skip h1, by simp, Or.inl rfl, by simp, rfl, hg.add _ htC fun e => by rw [h1] at e; cases e⟩
          · rename_i x rds e
            rw [e] at hs
            rw [Option.bind_eq_some_iff] at h
            obtain ⟨a', h1, h2⟩ := h
            rcases pG_some h1 with ⟨g1, g2⟩ | ⟨g1, g2⟩
            · obtain ⟨s1, s2⟩ := hs a' g2
              exact ⟨⟨.d a', rds, []⟩, _, _, _, _, h2, Or.inl ⟨wants_of hgd hj hlt htC g1, s1.le (hg.over hf htC g1)⟩, s2, Or.inr rfl, fun _ h => h, rfl, hg.drop _ _⟩
            · subst g2
              exact ⟨_, _, _, _, _, h2, skip g1, by simp, Or.inr rfl, by simp, rfl, hg.drop _ _⟩
          · rw [Option.bind_eq_some_iff] at h
            obtain ⟨b, h1, h2⟩ := h
            cases b with
            | true =>
              obtain ⟨v, rds, wrs, g1, g2, g3⟩ := run1_ok hD hM hS (show run1 C M o n (overG gs d want fr) st nid (fun v rds wrs => κ v rds wrs (dropG gs o.dst)) = some r from h2)
              exact ⟨⟨v, rds, wrs⟩, v, rds, wrs, _, g1, Or.inl ⟨wants_of hgd hj hlt htC h1, g2.le (hg.over hf htC h1)⟩, g3, Or.inr rfl, fun _ h => h, rfl, hg.drop _ _⟩
            | false => exact ⟨_, _, _, _, _, (show κ _ _ _ _ = some r from h2), skip h1, by simp, Or.inr rfl, by simp, rfl, hg.drop _ _⟩
        · cases h
      · cases h
    · cases h

/-- All of a region's operations. -/
theorem evOps_ok (hD : TyOk C.P C.D) (hM : PureM X C M) (hS : StM X C M) {ops : Array Oper} {n : Nat} {k : (Nat → V) → Stor → List Log → Option Out} : ∀ (l : List Oper) (nid : Nat) (fr frC : Nat → V) (st : Stor) (gs : List GE) (logs : List Log), LeF fr frC → GsOk gs frC →
    evOps C M ops n l nid fr st gs logs k = some r → ∃ (T : List Tx) (L : List Log) (fr' frC' : Nat → V) (st' : Stor), k fr' st' (logs ++ L) = some r ∧ LeF fr' frC' ∧ T.length = l.length ∧ L.length = l.length ∧
      (∀ (i : Nat) (t : Tx) (lg : Log), T[i]? = some t → L[i]? = some lg → t.rds ⊆ lg.1 ∧ t.wrs = lg.2) ∧ lexT C.P X ops n (fun f s => f = frC' ∧ s = st') l T frC st
  | [], nid, fr, frC, st, gs, logs, hf, hg, h => ⟨[], [], fr, frC, st, by simpa [evOps] using h, hf, rfl, rfl, by simp, rfl, rfl⟩
  | o :: os, nid, fr, frC, st, gs, logs, hf, hg, h => by
    obtain ⟨t, v, rds, wrs, gs', h1, h2, h3, h4, h5, h6, h7⟩ := stepOp_ok hD hM hS hf hg h
    have hf' : LeF (putV fr o.dst v) (putV frC o.dst t.v) := hf.put o.dst h4
    obtain ⟨T, L, fr', frC', st', g1, g2, g3, g4, g5, g6⟩ := evOps_ok hD hM hS os _ _ (putV frC o.dst t.v) _ gs' _ hf' h7 h1
    refine ⟨t :: T, (rds, wrs) :: L, fr', frC', st', by simpa using g1, g2, by simp [g3], by simp [g4], ?_, h2, h3, ?_⟩
    · intro i t' lg ht hl
      cases i with
      | zero => simp at ht hl; subst ht hl; exact ⟨h5, h6⟩
      | succ i => exact g5 i t' lg (by simpa using ht) (by simpa using hl)
    · rw [h6]; exact g6

/-! Operations that touch nothing in common. -/
theorem cWR_ok {w : Wr} {q : Rd} {ps : List (Nat × Nat)} (h : cWR w q = some ps) (ha : apart ps = true) : indWR w q := by
  unfold cWR at h
  split at h
  · split at h
    · cases h
    · rename_i hb
      simp only [indWR]
      rename_i id off _ id' off' _
      by_cases e : id = id'
      · exact Or.inr fun e' => hb (by simp [e, e'])
      · exact Or.inl e
  · split at h
    · cases h
      simp only [apart, List.all_cons, List.all_nil, Bool.and_true, decide_eq_true_eq] at ha
      exact Or.inr ha
    · rename_i hb
      refine Or.inl fun e => hb ?_
      simp [e]
  · split at h
    · cases h
      simp only [apart, List.all_cons, List.all_nil, Bool.and_true, decide_eq_true_eq] at ha
      exact Or.inr ha
    · rename_i hb
      refine Or.inl fun e => hb ?_
      simp [e]
  · trivial
  · trivial
  · trivial
  · split at h
    · cases h
    · rename_i hb
      have hne : w.id ≠ q.id := fun e => hb (by simp [e])
      cases w <;> cases q <;> simp_all [indWR, Wr.id, Rd.id]

theorem cWW_ok {w q : Wr} {ps : List (Nat × Nat)} (h : cWW w q = some ps) (ha : apart ps = true) : indWW w q := by
  unfold cWW at h
  split at h
  · split at h
    · cases h
    · rename_i hb
      simp only [indWW]
      rename_i id off _ id' off' _
      by_cases e : id = id'
      · exact Or.inr fun e' => hb (by simp [e, e'])
      · exact Or.inl e
  · split at h
    · cases h
      simp only [apart, List.all_cons, List.all_nil, Bool.and_true, decide_eq_true_eq] at ha
      exact Or.inr ha
    · rename_i hb
      refine Or.inl fun e => hb ?_
      simp [e]
  · split at h
    · cases h
    · rename_i hb
      have hne : w.id ≠ q.id := fun e => hb (by simp [e])
      cases w <;> cases q <;> simp_all [indWW, Wr.id]

theorem apart_app {ps qs : List (Nat × Nat)} (h : apart (ps ++ qs) = true) : apart ps = true ∧ apart qs = true := by
  simpa [apart, List.all_append] using h

theorem cOne_ok {α : Type} {g : α → Option (List (Nat × Nat))} {R : α → Prop} (hR : ∀ b ps, g b = some ps → apart ps = true → R b) : ∀ {bs : List α} {ps : List (Nat × Nat)}, cAll.cOne g bs = some ps → apart ps = true → ∀ b ∈ bs, R b
  | [], _, _, _ => by simp
  | b :: bs, ps, h, ha => by
    simp only [cAll.cOne] at h
    split at h
    · rename_i x y h1 h2
      cases h
      obtain ⟨a1, a2⟩ := apart_app ha
      intro b' hb
      rcases List.mem_cons.mp hb with rfl | hb
      · exact hR _ _ h1 a1
      · exact cOne_ok hR h2 a2 b' hb
    · cases h

theorem cAll_ok {α β : Type} {f : α → β → Option (List (Nat × Nat))} {R : α → β → Prop} (hR : ∀ a b ps, f a b = some ps → apart ps = true → R a b) : ∀ {as : List α} {bs : List β} {ps : List (Nat × Nat)}, cAll f as bs = some ps → apart ps = true → ∀ a ∈ as, ∀ b ∈ bs, R a b
  | [], _, _, _, _ => by simp
  | a :: as, bs, ps, h, ha => by
    simp only [cAll] at h
    split at h
    · rename_i x y h1 h2
      cases h
      obtain ⟨a1, a2⟩ := apart_app ha
      intro a' ha'
      rcases List.mem_cons.mp ha' with rfl | ha'
      · exact cOne_ok (hR _) h1 a1
      · exact cAll_ok hR h2 a2 a' ha'
    · cases h

theorem cLog_ok {a b : Log} {ps : List (Nat × Nat)} (h : cLog a b = some ps) (ha : apart ps = true) {t u : Tx} (h1 : t.rds ⊆ a.1) (h2 : t.wrs = a.2) (h3 : u.rds ⊆ b.1) (h4 : u.wrs = b.2) : indT t u := by
  unfold cLog at h
  split at h
  · rename_i x y z e1 e2 e3
    cases h
    obtain ⟨a1, a3⟩ := apart_app ha
    obtain ⟨a1, a2⟩ := apart_app a1
    refine ⟨fun w hw q hq => ?_, fun w hw q hq => ?_, fun w hw q hq => ?_⟩
    · exact cAll_ok (fun _ _ _ => cWR_ok) e1 a1 w (h2 ▸ hw) q (h3 hq)
    · exact cAll_ok (fun _ _ _ => cWR_ok) e2 a2 w (h4 ▸ hw) q (h1 hq)
    · exact cAll_ok (fun _ _ _ => cWW_ok) e3 a3 w (h2 ▸ hw) q (h4 ▸ hq)
  · cases h

theorem cRow_ok {all : List Oper} {o : Oper} {b : Log} : ∀ {as : List Log} {i : Nat} {ps : List (Nat × Nat)}, cRow all o b i as = some ps → apart ps = true → ∀ (j : Nat) (a : Log), as[j]? = some a → edge2 all o (i + j) = true ∨ ∃ qs, cLog a b = some qs ∧ apart qs = true
  | [], _, _, _, _ => by simp
  | a :: as, i, ps, h, ha => by
    simp only [cRow] at h
    split at h
    · rename_i x y h1 h2
      cases h
      obtain ⟨a1, a2⟩ := apart_app ha
      intro j a' hj
      cases j with
      | zero =>
        simp at hj; subst hj
        split at h1
        · rename_i he; exact Or.inl he
        · exact Or.inr ⟨_, h1, a1⟩
      | succ j =>
        rcases cRow_ok h2 a2 j a' (by simpa using hj) with g | g
        · exact Or.inl (by rwa [show i + (j + 1) = i + 1 + j by omega])
        · exact Or.inr g
    · cases h

theorem cReg_ok {all : List Oper} : ∀ {l : List Oper} {done bs : List Log} {ps : List (Nat × Nat)}, cReg all l done bs = some ps → apart ps = true → ∀ (j : Nat) (o : Oper) (b : Log), l[j]? = some o → bs[j]? = some b →
    ∀ (i : Nat) (a : Log), i < done.length + j → (done ++ bs)[i]? = some a → edge2 all o i = true ∨ ∃ qs, cLog a b = some qs ∧ apart qs = true
  | [], _, _, _, _, _ => by simp
  | _ :: _, _, [], _, h, _ => by cases h
  | o :: os, done, b :: bs, ps, h, ha => by
    simp only [cReg] at h
    split at h
    · rename_i x y h1 h2
      cases h
      obtain ⟨a1, a2⟩ := apart_app ha
      intro j o' b' ho hb i a hi hia
      cases j with
      | zero =>
        simp at ho hb; subst ho hb
        have hi : i < done.length := by simpa using hi
        rw [List.getElem?_append_left hi] at hia
        simpa using cRow_ok h1 a1 i a hia
      | succ j =>
        exact cReg_ok h2 a2 j o' b' (by simpa using ho) (by simpa using hb) i a (by simp; omega) (by simpa using hia)
    · cases h

theorem edgeTo_of {o : Oper} {i : Nat} (h : edgeTo o i = true) : ∃ e ∈ o.after, Region.binds .any e = true ∧ e.on = i := by
  unfold edgeTo at h
  rw [List.any_eq_true] at h
  obtain ⟨e, h1, h2⟩ := h
  rw [Bool.and_eq_true] at h2
  exact ⟨e, by simpa using h1, h2.1, Nat.eq_of_beq_eq_true h2.2⟩

theorem edge2_of {all : List Oper} {o : Oper} {i : Nat} (h : edge2 all o i = true) : ∃ e ∈ o.after, Region.binds .any e = true ∧ (e.on = i ∨ ∃ ok, all[e.on]? = some ok ∧ ∃ e' ∈ ok.after, Region.binds .any e' = true ∧ e'.on = i) := by
  unfold edge2 at h
  rw [List.any_eq_true] at h
  obtain ⟨e, h1, h2⟩ := h
  rw [Bool.and_eq_true, Bool.or_eq_true] at h2
  refine ⟨e, by simpa using h1, h2.1, ?_⟩
  rcases h2.2 with h3 | h3
  · exact Or.inl (Nat.eq_of_beq_eq_true h3)
  · split at h3
    · rename_i ok hok
      exact Or.inr ⟨ok, hok, edgeTo_of h3⟩
    · cases h3

/-- A region. -/
theorem evReg_ok (hD : TyOk C.P C.D) (hM : PureM X C M) (hS : StM X C M) (hm : C.P.follows .mixedOrders = true) {id : Nat} {ops : Array Oper} {draw : Bool} (hx : lexC (.region id ops draw) = true) {s : St} {κ : St → Option Out} (h : evReg C M ops.toList draw s κ = some r)
    {w0 : World} {Z0 O0 : Nat → Prop} {shv : Option (List Hd)} {m : Asg} {a : Act} {w : World} {Q : Exit → Act → World → Prop} (hs : Sim X w0 Z0 O0 shv m s a w)
    (hQ : ∀ s' m a w, s'.n = s.n → κ s' = some r → Sim X w0 Z0 O0 shv m s' a w → Q .normal a w) : (Code.region id ops draw).wp C.P Q a w := by
  unfold evReg at h
  obtain ⟨T, L, fr', frC', st', h1, h2, h3, h4, h5, h6⟩ := evOps_ok hD hM hS _ _ _ s.fr _ [] _ (LeF.refl _) (by intro g hg; cases hg) h
  rw [List.nil_append] at h1
  have h1b : (!draw || regOk ops.toList L) = true ∧ κ ⟨s.n, fr', st', s.nx + 8 * ops.toList.length, s.sh⟩ = some r := by
    simp only [brn] at h1
    split at h1
    · split at h1
      · rename_i hb; exact ⟨hb, h1⟩
      · cases h1
    · cases h1
  have hops : ops = ops.toList.toArray := by simp
  rw [hops]
  refine wp_region_lexT (T := T) (K := fun f s => f = frC' ∧ s = st') hm hs ?_ h6 ?_
  · intro hd
    subst hd
    simp only [lexC, Bool.not_true, Bool.false_or] at hx h1b
    refine ⟨hx, h3, ?_⟩
    have hr := h1b.1
    unfold regOk at hr
    split at hr
    · rename_i ps hps
      intro i j oj ti tj hij hoj hti htj he
      have hoj' : ops.toList[j]? = some oj := by simpa using hoj
      have hjl : j < L.length := by
        rw [h4]
        have := (List.getElem?_eq_some_iff.mp hoj').1
        exact this
      have hil : i < L.length := by omega
      obtain ⟨p1, p2⟩ := h5 j tj _ htj (List.getElem?_eq_getElem hjl)
      obtain ⟨q1, q2⟩ := h5 i ti _ hti (List.getElem?_eq_getElem hil)
      rcases cReg_ok hps hr j oj _ hoj' (List.getElem?_eq_getElem hjl) i _ (by simpa using hij) (show ([] ++ L)[i]? = _ from List.getElem?_eq_getElem hil) with g | ⟨qs, g1, g2⟩
      · obtain ⟨e, e1, e2, e3⟩ := edge2_of g
        rcases e3 with e3 | ⟨ok, g1, e', g2, g3, g4⟩
        · exact absurd e3 (he e e1 e2).1
        · exact absurd g4 ((he e e1 e2).2 ok (by simpa using g1) e' g2 g3)
      · exact cLog_ok g1 g2 q1 q2 p1 p2
    · cases hr
  · rintro fr st m a w ⟨rfl, rfl⟩ hs'
    refine hQ ⟨s.n, fr', st, s.nx + 8 * ops.toList.length, s.sh⟩ m a w rfl h1b.2 ?_
    exact ⟨hs'.defers, hs'.tsz, hs'.os, hs'.tape, hs'.output, hs'.size, hs'.keep, hs'.new, hs'.sto, fun i v hi => by
      rcases h2 i with e | e
      · show relV _ _ _ (fr' i) v
        rw [e]; simp [relV]
      · show relV _ _ _ (fr' i) v
        rw [e]; exact hs'.fr i v hi, hs'.sh, hs'.shf⟩
end
end
end Go.Proofs.YtnbjmmldjggkfaaGreat.Abs
