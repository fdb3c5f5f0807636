/- REGIONS OVER ABSTRACT STATES: a region in its own order, and a region that draws its order (one walk serves every order). -/
import Derived.Test.YtgedhnhgkmhgcaaAb2
import Derived.Still
namespace Go.Proofs.Ytgedhnhgkmhgcaa.Abs
open Go Go.RowKit

/-- What one quiet operation comes to: a value that stands for r; memory only grows. -/
def QUpon (P : Program) (w : World) (O : Nat → Prop) (m : M) (ls : List Nat) (r : A) : Result Next → Prop
  | .ok (.value u) w' => Below w.heap.size w w' ∧ rel w' O m ls r u
  | .ok .skip w' => Below w.heap.size w w' ∧ r = .val undef
  | .ok (.enter f args) w' => w' = w ∧ Calls P f args w fun e w'' => ∃ v, e = .returned v ∧ Below w.heap.size w w'' ∧ rel w'' O m ls r v
  | _ => False

def QOp (P : Program) (o : Oper) (ρ : Operand → A) (bx : List (List A)) (rw : List (Nat × List (List A))) (r : A) : Prop :=
  ∀ (w : World) (O0 : Nat → Prop) (m : M) (ev : Operand → Value), Store w O0 m bx rw →
    (∀ x ∈ o.op.operands, rel w (Ow O0 m) m (lens rw) (ρ x) (ev x)) → QUpon P w (Ow O0 m) m (lens rw) r ((execOp ev o).run P w)

def putA (fr : List A) (dst : Option Tmp) (r : A) : List A := match dst with | some d => fr.set d r | none => fr

def slotA (ops : Array Oper) (fr : List A) (j : Nat) : Option A := ((ops[j]?).bind (·.dst)).bind (fr[·]?)

def boolOf : Value → Option Bool | .bool b => some b | _ => none

/-- Whether the guard lets the operation by. -/
def WantsA (ops : Array Oper) (o : Oper) (fr : List A) (b : Bool) : Prop :=
  match o.guard with
  | none => b = true
  | some (j, want) => ∃ v, slotA ops fr j = some (.val v) ∧ (boolOf v == some want) = b

def AY (P : Program) (ops : Array Oper) (bx : List (List A)) (rw : List (Nat × List (List A))) (o : Oper) (r : A) (fr : List A) : Prop :=
  (WantsA ops o fr true ∧ QOp P o (St.ev fr) bx rw r) ∨ (WantsA ops o fr false ∧ r = .val undef)

section
variable {P : Program} {ops : Array Oper} {md : Region.Mode} {bx : List (List A)} {rw : List (Nat × List (List A))}

theorem QOp.congr {o : Oper} {ρ ρ' : Operand → A} {r : A} (h : QOp P o ρ bx rw r) (he : ∀ x ∈ o.op.operands, ρ' x = ρ x) : QOp P o ρ' bx rw r :=
  fun w O0 m ev hs hr => h w O0 m ev hs fun x hx => by rw [← he x hx]; exact hr x hx

theorem ev_put {fr : List A} {dst : Option Tmp} {r : A} {x : Operand} (h : ∀ d, dst = some d → x ≠ .tmp d) : St.ev (putA fr dst r) x = St.ev fr x := by
  cases dst with
  | none => rfl
  | some d =>
    cases x with
    | tmp t =>
      have hne : d ≠ t := fun e => h d rfl (e ▸ rfl)
      simp [St.ev, putA, List.getElem?_set_ne hne]
    | _ => rfl

theorem putA_comm (fr : List A) {x y : Option Tmp} (v u : A) (h : ∀ d, x = some d → y ≠ some d) : putA (putA fr x v) y u = putA (putA fr y u) x v := by
  cases x with
  | none => rfl
  | some d =>
    cases y with
    | none => rfl
    | some e =>
      have hne : d ≠ e := fun he => h d rfl (he ▸ rfl)
      simp [putA, List.set_comm _ _ hne]

theorem wants_put {o : Oper} {fr : List A} {dst : Option Tmp} {r : A} {b : Bool} (h : ∀ d, dst = some d → d ∉ o.looksAt ops) : WantsA ops o (putA fr dst r) b ↔ WantsA ops o fr b := by
  unfold WantsA
  cases hg : o.guard with
  | none => rfl
  | some gw =>
    obtain ⟨g, want⟩ := gw
    have hy : slotA ops (putA fr dst r) g = slotA ops fr g := by
      unfold slotA
      cases ht : (ops[g]?).bind (·.dst) with
      | none => rfl
      | some t =>
        cases dst with
        | none => rfl
        | some d =>
          have hne : d ≠ t := fun e => h d rfl (by subst e; simp [Oper.looksAt, hg, ht])
          simp [putA, List.getElem?_set_ne hne]
    simp only [hy]

theorem AY.put {o : Oper} {r : A} {fr : List A} (hy : AY P ops bx rw o r fr) {dst : Option Tmp} {u : A} (h : ∀ d, dst = some d → d ∉ o.looksAt ops) : AY P ops bx rw o r (putA fr dst u) := by
  rcases hy with ⟨h1, h2⟩ | ⟨h1, h2⟩
  · refine Or.inl ⟨(wants_put h).2 h1, h2.congr fun x hx => ev_put fun d hd hxd => h d hd ?_⟩
    subst hxd
    exact List.mem_append_left _ (List.mem_filterMap.2 ⟨.tmp d, by simpa using hx, rfl⟩)
  · exact Or.inr ⟨(wants_put h).2 h1, h2⟩

theorem AY.unput {o : Oper} {r : A} {fr : List A} {dst : Option Tmp} {u : A} (hy : AY P ops bx rw o r (putA fr dst u)) (h : ∀ d, dst = some d → d ∉ o.looksAt ops) : AY P ops bx rw o r fr := by
  rcases hy with ⟨h1, h2⟩ | ⟨h1, h2⟩
  · refine Or.inl ⟨(wants_put h).1 h1, h2.congr fun x hx => (ev_put fun d hd hxd => h d hd ?_).symm⟩
    subst hxd
    exact List.mem_append_left _ (List.mem_filterMap.2 ⟨.tmp d, by simpa using hx, rfl⟩)
  · exact Or.inr ⟨(wants_put h).1 h1, h2⟩

def aqOp (P : Program) (ops : Array Oper) (bx : List (List A)) (rw : List (Nat × List (List A))) (i : Nat) (K : List A → Prop) (fr : List A) : Prop :=
  match ops[i]? with
  | none => K fr
  | some o => ∃ r, AY P ops bx rw o r fr ∧ K (putA fr o.dst r)

theorem aqOp_mono {i : Nat} {fr : List A} {K K' : List A → Prop} (h : ∀ a, K a → K' a) (hh : aqOp P ops bx rw i K fr) : aqOp P ops bx rw i K' fr := by
  unfold aqOp at *
  split
  · exact h _ (by simpa [*] using hh)
  · rename_i o ho
    simp only [ho] at hh
    obtain ⟨r, h1, h2⟩ := hh
    exact ⟨r, h1, h _ h2⟩

def aAny (P : Program) (md : Region.Mode) (ops : Array Oper) (bx : List (List A)) (rw : List (Nat × List (List A))) (K : List A → Prop) : Nat → Array Bool → List A → Prop
  | 0, listed, fr => Region.ready md ops listed = [] ∧ K fr
  | fuel + 1, listed, fr =>
    (Region.ready md ops listed = [] → K fr) ∧
    ∀ i ∈ Region.ready md ops listed, aqOp P ops bx rw i (aAny P md ops bx rw K fuel (listed.setIfInBounds i true)) fr

theorem aqOp_put {j : Nat} {oi oj : Oper} {v : A} (hj : ops[j]? = some oj) (hap : oi.apart ops oj = true) {K : List A → Prop} {fr : List A}
    (hy : AY P ops bx rw oi v fr) (h : aqOp P ops bx rw j K (putA fr oi.dst v)) :
    aqOp P ops bx rw j (fun a' => AY P ops bx rw oi v a' ∧ K (putA a' oi.dst v)) fr := by
  obtain ⟨h1, h2, h3⟩ := Oper.apart_spec hap
  unfold aqOp at *
  simp only [hj] at *
  obtain ⟨u, g1, g2⟩ := h
  exact ⟨u, g1.unput h1, hy.put h3, by rw [← putA_comm fr v u h2]; exact g2⟩

theorem aAny_first {K : List A → Prop} {i : Nat} {oi : Oper} {v : A} (hi : ops[i]? = some oi) :
    ∀ (fuel : Nat) (listed : Array Bool) (fr : List A),
      (∀ j oj, ops[j]? = some oj → j ≠ i → listed.getD j true = false → (∀ e ∈ oj.after, Region.binds md e = true → e.on ≠ i) → oi.apart ops oj = true) →
      i ∈ Region.ready md ops listed → AY P ops bx rw oi v fr →
      aAny P md ops bx rw K fuel (listed.setIfInBounds i true) (putA fr oi.dst v) → aAny P md ops bx rw K (fuel + 1) listed fr := by
  intro fuel
  have hq : ∀ {K : List A → Prop} {fr : List A}, AY P ops bx rw oi v fr → K (putA fr oi.dst v) → aqOp P ops bx rw i K fr := by
    intro K fr hy hk
    unfold aqOp
    simp only [hi]
    exact ⟨v, hy, hk⟩
  induction fuel with
  | zero =>
    intro listed fr _ hr hy H
    refine ⟨fun h => (by rw [h] at hr; cases hr), fun j hj => ?_⟩
    by_cases hji : j = i
    · subst hji; exact hq hy H
    · have := ready_mono hj hji
      rw [H.1] at this
      cases this
  | succ fuel ih =>
    intro listed fr hfree hr hy H
    refine ⟨fun h => (by rw [h] at hr; cases hr), fun j hj => ?_⟩
    by_cases hji : j = i
    · subst hji; exact hq hy H
    · have h1 := H.2 j (ready_mono hj hji)
      obtain ⟨hjun, oj, hoj, hall⟩ := mem_ready.1 hj
      have hnot : ∀ e ∈ oj.after, Region.binds md e = true → e.on ≠ i := fun e he hb heq => by
        have h1 := hall e he hb
        have h0 := (mem_ready.1 hr).1
        rw [heq] at h1
        rcases Nat.lt_or_ge i listed.size with h' | h'
        · simp [h'] at h0 h1; rw [h0] at h1; cases h1
        · simp [Array.getElem?_eq_none h'] at h1
      have h2 := aqOp_put hoj (hfree j oj hoj hji hjun hnot) hy h1
      have hfree' : ∀ k ok, ops[k]? = some ok → k ≠ i → (listed.setIfInBounds j true).getD k true = false →
          (∀ e ∈ ok.after, Region.binds md e = true → e.on ≠ i) → oi.apart ops ok = true := fun k ok hk hki hun hno => by
        refine hfree k ok hk hki ?_ hno
        by_cases hjk : j = k
        · subst hjk; exact hjun
        · rw [getD_set_ne true hjk] at hun; exact hun
      refine aqOp_mono (fun a' h3 => ih (listed.setIfInBounds j true) a' hfree' (ready_mono hr (Ne.symm hji)) h3.1 ?_) h2
      rw [Array.setIfInBounds_comm _ _ hji]
      exact h3.2

/-- The walk in the order of the text. -/
def aLex (P : Program) (ops : Array Oper) (bx : List (List A)) (rw : List (Nat × List (List A))) (K : List A → Prop) : List Oper → List A → Prop
  | [], fr => K fr
  | o :: rest, fr => ∃ r, AY P ops bx rw o r fr ∧ aLex P ops bx rw K rest (putA fr o.dst r)

theorem aAny_lex {K : List A → Prop} : ∀ (l : List Oper) (k : Nat) (listed : Array Bool) (fr : List A), (∀ j, l[j]? = ops[k + j]?) →
    Region.lexFrom md ops l.length k listed = true → aLex P ops bx rw K l fr → aAny P md ops bx rw K l.length listed fr
  | [], _, _, _, _, hB, h => ⟨by simpa [Region.lexFrom] using hB, h⟩
  | o :: l, k, listed, fr, hl, hB, h => by
    have h0 : ops[k]? = some o := by simpa using (hl 0).symm
    simp only [List.length_cons, Region.lexFrom, Bool.and_eq_true] at hB
    obtain ⟨⟨hr, hf⟩, hB'⟩ := hB
    obtain ⟨v, hy, hK⟩ := h
    exact aAny_first h0 l.length listed fr (Region.free_spec h0 hf) (by simpa using hr) hy
      (aAny_lex l (k + 1) _ _ (fun j => by have := hl (j + 1); simpa [Nat.add_assoc, Nat.add_comm 1 j] using this) hB' hK)

theorem relL_set {w : World} {O : Nat → Prop} {m : M} {ls : List Nat} : ∀ {fr : List A} {vs : List Value} (d : Nat) {r : A} {v : Value}, relL w O m ls fr vs → rel w O m ls r v → relL w O m ls (fr.set d r) (vs.set d v)
  | [], vs, d, r, v, h, _ => by simp only [relL] at h; subst h; simp [relL]
  | c :: cs, vs, d, r, v, h, hr => by
    simp only [relL] at h
    obtain ⟨u, t, rfl, h2, h3⟩ := h
    cases d with
    | zero => simp only [List.set_cons_zero, relL]; exact ⟨v, t, rfl, hr, h3⟩
    | succ d => simp only [List.set_cons_succ, relL]; exact ⟨u, _, rfl, h2, relL_set d h3 hr⟩

theorem sim_put {we : World} {m0 : M} {ls0 : List Nat} {O0 : Nat → Prop} {m : M} {s : St} {a : Act} {w : World} (h : Sim we m0 ls0 O0 m s a w) (dst : Option Tmp) {r : A} {v : Value}
    (hr : rel w (Ow O0 m) m (lens s.rw) r v) : Sim we m0 ls0 O0 m { s with fr := putA s.fr dst r } (a.put dst v) w := by
  cases dst with
  | none => exact h
  | some d => exact ⟨h.defers, h.nb, h.nx, h.era, h.store, by simpa [putA, Act.put] using relL_set d h.fr hr⟩

theorem below_mono {w w' : World} (h : Below w.heap.size w w') (O : Nat → Prop) (m : M) (ls : List Nat) : Mono w O m ls w' O m ls where
  size := h.size
  keep := fun b hb _ => h.block b hb
  own := fun _ _ hn => hn
  bx := fun _ _ h => h
  rw := fun _ l h => ⟨l, h, Nat.le_refl _, fun _ => rfl⟩

theorem rowOk_mono {w : World} {O : Nat → Prop} {m : M} {ls : List Nat} {w' : World} {O' : Nat → Prop} {m' : M} {ls' : List Nat} (h : Mono w O m ls w' O' m' ls') {k : Nat} {xs : List (List A)} :
    ∀ {hd : Option (Nat × Nat)}, (∀ b cap, hd = some (b, cap) → w'.heap[b]? = w.heap[b]?) → rowOk w O m ls k xs hd → rowOk w' O' m' ls' k xs hd
  | none, _, hr => hr
  | some (b, cap), hb, hr => by
    obtain ⟨h1, h2, h3, c, T, h4, h5, h6⟩ := hr
    exact ⟨h1, h2, h3, c, T, by rw [hb b cap rfl]; exact h4, h5, relL_mono h _ _ h6⟩

theorem mem_blocks_bx {m : M} {id b : Nat} (h : m.bx[id]? = some b) : b ∈ m.blocks := List.mem_append_left _ (List.mem_of_getElem? h)
theorem mem_blocks_rw {m : M} {id b cap : Nat} (h : m.rw[id]? = some (some (b, cap))) : b ∈ m.blocks :=
  List.mem_append_right _ (List.mem_filterMap.2 ⟨some (b, cap), List.mem_of_getElem? h, rfl⟩)

theorem Store.below {w w' : World} {O0 : Nat → Prop} {m : M} (hs : Store w O0 m bx rw) (h : Below w.heap.size w w') : Store w' O0 m bx rw where
  bxl := hs.bxl
  rwl := hs.rwl
  nd := hs.nd
  blk := fun b hb => ⟨Nat.lt_of_lt_of_le (hs.blk b hb).1 h.size, (hs.blk b hb).2⟩
  old := fun b hb => Nat.lt_of_lt_of_le (hs.old b hb) h.size
  box := fun id b cs h1 h2 => by
    obtain ⟨c, T, h3, h4⟩ := hs.box id b cs h1 h2
    exact ⟨c, T, by rw [h.block b (hs.blk b (mem_blocks_bx h1)).1]; exact h3, relL_mono (below_mono h _ _ _) _ _ h4⟩
  row := fun id hd k xs h1 h2 => rowOk_mono (below_mono h _ _ _)
    (fun b cap e => by subst e; exact h.block b (hs.blk b (mem_blocks_rw h1)).1) (hs.row id hd k xs h1 h2)

theorem Era.below {we w w' : World} {m0 m : M} {ls0 ls : List Nat} (he : Era we m0 ls0 w m ls) (h : Below w.heap.size w w') : Era we m0 ls0 w' m ls where
  os := h.os.trans he.os
  tape := h.tape.trans he.tape
  output := h.output.trans he.output
  size := Nat.le_trans he.size h.size
  keep := fun b hb hn => (h.block b (Nat.lt_of_lt_of_le hb he.size)).trans (he.keep b hb hn)
  new := he.new
  bx := he.bx
  rw := he.rw

theorem Sim.below {we : World} {m0 : M} {ls0 : List Nat} {O0 : Nat → Prop} {m : M} {s : St} {a : Act} {w w' : World} (h : Sim we m0 ls0 O0 m s a w) (hb : Below w.heap.size w w') :
    Sim we m0 ls0 O0 m s a w' :=
  ⟨h.defers, h.nb, h.nx, h.era.below hb, h.store.below hb, relL_mono (below_mono hb _ _ _) _ _ h.fr⟩

theorem wants_rel {o : Oper} {fr : List A} {b : Bool} {w : World} {O : Nat → Prop} {m : M} {ls : List Nat} {a : Act} (h : relL w O m ls fr a.tmps.toList) (hw : WantsA ops o fr b) :
    Region.wanted o (yielded ops a.tmps) = b := by
  unfold WantsA at hw
  unfold Region.wanted
  cases hg : o.guard with
  | none => simp only [hg] at hw ⊢; exact hw.symm
  | some gw =>
    obtain ⟨j, want⟩ := gw
    simp only [hg] at hw ⊢
    obtain ⟨v, h1, h2⟩ := hw
    unfold slotA at h1
    unfold yielded
    cases ht : (ops[j]?).bind (·.dst) with
    | none => rw [ht] at h1; simp at h1
    | some t =>
      rw [ht] at h1
      simp only [Option.bind_some] at h1 ⊢
      obtain ⟨u, h3, h4⟩ := relL_get h h1
      simp only [rel] at h4
      subst h4
      rw [← Array.getElem?_toList, h3]
      rw [← h2]
      cases u <;> rfl

theorem oper_of_AY {o : Oper} {r : A} {s : St} {we : World} {m0 : M} {ls0 : List Nat} {O0 : Nat → Prop} {m : M} {a : Act} {w : World} {N : Act → World → Prop} {Q : Exit → Act → World → Prop}
    (hs : Sim we m0 ls0 O0 m s a w) (hq : QOp P o (St.ev s.fr) s.bx s.rw r)
    (hN : ∀ a' w', Sim we m0 ls0 O0 m { s with fr := putA s.fr o.dst r } a' w' → N a' w') : o.wp P a w N Q := by
  have h := hq w O0 m a.eval hs.store fun x _ => rel_ev hs.fr x
  unfold Oper.wp
  generalize (execOp a.eval o).run P w = res at *
  cases res with
  | ok n w' =>
    cases n <;> simp only [QUpon] at h <;> simp only [Oper.upon]
    case value u => exact hN _ _ (sim_put (hs.below h.1) o.dst h.2)
    case skip =>
      obtain ⟨h1, rfl⟩ := h
      exact hN _ _ (sim_put (hs.below h1) o.dst (by simp [rel]))
    case enter f args =>
      obtain ⟨rfl, hc⟩ := h
      refine hc.mono ?_
      rintro e w'' ⟨v, rfl, h1, h2⟩
      exact hN _ _ (sim_put (hs.below h1) o.dst h2)
  | halt x w' => simp only [QUpon] at h

theorem wpOp_of_aqOp {i : Nat} {s : St} {K : List A → Prop} {we : World} {m0 : M} {ls0 : List Nat} {O0 : Nat → Prop} {m : M} {a : Act} {w : World} {N : Act → World → Prop} {Q : Exit → Act → World → Prop}
    (hs : Sim we m0 ls0 O0 m s a w) (hN : ∀ fr a' w', K fr → Sim we m0 ls0 O0 m { s with fr := fr } a' w' → N a' w') (hh : aqOp P ops s.bx s.rw i K s.fr) : wpOp P ops Q i N a w := by
  unfold aqOp at hh
  unfold wpOp
  split
  · rename_i ho; simp only [ho] at hh; exact hN _ _ _ hh hs
  · rename_i o ho
    simp only [ho] at hh
    obtain ⟨r, h1, h2⟩ := hh
    rcases h1 with ⟨h1, h3⟩ | ⟨h1, rfl⟩
    · rw [wants_rel hs.fr h1, if_pos rfl]
      exact Or.inl (oper_of_AY hs h3 fun a' w' hs' => hN _ _ _ h2 hs')
    · rw [wants_rel hs.fr h1, if_neg (by simp)]
      exact hN _ _ _ h2 (sim_put hs o.dst (by simp [rel]))

theorem wpAny_of_aAny {s : St} {K : List A → Prop} {we : World} {m0 : M} {ls0 : List Nat} {O0 : Nat → Prop} {m : M} {Q : Exit → Act → World → Prop}
    (hQ : ∀ fr a w, K fr → Sim we m0 ls0 O0 m { s with fr := fr } a w → Q .normal a w) : ∀ (fuel : Nat) (listed : Array Bool) (fr : List A) (a : Act) (w : World),
    Sim we m0 ls0 O0 m { s with fr := fr } a w → aAny P md ops s.bx s.rw K fuel listed fr → wpAny P md ops Q fuel listed a w
  | 0, _, fr, a, w, hs, h => ⟨h.1, hQ fr a w h.2 hs⟩
  | fuel + 1, _, fr, a, w, hs, h => ⟨fun h0 => hQ fr a w (h.1 h0) hs, fun i hi =>
      wpOp_of_aqOp (s := { s with fr := fr }) hs (fun fr' a' w' hk hs' => wpAny_of_aAny hQ fuel _ fr' a' w' hs' hk) (h.2 i hi)⟩

/-- A REGION THAT DRAWS ITS ORDER: the walk in the order of the text serves every order. -/
theorem AWP.draw {id : Nat} {l : List Oper} {Q : Exit → St → Prop} {s : St} (hm : P.follows .mixedOrders = true) (hB : Region.lexB .any l.toArray = true)
    (h : aLex P l.toArray s.bx s.rw (fun fr => Q .normal { s with fr := fr }) l s.fr) : AWP P (.region id l.toArray true) Q s := by
  intro we m0 ls0 O0 m a w hs
  simp only [Region.lexB, Bool.and_eq_true] at hB
  have hb : Below w.heap.size w { w with drawn := w.drawn + 1 } := ⟨rfl, rfl, rfl, Nat.le_refl _, fun _ _ => rfl⟩
  refine wp_region_any hm ?_
  refine wpAny_of_aAny (s := s) (m := m) (we := we) (m0 := m0) (ls0 := ls0) (O0 := O0) (K := fun fr => Q .normal { s with fr := fr }) ?_ _ _ s.fr a _ (hs.below hb) ?_
  · exact fun fr a w hq hs => ⟨m, _, hq, hs⟩
  · have := aAny_lex (P := P) (bx := s.bx) (rw := s.rw) (md := .any) l 0 (Array.replicate l.toArray.size false) s.fr (by simp) (by simpa using hB.2) h
    simpa using this

/-! ### A region in its own order -/

/-- One operation, which may turn the store. -/
def SOp (P : Program) (o : Oper) (s : St) (K : St → Prop) : Prop :=
  ∀ we m0 ls0 O0 m a w (N : Act → World → Prop) (Q : Exit → Act → World → Prop), Sim we m0 ls0 O0 m s a w →
    (∀ m' s' a' w', K s' → Sim we m0 ls0 O0 m' s' a' w' → N a' w') → o.wp P a w N Q

theorem SOp.of_quiet {o : Oper} {s : St} {K : St → Prop} {r : A} (h : QOp P o (St.ev s.fr) s.bx s.rw r) (hk : K { s with fr := putA s.fr o.dst r }) : SOp P o s K :=
  fun _ _ _ _ m _ _ _ _ hs hN => oper_of_AY hs h fun a' w' hs' => hN m _ a' w' hk hs'

theorem SOp.mono {o : Oper} {s : St} {K K' : St → Prop} (h : SOp P o s K) (hk : ∀ s, K s → K' s) : SOp P o s K' :=
  fun we m0 ls0 O0 m a w N Q hs hN => h we m0 ls0 O0 m a w N Q hs fun m' s' a' w' h1 h2 => hN m' s' a' w' (hk _ h1) h2

def aSeq (P : Program) (ops : Array Oper) (K : St → Prop) : List Oper → St → Prop
  | [], s => K s
  | o :: rest, s => (WantsA ops o s.fr true ∧ SOp P o s (aSeq P ops K rest)) ∨ (WantsA ops o s.fr false ∧ aSeq P ops K rest { s with fr := putA s.fr o.dst (.val undef) })

theorem wpList_of_aSeq {Q : Exit → St → Prop} {we : World} {m0 : M} {ls0 : List Nat} {O0 : Nat → Prop} : ∀ (l : List Oper) (s : St) (m : M) (a : Act) (w : World),
    Sim we m0 ls0 O0 m s a w → aSeq P ops (Q .normal) l s → wpList P ops (post we m0 ls0 O0 Q) l a w
  | [], s, m, a, w, hs, h => ⟨m, s, h, hs⟩
  | o :: rest, s, m, a, w, hs, h => by
    unfold wpList
    rcases h with ⟨h1, h2⟩ | ⟨h1, h2⟩
    · rw [wants_rel hs.fr h1, if_pos rfl]
      exact Or.inl (h2 we m0 ls0 O0 m a w _ _ hs fun m' s' a' w' hk hs' => wpList_of_aSeq rest s' m' a' w' hs' hk)
    · rw [wants_rel hs.fr h1, if_neg (by simp)]
      exact wpList_of_aSeq rest _ m _ w (sim_put hs o.dst (by simp [rel])) h2

theorem AWP.region {id : Nat} {l : List Oper} {Q : Exit → St → Prop} {s : St} (h : aSeq P l.toArray (Q .normal) l s) : AWP P (.region id l.toArray false) Q s :=
  fun _ _ _ _ m a w hs => wp_region_lit (wpList_of_aSeq l s m a w hs h)

end
end Go.Proofs.Ytgedhnhgkmhgcaa.Abs
