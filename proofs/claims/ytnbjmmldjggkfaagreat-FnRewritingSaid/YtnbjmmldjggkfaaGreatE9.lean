/- OPERATIONS THAT TURN THE STORE (1): what they come to in memory. -/
import Derived.Test.YtnbjmmldjggkfaaGreatE8d
namespace Go.Proofs.YtnbjmmldjggkfaaGreat.Abs
open Go Go.RowKit Go.MapKept
noncomputable section

section
variable {P : Program} {X : Ctx} {o : Oper} {ρ : Operand → V} {C : Cfg}

/-! ### Rows that are given up to be data -/
def Sealable (st : Stor) (ws : List Wr) : Prop := ∀ w ∈ ws, ∃ id k xs, w = .obj id (.fro k xs) ∧ (st id = .row k xs ∨ st id = .fro k xs)

theorem seals {w : World} {O0 : Nat → Prop} {m : Asg} : ∀ (ws : List Wr) (st : Stor), Sto X w O0 m st → Sealable st ws →
    Sto X w O0 m (apps st ws) ∧ Chg w m st w m (apps st ws) ∧ (∀ b, Ow O0 m (apps st ws) b → Ow O0 m st b) ∧ (∀ id k xs, Wr.obj id (.fro k xs) ∈ ws → apps st ws id = .fro k xs) ∧
      (∀ id, (∀ k xs, Wr.obj id (.fro k xs) ∉ ws) → apps st ws id = st id)
  | [], st, hs, _ => ⟨hs, Chg.refl _ _ _, fun _ h => h, (fun _ _ _ h => by cases h), fun _ _ => rfl⟩
  | x :: ws, st, hs, hw => by
    obtain ⟨id, k, xs, rfl, h1⟩ := hw x (by simp)
    have hs1 : Sto X w O0 m (app st (.obj id (.fro k xs))) ∧ Chg w m st w m (app st (.obj id (.fro k xs))) ∧ (∀ b, Ow O0 m (app st (.obj id (.fro k xs))) b → Ow O0 m st b) := by
      show Sto X w O0 m (upd st id (.fro k xs)) ∧ _
      rcases h1 with h1 | h1
      · exact ⟨hs.freeze h1, Chg.ghost (fun h => (by cases h)), Ow_upd (fun h => (by cases h))⟩
      · have e : upd st id (.fro k xs) = st := by
          funext i
          by_cases e : i = id
          · subst e; rw [upd_self, h1]
          · rw [upd_ne _ _ e]
        show _ ∧ Chg w m st w m (upd st id (.fro k xs)) ∧ ∀ b, Ow O0 m (upd st id (.fro k xs)) b → _
        rw [e]
        exact ⟨hs, Chg.refl _ _ _, fun _ h => h⟩
    have hw' : Sealable (app st (.obj id (.fro k xs))) ws := by
      intro y hy
      obtain ⟨id', k', xs', rfl, h2⟩ := hw y (by simp [hy])
      refine ⟨id', k', xs', rfl, ?_⟩
      show upd st id (.fro k xs) id' = _ ∨ upd st id (.fro k xs) id' = _
      by_cases e : id' = id
      · subst e
        right
        rw [upd_self]
        rcases h1 with h1 | h1 <;> rcases h2 with h2 | h2 <;> rw [h1] at h2 <;> cases h2 <;> rfl
      · rw [upd_ne _ _ e]; exact h2
    obtain ⟨a1, a2, a3, a4, a5⟩ := seals ws _ hs1.1 hw'
    refine ⟨a1, hs1.2.1.trans a2, fun b hb => hs1.2.2 b (a3 b hb), ?_, ?_⟩
    · intro id' k' xs' hm
      by_cases hin : Wr.obj id' (.fro k' xs') ∈ ws
      · exact a4 id' k' xs' hin
      · rcases List.mem_cons.1 hm with hm | hm
        · simp only [Wr.obj.injEq, Obj.fro.injEq] at hm
          obtain ⟨rfl, rfl, rfl⟩ := hm
          by_cases hin2 : ∃ k2 xs2, Wr.obj id' (.fro k2 xs2) ∈ ws
          · obtain ⟨k2, xs2, hin2⟩ := hin2
            obtain ⟨id3, k3, xs3, e3, h3⟩ := hw _ (List.mem_cons_of_mem _ hin2)
            cases e3
            have : (.fro k' xs' : Obj) = .fro k2 xs2 := by
              rcases h1 with h1 | h1 <;> rcases h3 with h3 | h3 <;> rw [h1] at h3 <;> cases h3 <;> rfl
            cases this
            exact absurd hin2 hin
          · show apps (app st _) ws id' = _
            rw [a5 id' fun k2 xs2 h2 => hin2 ⟨k2, xs2, h2⟩]
            exact upd_self _ _ _
        · exact absurd hm hin
    · intro id' hn
      show apps (app st _) ws id' = _
      rw [a5 id' fun k2 xs2 h2 => hn k2 xs2 (by simp [h2])]
      exact upd_ne _ _ fun e => hn k xs (by subst e; simp)

/-- Cells as data: rows among them are given up. -/
def sealC (st : Stor) : List V → Option (List A × List Rd × List Wr)
  | [] => some ([], [], [])
  | .d a :: cs => (match sealC st cs with | some (as, r, w) => some (a :: as, r, w) | none => none)
  | .nil k :: cs => (match sealC st cs with | some (as, r, w) => some (.sl k [] :: as, r, w) | none => none)
  | .row id :: cs => (match sealC st cs with
    | some (as, r, w) => (match st id with
      | .row k xs => some (.sl k xs :: as, .obj id (.row k xs) :: r, .obj id (.fro k xs) :: w)
      | .fro k xs => some (.sl k xs :: as, .obj id (.fro k xs) :: r, w)
      | _ => none)
    | none => none)
  | _ :: _ => none

theorem sealC_able {st st' : Stor} : ∀ {cs : List V} {as : List A} {r : List Rd} {ws : List Wr}, sealC st cs = some (as, r, ws) → (∀ x ∈ r, agr st' x) → Sealable st' ws
  | [], as, r, ws, h, _ => by simp only [sealC, Option.some.injEq, Prod.mk.injEq] at h; obtain ⟨_, _, rfl⟩ := h; intro w hw; cases hw
  | c :: cs, as, r, ws, h, hg => by
    cases c <;> simp only [sealC, reduceCtorEq] at h
    case d a =>
      split at h
      · rename_i h1; cases h; exact sealC_able h1 hg
      · cases h
    case nil k =>
      split at h
      · rename_i h1; cases h; exact sealC_able h1 hg
      · cases h
    case row id =>
      split at h
      · rename_i as' r' w' h1
        split at h
        · rename_i k xs h2
          cases h
          intro w hw
          rcases List.mem_cons.1 hw with rfl | hw
          · exact ⟨id, k, xs, rfl, Or.inl (hg (.obj id (.row k xs)) (by simp))⟩
          · exact sealC_able h1 (fun x hx => hg x (by simp [hx])) w hw
        · cases h
          exact sealC_able h1 fun x hx => hg x (by simp [hx])
        · cases h
      · cases h

theorem sealC_rds {st : Stor} : ∀ {cs : List V} {as : List A} {r : List Rd} {ws : List Wr}, sealC st cs = some (as, r, ws) → ∀ x ∈ r, agr st x
  | [], as, r, ws, h => by simp only [sealC, Option.some.injEq, Prod.mk.injEq] at h; obtain ⟨_, rfl, _⟩ := h; simp
  | c :: cs, as, r, ws, h => by
    cases c <;> simp only [sealC, reduceCtorEq] at h
    case d a =>
      split at h
      · rename_i h1; cases h; exact sealC_rds h1
      · cases h
    case nil k =>
      split at h
      · rename_i h1; cases h; exact sealC_rds h1
      · cases h
    case row id =>
      split at h
      · rename_i as' r' w' h1
        split at h
        · rename_i k xs h2
          cases h
          intro x hx
          rcases List.mem_cons.1 hx with rfl | hx
          · exact h2
          · exact sealC_rds h1 x hx
        · rename_i k xs h2
          cases h
          intro x hx
          rcases List.mem_cons.1 hx with rfl | hx
          · exact h2
          · exact sealC_rds h1 x hx
        · cases h
      · cases h

/-- The cells, behind the giving up. -/
theorem sealC_rel {st0 st st1 : Stor} {w : World} {O0 : Nat → Prop} {m : Asg} (hs1 : Sto X w O0 m st1) (hsub : ∀ b, Ow O0 m st1 b → Ow O0 m st b) : ∀ {cs : List V} {as : List A} {r : List Rd} {ws : List Wr} {us : List Value},
    sealC st0 cs = some (as, r, ws) → (∀ x ∈ r, agr st x) → (∀ id k xs, Wr.obj id (.fro k xs) ∈ ws → st1 id = .fro k xs) → (∀ id k xs, st id = .fro k xs → st1 id = .fro k xs) → relVL w (Ow O0 m st) m cs us → relL w (Ow O0 m st1) as us
  | [], as, r, ws, us, h, _, _, _, hr => by simp only [sealC, Option.some.injEq, Prod.mk.injEq] at h; obtain ⟨rfl, _, _⟩ := h; simpa [relVL, relL] using hr
  | c :: cs, as, r, ws, us, h, hg, h1, h2, hr => by
    cases c <;> simp only [sealC, reduceCtorEq] at h
    case d a =>
      split at h
      · rename_i h3
        cases h
        simp only [relVL, relV] at hr
        obtain ⟨v, t, rfl, g1, g2⟩ := hr
        simp only [relL]
        exact ⟨v, t, rfl, rel_mono (MonoW.sub hsub) _ _ g1, sealC_rel hs1 hsub h3 hg h1 h2 g2⟩
      · cases h
    case nil k =>
      split at h
      · rename_i h3
        cases h
        simp only [relVL, relV] at hr
        obtain ⟨v, t, rfl, ⟨a, rfl⟩, g2⟩ := hr
        simp only [relL, rel]
        exact ⟨_, t, rfl, ⟨a, 0, rfl, by simp, by omega, Or.inl trivial⟩, sealC_rel hs1 hsub h3 hg h1 h2 g2⟩
      · cases h
    case row id =>
      simp only [relVL] at hr
      obtain ⟨v, t, rfl, g1, g2⟩ := hr
      have key : ∀ k xs, st1 id = .fro k xs → rel w (Ow O0 m st1) (.sl k xs) v := fun k xs hf => by
        refine fro_rel hs1 hf ?_
        simp only [relV] at g1 ⊢
        exact g1
      split at h
      · rename_i as' r' w' h3
        split at h
        · rename_i k xs h4
          cases h
          simp only [relL]
          exact ⟨v, t, rfl, key k xs (h1 id k xs (by simp)), sealC_rel hs1 hsub h3 (fun x hx => hg x (by simp [hx])) (fun id' k' xs' hm => h1 id' k' xs' (by simp [hm])) h2 g2⟩
        · rename_i k xs h4
          cases h
          simp only [relL]
          exact ⟨v, t, rfl, key k xs (h2 id k xs (hg (.obj id (.fro k xs)) (by simp))), sealC_rel hs1 hsub h3 (fun x hx => hg x (by simp [hx])) h1 h2 g2⟩
        · cases h
      · cases h

theorem apps_append (st : Stor) (a b : List Wr) : apps st (a ++ b) = apps (apps st a) b := by simp [apps]

/-- The giving up as a whole. -/
theorem sealC_all {st0 st : Stor} {w : World} {O0 : Nat → Prop} {m : Asg} (hs : Sto X w O0 m st) {cs : List V} {as : List A} {r : List Rd} {ws : List Wr} {us : List Value} (h : sealC st0 cs = some (as, r, ws)) (hg : ∀ x ∈ r, agr st x) (hr : relVL w (Ow O0 m st) m cs us) :
    Sto X w O0 m (apps st ws) ∧ Chg w m st w m (apps st ws) ∧ relL w (Ow O0 m (apps st ws)) as us ∧ (∀ b, Ow O0 m (apps st ws) b → Ow O0 m st b) ∧ (∀ id, st id = .dead → apps st ws id = .dead) ∧
      (∀ id k xs, st id = .row k xs → apps st ws id = .row k xs ∨ apps st ws id = .fro k xs) ∧ (∀ id cs, st id = .box cs → apps st ws id = .box cs) ∧ (∀ id k xs, st id = .fro k xs → apps st ws id = .fro k xs) := by
  have hab := sealC_able h hg
  obtain ⟨a1, a2, a3, a4, a5⟩ := seals ws st hs hab
  have key : ∀ id, apps st ws id = st id ∨ ∃ k xs, apps st ws id = .fro k xs ∧ (st id = .row k xs ∨ st id = .fro k xs) := by
    intro id
    by_cases hin : ∃ k xs, Wr.obj id (.fro k xs) ∈ ws
    · obtain ⟨k, xs, hin⟩ := hin
      obtain ⟨id', k', xs', e, h1⟩ := hab _ hin
      cases e
      exact Or.inr ⟨k, xs, a4 id k xs hin, h1⟩
    · exact Or.inl (a5 id fun k xs hh => hin ⟨k, xs, hh⟩)
  have hfro : ∀ id k xs, st id = .fro k xs → apps st ws id = .fro k xs := fun id k xs hh => by
    rcases key id with e | ⟨k', xs', e, h1⟩
    · rw [e, hh]
    · rcases h1 with h1 | h1 <;> rw [hh] at h1 <;> cases h1 <;> exact e
  refine ⟨a1, a2, sealC_rel a1 a3 h hg a4 hfro hr, a3, fun id hd => ?_, fun id k xs hh => ?_, fun id cs hh => ?_, hfro⟩
  · rcases key id with e | ⟨k', xs', e, h1⟩
    · rw [e, hd]
    · rcases h1 with h1 | h1 <;> rw [hd] at h1 <;> cases h1
  · rcases key id with e | ⟨k', xs', e, h1⟩
    · exact Or.inl (by rw [e, hh])
    · rcases h1 with h1 | h1 <;> rw [hh] at h1 <;> cases h1 <;> exact Or.inr e
  · rcases key id with e | ⟨k', xs', e, h1⟩
    · rw [e, hh]
    · rcases h1 with h1 | h1 <;> rw [hh] at h1 <;> cases h1

/-! ### New variables, new rows -/
theorem mono_new {w w' : World} {O0 : Nat → Prop} {m : Asg} {st : Stor} (hs : Sto X w O0 m st) (hb : Below w.heap.size w w') {nid : Nat} (hf : st nid = .dead) {o : Obj} {hd : Hd} (hnew : ∀ b ∈ hd.blocks, w.heap.size ≤ b) :
    MonoW w (Ow O0 m st) w' (Ow O0 (upd m nid (some hd)) (upd st nid o)) ∧ MLe m (upd m nid (some hd)) := by
  have hm := hs.fresh nid hf
  have hmz : ∀ b, Ow O0 (upd m nid (some hd)) (upd st nid o) b → Ow O0 m st b ∨ w.heap.size ≤ b := by
    rintro b (h | ⟨i, hd', ha, hmi, hi⟩)
    · exact Or.inl (Or.inl h)
    · by_cases e : i = nid
      · subst e; rw [upd_self] at hmi; cases hmi; exact Or.inr (hnew b hi)
      · rw [upd_ne _ _ e] at ha hmi; exact Or.inl (Or.inr ⟨i, hd', ha, hmi, hi⟩)
  refine ⟨⟨hb.size, fun b h _ => hb.block b h, fun b h hn ho => by rcases hmz b ho with h1 | h1; exact hn h1; omega⟩, MLe.of fun id h e => ?_⟩
  have : id ≠ nid := fun e' => by subst e'; rw [hm] at e; cases e
  rw [upd_ne _ _ this]; exact e

theorem post_newbox {w w' : World} {O0 : Nat → Prop} {m : Asg} {st : Stor} (hs : Sto X w O0 m st) (hb : Below w.heap.size w w') (hsz : w.heap.size < w'.heap.size) {nid : Nat} (hf : st nid = .dead) {cs : List V} {c : Array Value} {T : TypeId}
    (hc : w'.heap[w.heap.size]? = some (.cells c T (0, 0))) (ho : OneCells c.toList) (hr : relVL w (Ow O0 m st) m cs c.toList) :
    Post X w O0 m st [.obj nid (.box cs)] (.ptr nid 0) w' (.pointer (some ⟨w.heap.size, 0, none⟩)) := by
  have hnew : ∀ b ∈ (Hd.blk w.heap.size 0 0).blocks, w.heap.size ≤ b := fun b e => by rw [blk_mem e]; exact Nat.le_refl _
  obtain ⟨hmono, hext⟩ := mono_new hs hb hf (o := .box cs) hnew
  obtain ⟨k1, k2⟩ := new_obj hs hb hf (hd := .blk w.heap.size 0 0) (o := .box cs) (fun h => by cases h) (fun b e => by rw [blk_mem e]; exact ⟨Nat.le_refl _, hsz⟩) ⟨_, rfl, c, T, hc, ho, relVL_mono hmono hext _ _ hr⟩
  exact ⟨_, k1, k2, by simp only [relV]; exact ⟨_, _, _, upd_self _ _ _, rfl⟩⟩

/-- A row of its own in memory that was made now, or in none. -/
def NewRow (w w' : World) (O : Nat → Prop) (k : Nat) (xs : List (List A)) (hd : Hd) : Prop :=
  (hd = .none ∧ xs = []) ∨ ∃ cap c T, hd = .blk w.heap.size cap xs.length ∧ w.heap.size < w'.heap.size ∧ xs.length ≤ cap ∧ cap ≤ 9223372036854775807 ∧ (∀ x ∈ xs, x.length = k) ∧ w'.heap[w.heap.size]? = some (.cells c T (0, 0)) ∧
      c.size = cap * k ∧ OneCells (c.toList.take (xs.length * k)) ∧ relL w O xs.flatten (c.toList.take (xs.length * k))

theorem post_newrow {w w' : World} {O0 : Nat → Prop} {m : Asg} {st : Stor} (hs : Sto X w O0 m st) (hb : Below w.heap.size w w') {nid : Nat} (hf : st nid = .dead) {k : Nat} {xs : List (List A)} {hd : Hd} {v : Value} (hv : hdr hd v)
    (hr : NewRow w w' (Ow O0 m st) k xs hd) : Post X w O0 m st [.obj nid (.row k xs)] (.row nid) w' v := by
  have hnew : ∀ b ∈ hd.blocks, w.heap.size ≤ b ∧ b < w'.heap.size := fun b e => by
    rcases hr with ⟨rfl, _⟩ | ⟨cap, c', T, rfl, h1, _⟩
    · simp [Hd.blocks] at e
    · rw [blk_mem e]; exact ⟨Nat.le_refl _, h1⟩
  obtain ⟨hmono, hext⟩ := mono_new hs hb hf (o := .row k xs) (hd := hd) fun b e => (hnew b e).1
  obtain ⟨k1, k2⟩ := new_obj hs hb hf (hd := hd) (o := .row k xs) (fun h => by cases h) hnew ⟨hd, rfl, by
    rcases hr with ⟨rfl, rfl⟩ | ⟨cap, c, T, rfl, h1, h2, h3, h4, h5, h6, h7, h8⟩
    · simp [rowOk]
    · exact ⟨rfl, h2, h3, h4, c, T, h5, h6, h7, relL_mono hmono _ _ h8⟩⟩
  exact ⟨_, k1, k2, by simp only [relV]; exact ⟨_, upd_self _ _ _, hv⟩⟩

/-- Steps one behind the other, the first without the world. -/
theorem Post.after {w w' : World} {O0 : Nat → Prop} {m : Asg} {st : Stor} {ws ws' : List Wr} {v : V} {u : Value} (hc : Chg w m st w m (apps st ws)) (h : Post X w O0 m (apps st ws) ws' v w' u) : Post X w O0 m st (ws ++ ws') v w' u := by
  obtain ⟨m', h1, h2, h3⟩ := h
  rw [← apps_append] at h1 h2 h3
  exact ⟨m', hc.trans h1, h2, h3⟩

/-- A run of stores into one block: the world behind it. -/
theorem run_stores (P : Program) {w : World} {b : Nat} {c : Array Value} {T : TypeId} (h : w.heap[b]? = some (.cells c T (0, 0))) (off : Nat) (vs : List Value) (hl : off + vs.length ≤ c.size) (h1 : OneCells vs) :
    ∃ W : World, (storeCells ⟨b, off, none⟩ vs).run P w = .ok () W ∧ W.os = w.os ∧ W.tape = w.tape ∧ Quiet w W ∧ W.heap.size = w.heap.size ∧ (∀ b', b' ≠ b → W.heap[b']? = w.heap[b']?) ∧
      W.heap[b]? = some (.cells (over c.toList off vs).toArray T (0, 0)) := by
  have hst := run_storeCells_at P b off T vs 0 c w h (by omega) h1
  simp only [Nat.add_zero] at hst
  exact ⟨_, hst, rfl, rfl, ⟨rfl, Nat.le_refl _⟩, by simp, fun b' hne => setRow_other w b b' _ hne, setRow_heap w b c _ T _ h⟩

/-- A step that turns one object of the call's own, in its place. -/
theorem post_turn' {w W : World} {O0 : Nat → Prop} {m : Asg} {st : Stor} (hs : Sto X w O0 m st) {id b : Nat} {hd : Hd} (ha : (st id).alive = true) (hm : m id = some hd) (hi : b ∈ hd.blocks) {o' : Obj} (ha' : o'.alive = true)
    (w1 : W.os = w.os) (w2 : W.tape = w.tape) (w3 : Quiet w W) (w4 : W.heap.size = w.heap.size) (w5 : ∀ b', b' ≠ b → W.heap[b']? = w.heap[b']?)
    (hok : MonoW w (Ow O0 m st) W (Ow O0 m (upd st id o')) → ObjOk W (Ow O0 m (upd st id o')) m o' (m id)) : Chg w m st W m (upd st id o') ∧ Sto X W O0 m (upd st id o') := by
  have hMz : ∀ b', Mz m (upd st id o') b' → Mz m st b' := fun b' => Mz_upd fun _ => ha
  have hchg : Chg w m st W m (upd st id o') :=
    ⟨w1, w2, w3, by omega, fun b' _ hn => w5 b' fun e => hn (by subst e; exact ⟨id, hd, ha, hm, hi⟩), MLe.refl m, fun b' h => Or.inl (hMz b' h)⟩
  have al : ∀ i, (upd st id o' i).alive = true → (st i).alive = true := fun i h => by
    by_cases e : i = id
    · subst e; exact ha
    · rwa [upd_ne _ _ e] at h
  refine ⟨hchg, hs.chg hchg ?_ (fun i hd' b' h1 h2 _ => Or.inl ⟨al i h1, h2⟩) (fun i i' hd1 hd2 b' h1 h2 => hs.inj i i' hd1 hd2 b' (al i h1) (al i' h2)) ?_⟩
  · intro i h
    by_cases e : i = id
    · subst e; rw [upd_self] at h; rw [h] at ha'; cases ha'
    · rw [upd_ne _ _ e] at h; exact hs.fresh i h
  · intro i
    by_cases e : i = id
    · subst e; rw [upd_self]; exact Or.inr (hok (hchg.monoW O0))
    · rw [upd_ne _ _ e]
      refine Or.inl ⟨rfl, rfl, fun hd' b' h1 h2 h3 => w5 b' fun e' => e ?_⟩
      subst e'
      exact hs.inj i id hd' hd b' h1 ha h2 hm h3 hi
theorem post_turn {w W : World} {O0 : Nat → Prop} {m : Asg} {st : Stor} (hs : Sto X w O0 m st) {id b c n : Nat} (ha : (st id).alive = true) (hm : m id = some (.blk b c n)) {o' : Obj} (ha' : o'.alive = true)
    (w1 : W.os = w.os) (w2 : W.tape = w.tape) (w3 : Quiet w W) (w4 : W.heap.size = w.heap.size) (w5 : ∀ b', b' ≠ b → W.heap[b']? = w.heap[b']?)
    (hok : MonoW w (Ow O0 m st) W (Ow O0 m (upd st id o')) → ObjOk W (Ow O0 m (upd st id o')) m o' (m id)) : Chg w m st W m (upd st id o') ∧ Sto X W O0 m (upd st id o') :=
  post_turn' hs ha hm mem_blk ha' w1 w2 w3 w4 w5 hok

/-- An object under a new number, its place narrowed. -/
theorem move_obj {w : World} {O0 : Nat → Prop} {m : Asg} {st : Stor} (hs : Sto X w O0 m st) {id nid : Nat} (hne : id ≠ nid) (hal : (st id).alive = true) (hf : st nid = .dead) {hd hd' : Hd} (hm : m id = some hd)
    (hsub : ∀ b ∈ hd'.blocks, b ∈ hd.blocks) {o : Obj} (ho : o ≠ .dead)
    (hok : MonoW w (Ow O0 m st) w (Ow O0 (upd m nid (some hd')) (upd (upd st id .gone) nid o)) → ObjOk w (Ow O0 (upd m nid (some hd')) (upd (upd st id .gone) nid o)) (upd m nid (some hd')) o (some hd')) :
    Chg w m st w (upd m nid (some hd')) (upd (upd st id .gone) nid o) ∧ Sto X w O0 (upd m nid (some hd')) (upd (upd st id .gone) nid o) := by
  have hmn := hs.fresh nid hf
  have sid : upd (upd st id .gone) nid o id = .gone := by rw [upd_ne _ _ hne, upd_self]
  have oth : ∀ i, i ≠ id → i ≠ nid → upd (upd st id .gone) nid o i = st i ∧ upd m nid (some hd') i = m i := fun i h1 h2 => by
    rw [upd_ne _ _ h2, upd_ne _ _ h1, upd_ne _ _ h2]; exact ⟨rfl, rfl⟩
  have hchg : Chg w m st w (upd m nid (some hd')) (upd (upd st id .gone) nid o) := by
    refine ⟨rfl, rfl, Quiet.refl _, Nat.le_refl _, fun _ _ _ => rfl, MLe.of fun i h e => ?_, fun b hb => Or.inl ?_⟩
    · have : i ≠ nid := fun e' => by subst e'; rw [hmn] at e; cases e
      rw [upd_ne _ _ this]; exact e
    · obtain ⟨i, hi, h1, h2, h3⟩ := hb
      by_cases e1 : i = nid
      · subst e1
        rw [upd_self] at h2
        cases h2
        exact ⟨id, hd, hal, hm, hsub b h3⟩
      · by_cases e2 : i = id
        · subst e2; rw [sid] at h1; cases h1
        · obtain ⟨g1, g2⟩ := oth i e2 e1
          rw [g1] at h1
          rw [g2] at h2
          exact ⟨i, hi, h1, h2, h3⟩
  refine ⟨hchg, hs.chg hchg ?_ ?_ ?_ ?_⟩
  · intro i h
    by_cases e1 : i = nid
    · subst e1; rw [upd_self] at h; exact (ho h).elim
    · by_cases e2 : i = id
      · subst e2; rw [sid] at h; cases h
      · obtain ⟨g1, g2⟩ := oth i e2 e1
        rw [g1] at h
        rw [g2]; exact hs.fresh i h
  · intro i hi b h1 h2 h3
    by_cases e1 : i = nid
    · subst e1
      rw [upd_self] at h2
      cases h2
      exact Or.inr (hs.blk id hd b hal hm (hsub b h3))
    · by_cases e2 : i = id
      · subst e2; rw [sid] at h1; cases h1
      · obtain ⟨g1, g2⟩ := oth i e2 e1
        rw [g1] at h1
        rw [g2] at h2
        exact Or.inl ⟨h1, h2⟩
  · have key : ∀ i hi b, i ≠ nid → (upd (upd st id .gone) nid o i).alive = true → upd m nid (some hd') i = some hi → b ∈ hi.blocks → b ∈ hd'.blocks → False := by
      intro i hi b e1 h1 h2 h3 h4
      by_cases e2 : i = id
      · subst e2; rw [sid] at h1; cases h1
      · obtain ⟨g1, g2⟩ := oth i e2 e1
        rw [g1] at h1
        rw [g2] at h2
        exact e2 (hs.inj i id hi hd b h1 hal h2 hm h3 (hsub b h4))
    intro i i' hi hi' b h1 h2 h3 h4 h5 h6
    by_cases e1 : i = nid
    · by_cases e2 : i' = nid
      · rw [e1, e2]
      · subst e1
        rw [upd_self] at h3
        cases h3
        exact (key i' hi' b e2 h2 h4 h6 h5).elim
    · by_cases e2 : i' = nid
      · subst e2
        rw [upd_self] at h4
        cases h4
        exact (key i hi b e1 h1 h3 h5 h6).elim
      · by_cases e3 : i = id
        · subst e3; rw [sid] at h1; cases h1
        · by_cases e4 : i' = id
          · subst e4; rw [sid] at h2; cases h2
          · obtain ⟨g1, g2⟩ := oth i e3 e1
            obtain ⟨g3, g4⟩ := oth i' e4 e2
            rw [g1] at h1
            rw [g3] at h2
            rw [g2] at h3
            rw [g4] at h4
            exact hs.inj i i' hi hi' b h1 h2 h3 h4 h5 h6
  · intro i
    by_cases e1 : i = nid
    · subst e1
      right
      rw [upd_self, upd_self]
      exact hok (hchg.monoW O0)
    · by_cases e2 : i = id
      · subst e2; right; rw [sid]; trivial
      · obtain ⟨g1, g2⟩ := oth i e2 e1
        exact Or.inl ⟨g1, g2, fun _ _ _ _ _ => rfl⟩

/-- The cells of a box, some turned. -/
def cellWrs (id off : Nat) : List V → List Wr
  | [] => []
  | c :: cs => .cell id off c :: cellWrs id (off + 1) cs

theorem over_cons {α : Type} {cs : List α} {off : Nat} {d : α} {ds : List α} (h : off + 1 + ds.length ≤ cs.length) : over (cs.set off d) (off + 1) ds = over cs off (d :: ds) := by
  unfold over
  exact list_seg_step' cs off d ds h

theorem apps_cellWrs {id : Nat} : ∀ {ds : List V} {off : Nat} {st : Stor} {cs : List V}, st id = .box cs → off + ds.length ≤ cs.length → apps st (cellWrs id off ds) = upd st id (.box (over cs off ds))
  | [], off, st, cs, h, _ => by
    funext i
    show st i = _
    by_cases e : i = id
    · subst e; rw [upd_self, h]; simp [over]
    · rw [upd_ne _ _ e]
  | d :: ds, off, st, cs, h, hl => by
    have h1 : app st (.cell id off d) = upd st id (.box (cs.set off d)) := by
      show upd st id (Wr.on _ (st id)) = _
      rw [h]; rfl
    show apps (app st (.cell id off d)) (cellWrs id (off + 1) ds) = _
    rw [h1, apps_cellWrs (cs := cs.set off d) (upd_self _ _ _) (by simp at hl ⊢; omega), upd_idem, over_cons (by simp at hl; omega)]

theorem over_length {α : Type} {cs ds : List α} {off : Nat} (h : off + ds.length ≤ cs.length) : (over cs off ds).length = cs.length := by
  simp [over]; omega

theorem take_over {α : Type} (l us : List α) (n off : Nat) (h : off + us.length ≤ n) (hn : n ≤ l.length) :
    (over l off us).take n = over (l.take n) off us := by
  unfold over
  have a1 : (l.take off).length = off := by simp; omega
  rw [List.take_append, List.take_of_length_le (by simp [a1]; omega), List.take_take, Nat.min_eq_left (by omega), List.drop_take]
  congr 2
  simp [a1]

theorem flatten_set_over {α : Type} {k : Nat} : ∀ (xs : List (List α)) (i j : Nat) (x ds : List α), (∀ y ∈ xs, y.length = k) → xs[i]? = some x → j + ds.length ≤ x.length →
    (xs.set i (over x j ds)).flatten = over xs.flatten (i * k + j) ds
  | [], i, j, x, ds, _, h, _ => by simp at h
  | y :: xs, i, j, x, ds, hk, h, hl => by
    have hy := hk y (by simp)
    cases i with
    | zero =>
      simp at h; subst h
      simp only [List.set_cons_zero, List.flatten_cons, over, Nat.zero_mul, Nat.zero_add]
      rw [List.take_append_of_le_length (by omega), List.drop_append_of_le_length (by omega)]
      simp [List.append_assoc]
    | succ i =>
      simp at h
      have ih := flatten_set_over xs i j x ds (fun z hz => hk z (by simp [hz])) h hl
      rw [List.set_cons_succ, List.flatten_cons, List.flatten_cons, ih]
      unfold over
      have e1 : (i + 1) * k + j = y.length + (i * k + j) := by rw [Nat.add_mul]; omega
      have e2 : (i + 1) * k + j + ds.length = y.length + (i * k + j + ds.length) := by omega
      rw [e2, e1, List.take_length_add_append, List.drop_length_add_append]
      simp [List.append_assoc]

/-- A store into a variable. -/
theorem TOp.storeBox {t : TypeId} {a x : Operand} (ho : o.op = .store t a x) {i : TI} (hi : TI.ok P t i) {id off len : Nat} (ha : ρ a = .ptr id off) {ds : List V}
    (hx : ∀ (w : World) (O : Nat → Prop) (m : Asg) (u : Value), relV w O m (ρ x) u → relVL w O m ds u.cells.toList ∧ OneCells u.cells.toList) (hsz : ds.length = i.size) (hl : off + ds.length ≤ len) :
    TOp P X o ρ ⟨.d (.val undef), [.blen id len], cellWrs id off ds⟩ := by
  intro w O0 m st ev hs hg hr _hc
  have ha' := hr a (by simp [ho, Op.operands])
  have hx' := hr x (by simp [ho, Op.operands])
  rw [ha] at ha'
  simp only [relV] at ha'
  obtain ⟨b, c, n, h1, h2⟩ := ha'
  obtain ⟨h3, h4⟩ := hx _ _ _ _ hx'
  obtain ⟨cs, g1, g2⟩ := hg _ (List.mem_singleton.2 rfl)
  have hob := hs.obj id
  rw [g1] at hob
  obtain ⟨hd, q1, q2⟩ := hob
  rw [h1] at q1
  cases q1
  obtain ⟨cc, T, q3, q4, q5⟩ := q2
  have l1 := relVL_length h3
  have l2 := relVL_length q5
  obtain ⟨W, hst, w1, w2, w3, w4, w5, w6⟩ := run_stores P q3 off (ev x).cells.toList (by simp only [Array.length_toList] at l1 l2 ⊢; omega) h4
  have hrun : (execOp ev o).run P w = .ok .skip W := by
    have hsize : (ev x).cells.size = i.size := by rw [← hsz]; simpa using l1
    simp only [execOp, ho, Instr.storeAt, h2, Instr.sureAddr, storeVar, Sem.run_bind, Sem.run_pure, Result.andThen_ok, hi.run_sizeOf w, hsize, ne_eq, not_true_eq_false, if_false, hst]
  rw [hrun]
  have hal : (st id).alive = true := by rw [g1]; rfl
  obtain ⟨k1, k2⟩ := post_turn hs hal h1 (o' := .box (over cs off ds)) rfl w1 w2 w3 w4 w5 fun hmono => ⟨_, h1, _, T, w6, by simpa using OneCells.over q4 h4 off, by
    have := relVL_mono (m := m) hmono (MLe.refl m) _ _ (relVL_over (off := off) q5 h3)
    simpa using this⟩
  have e := apps_cellWrs (id := id) (ds := ds) (off := off) (st := st) (cs := cs) g1 (by omega)
  show Post X w O0 m st (cellWrs id off ds) (.d (.val undef)) W undef
  refine ⟨m, ?_, ?_, by simp [relV, rel]⟩ <;> rw [e]
  · exact k1
  · exact k2

/-- A store into an element of a row. -/
theorem TOp.storeRow {t : TypeId} {a x : Operand} (ho : o.op = .store t a x) {i : TI} (hi : TI.ok P t i) {id ii k j : Nat} (ha : ρ a = .rptr id ii k j) {cs : List A} {vs : List V} {ds : List A} {st0 : Stor} {r : List Rd} {ws : List Wr}
    (hx : ∀ (w : World) (O : Nat → Prop) (m : Asg) (u : Value), relV w O m (ρ x) u → relVL w O m vs u.cells.toList) (hseal : sealC st0 vs = some (ds, r, ws)) (hok : ds.all okA = true) (hsz : ds.length = i.size) (hl : j + ds.length ≤ k)
    (hne : ∀ kk xs, Wr.obj id (.fro kk xs) ∉ ws) : TOp P X o ρ ⟨.d (.val undef), .elem id ii k cs :: r, ws ++ [.elem id ii (over cs j ds)]⟩ := by
  intro w O0 m st ev hs hg hr _hc
  have ha' := hr a (by simp [ho, Op.operands])
  have hx' := hr x (by simp [ho, Op.operands])
  rw [ha] at ha'
  simp only [relV] at ha'
  obtain ⟨hd0, b, h0, h1, h2⟩ := ha'
  have h3 := hx _ _ _ _ hx'
  have hgr : ∀ y ∈ r, agr st y := fun y hy => hg y (by simp [hy])
  obtain ⟨s1, s2, s3, s4, s5, s6, s7, s8⟩ := sealC_all hs hseal hgr h3
  obtain ⟨xs, g1, g2⟩ := hg (.elem id ii k cs) (by simp)
  obtain ⟨c, n, h1⟩ := row_root hs g1 h0 h1
  have hab := sealC_able hseal hgr
  have g1' : apps st ws id = .row k xs := by
    obtain ⟨_, _, _, _, a5⟩ := seals ws st hs hab
    rw [a5 id hne, g1]
  have hone : OneCells (ev x).cells.toList := by
    have : ∀ {as : List A} {us : List Value}, relL w (Ow O0 m (apps st ws)) as us → as.all okA = true → OneCells us := by
      intro as
      induction as with
      | nil => intro us h _; simp only [relL] at h; subst h; intro v hv; cases hv
      | cons a as ih =>
        intro us h hk
        simp only [relL, List.all_cons, Bool.and_eq_true] at h hk
        obtain ⟨v, t, rfl, e1, e2⟩ := h
        intro y hy
        rcases List.mem_cons.1 hy with rfl | hy
        · exact rel_okA e1 hk.1
        · exact ih e2 hk.2 y hy
    exact this s3 hok
  have hob := s1.obj id
  rw [g1'] at hob
  obtain ⟨hd, q1, q2⟩ := hob
  rw [h1] at q1
  cases q1
  obtain ⟨q0, q6, q7, q8, cc, T, q3, q9, q4, q5⟩ := q2
  have hcl : cs.length = k := q8 cs (List.mem_of_getElem? g2)
  have hii : ii < xs.length := (List.getElem?_eq_some_iff.1 g2).1
  have l1 := relL_length s3
  have hfit : ii * k + j + ds.length ≤ xs.length * k := by
    have : (ii + 1) * k ≤ xs.length * k := Nat.mul_le_mul_right k (by omega)
    rw [Nat.add_mul] at this; omega
  have hcap : xs.length * k ≤ cc.size := by rw [q9]; exact Nat.mul_le_mul_right k q6
  obtain ⟨W, hst, w1, w2, w3, w4, w5, w6⟩ := run_stores P q3 (ii * k + j) (ev x).cells.toList (by rw [l1]; omega) hone
  have hrun : (execOp ev o).run P w = .ok .skip W := by
    have hsize : (ev x).cells.size = i.size := by rw [← hsz, ← l1]; simp
    simp only [execOp, ho, Instr.storeAt, h2, Instr.sureAddr, storeVar, Sem.run_bind, Sem.run_pure, Result.andThen_ok, hi.run_sizeOf w, hsize, ne_eq, not_true_eq_false, if_false, hst]
  rw [hrun]
  have hal : (apps st ws id).alive = true := by rw [g1']; rfl
  obtain ⟨k1, k2⟩ := post_turn s1 hal h1 (o' := .row k (xs.set ii (over cs j ds))) rfl w1 w2 w3 w4 w5 fun hmono => by
    refine ⟨_, h1, by simpa using q0, by simpa using q6, q7, ?_, _, T, w6, ?_, ?_, ?_⟩
    · intro y hy
      rcases List.mem_or_eq_of_mem_set hy with hy | rfl
      · exact q8 y hy
      · rw [over_length (by omega)]; exact hcl
    · rw [List.size_toArray, over_length (by have := l1; have := hcap; simp only [Array.length_toList] at *; omega), Array.length_toList]; exact q9
    · simp only [List.length_set]
      rw [take_over _ _ _ _ (by rw [l1]; exact hfit) (by simpa using hcap)]
      exact OneCells.over q4 hone _
    · rw [flatten_set_over xs ii j cs ds q8 g2 (by omega)]
      simp only [List.length_set]
      rw [take_over _ _ _ _ (by rw [l1]; exact hfit) (by simpa using hcap)]
      exact relL_mono hmono _ _ (relL_over q5 s3)
  refine Post.after (X := X) s2 ?_
  have e : apps (apps st ws) [.elem id ii (over cs j ds)] = upd (apps st ws) id (.row k (xs.set ii (over cs j ds))) := by
    show upd (apps st ws) id (Wr.on _ (apps st ws id)) = _
    rw [g1']; rfl
  refine ⟨m, ?_, ?_, by simp [relV, rel]⟩ <;> rw [e]
  · exact k1
  · exact k2
/-! ### Maps -/
theorem TOp.makeMap {t : TypeId} (ho : o.op = .makeMap t none) {nid : Nat} : TOp P X o ρ ⟨.row nid, [.fresh nid], [.obj nid (.map [])]⟩ := by
  intro w O0 m st ev hs hg hr _hc
  have hf : st nid = .dead := hg (.fresh nid) (by simp)
  have hrun : (execOp ev o).run P w = .ok (.value (.map (some w.heap.size))) (w.alloc (.map #[] 0)) := by
    simp [execOp, ho, Instr.makeMap]
  rw [hrun]
  have hnew : ∀ b ∈ (Hd.mp w.heap.size).blocks, w.heap.size ≤ b ∧ b < (w.alloc (.map #[] 0)).heap.size := fun b e => by
    simp only [Hd.blocks, List.mem_singleton] at e
    subst e
    rw [size_alloc']; omega
  obtain ⟨k1, k2⟩ := new_obj hs (below_alloc w _) hf (hd := .mp w.heap.size) (o := .map []) (fun h => by cases h) hnew ⟨_, rfl, #[], 0, heap_alloc_new w _, by simp [relEs]⟩
  exact ⟨_, k1, k2, by simp only [relV]; exact ⟨_, upd_self _ _ _, rfl⟩⟩

theorem relEs_length {w : World} {O : Nat → Prop} : ∀ {xs : List (List A)} {es : List MapEntry}, relEs w O xs es → es.length = xs.length
  | [], es, h => by simp only [relEs] at h; simp [h]
  | x :: xs, es, h => by
    simp only [relEs] at h
    obtain ⟨e, r, rfl, _, h3⟩ := h
    simp [relEs_length h3]
theorem relEs_set {w : World} {O : Nat → Prop} {k v : A} {e' : MapEntry} (hk : rel w O k e'.key) (hv : rel w O v e'.val) : ∀ {xs : List (List A)} {es : List MapEntry} (n : Nat), relEs w O xs es → relEs w O (xs.set n [k, v]) (es.set n e')
  | [], es, n, h => by simp only [relEs] at h; subst h; simp [relEs]
  | x :: xs, es, n, h => by
    simp only [relEs] at h
    obtain ⟨e, r, rfl, h2, h3⟩ := h
    cases n with
    | zero => simp only [List.set_cons_zero, relEs]; exact ⟨_, _, rfl, by simp only [relL]; exact ⟨_, _, rfl, hk, _, _, rfl, hv, rfl⟩, h3⟩
    | succ n => simp only [List.set_cons_succ, relEs]; exact ⟨_, _, rfl, h2, relEs_set hk hv n h3⟩
theorem relEs_push {w : World} {O : Nat → Prop} {k v : A} {e' : MapEntry} (hk : rel w O k e'.key) (hv : rel w O v e'.val) : ∀ {xs : List (List A)} {es : List MapEntry}, relEs w O xs es → relEs w O (xs ++ [[k, v]]) (es ++ [e'])
  | [], es, h => by simp only [relEs] at h; subst h; simp only [List.nil_append, relEs]; exact ⟨_, _, rfl, by simp only [relL]; exact ⟨_, _, rfl, hk, _, _, rfl, hv, rfl⟩, rfl⟩
  | x :: xs, es, h => by
    simp only [relEs] at h
    obtain ⟨e, r, rfl, h2, h3⟩ := h
    simp only [List.cons_append, relEs]
    exact ⟨_, _, rfl, h2, relEs_push hk hv h3⟩

theorem TOp.mapUpdate {t kt et : TypeId} {x k y : Operand} (ho : o.op = .mapUpdate t x k y) (ht : P.underlying t = some (.map kt et)) {ks : Option IntKind} (hkt : P.underlying kt = some (keyD ks)) {id : Nat} (hx : ρ x = .row id) {xs ys : List (List A)} {ka va : A} (hk : dat (ρ k) = some ka)
    (hv : ∀ (w : World) (O : Nat → Prop) (m : Asg) (u : Value), relV w O m (ρ y) u → rel w O va u) (hp : pPut ks xs ka va = some ys) : TOp P X o ρ ⟨.d (.val undef), [.obj id (.map xs)], [.obj id (.map ys)]⟩ := by
  intro w O0 m st ev hs hg hr _hc
  have hst : st id = .map xs := hg (.obj id (.map xs)) (by simp)
  have hx' := hr x (by simp [ho, Op.operands])
  rw [hx] at hx'
  have hk' := rel_dat hk (hr k (by simp [ho, Op.operands]))
  have hv' := hv _ _ _ _ (hr y (by simp [ho, Op.operands]))
  obtain ⟨b, es, clock, h1, h2, h3, h4⟩ := map_at hs hst hx'
  unfold pPut at hp
  split at hp
  · rename_i hok
    obtain ⟨hik, rfl⟩ := keyOk_is hok hk'
    rw [Option.map_eq_some_iff] at hp
    obtain ⟨r, hf, hy⟩ := hp
    have hwd : ∀ ob : Go.Obj, ∀ b', b' ≠ b → (w.heap.setIfInBounds b ob)[b']? = w.heap[b']? := fun ob b' hne => by simp [Ne.symm hne]
    have hlt : b < w.heap.size := (Array.getElem?_eq_some_iff.1 h3).1
    have fin : ∀ (es' : Array MapEntry) (clock' : Nat), (Instr.mapUpdate t (ev x) (ev k) (ev y)).run P w = .ok () { w with heap := w.heap.setIfInBounds b (.map es' clock') } → (∀ (w' : World) (O' : Nat → Prop), MonoW w (Ow O0 m st) w' O' → relEs w' O' ys es'.toList) →
        Upon P (Post X w O0 m st [.obj id (.map ys)] (.d (.val undef))) w ((execOp ev o).run P w) := by
      intro es' clock' hrun hes
      have hex : (execOp ev o).run P w = .ok .skip { w with heap := w.heap.setIfInBounds b (.map es' clock') } := by
        simp only [execOp, ho, Sem.run_bind, hrun, Result.andThen_ok, Sem.run_pure]
      rw [hex]
      obtain ⟨k1, k2⟩ := post_turn' (W := { w with heap := w.heap.setIfInBounds b (.map es' clock') }) hs (id := id) (by rw [hst]; rfl) h1 (b := b) (by simp [Hd.blocks]) (o' := .map ys) rfl rfl rfl ⟨rfl, Nat.le_refl _⟩ (by simp) (hwd _) fun hmono =>
        ⟨_, h1, es', clock', by simp [hlt], hes _ _ hmono⟩
      exact ⟨m, k1, k2, by simp [relV, rel]⟩
    rcases mFind_ok h4 hf with ⟨rfl, q2⟩ | ⟨n, a, e, rfl, q2, q3, q4, q5, q6⟩
    · refine fin (es.push { key := ev k, val := ev y, born := clock }) (clock + 1) ?_ fun w' O' hmono => ?_
      · unfold Instr.mapUpdate
        rw [h2]
        simp only [Sem.run_bind, run_underlying ht, Result.andThen_ok, MapKept.run_getObj_map h3, run_checkKey hkt hik, run_findKey hkt q2, MapKept.run_setObj_map _ h3]
      · rw [← hy, Array.toList_push]
        exact relEs_push (by simp [rel]) (rel_mono hmono _ _ hv') (relEs_mono hmono _ _ h4)
    · refine fin (es.modify n fun e => { e with key := ev k, val := ev y }) clock ?_ fun w' O' hmono => ?_
      · have hj : es[n]? = some e := by simpa using q3
        unfold Instr.mapUpdate
        rw [h2]
        simp only [Sem.run_bind, run_underlying ht, Result.andThen_ok, MapKept.run_getObj_map h3, run_checkKey hkt hik, run_findKey hkt q2, Nat.zero_add, hj, Option.map_some, Option.getD_some, q4, run_keyThatStays hik, MapKept.run_setObj_map _ h3]
      · rw [← hy]
        simp only [Nat.zero_add]
        have e1 : (es.modify n fun e => { e with key := ev k, val := ev y }).toList = es.toList.set n { e with key := ev k, val := ev y } := by
          rw [Array.toList_modify, List.modify_eq_set, q3]
          rfl
        rw [e1]
        exact relEs_set (by simp [rel]) (rel_mono hmono _ _ hv') n (relEs_mono hmono _ _ h4)
  · cases hp
end
end
end Go.Proofs.YtnbjmmldjggkfaaGreat.Abs
