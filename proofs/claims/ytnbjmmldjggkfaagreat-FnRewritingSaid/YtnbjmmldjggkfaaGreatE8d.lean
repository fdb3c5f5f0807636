/- CALLS THAT READ OBJECTS OFF AS DATA and hand back rows of their own, with nothing but numbers and strings in them. -/
import Derived.Test.YtnbjmmldjggkfaaGreatE8c
namespace Go.Proofs.YtnbjmmldjggkfaaGreat.Abs
open Go Go.RowKit
noncomputable section

mutual
def flatV : V → Bool
  | .d a => flatA a
  | .agg cs => flatVL cs
  | .tup cs => flatVL cs
  | .fn _ cs => flatVL cs
  | .sub _ _ _ _ => false
  | _ => true
def flatVL : List V → Bool
  | [] => true
  | c :: cs => flatV c && flatVL cs
end

section
variable {w : World} {O O' : Nat → Prop} {m : Asg}
mutual
theorem relV_flat : ∀ (v : V) (u : Value), flatV v = true → relV w O m v u → relV w O' m v u
  | .top, _, _, _ => by simp [relV]
  | .nil _, u, _, hr => by simpa [relV] using hr
  | .d a, u, hf, hr => by simp only [flatV] at hf; simp only [relV] at hr ⊢; exact rel_flat a u hf hr
  | .agg cs, u, hf, hr => by
    simp only [flatV] at hf
    simp only [relV] at hr ⊢
    obtain ⟨vs, h1, h2⟩ := hr
    exact ⟨vs, h1, relVL_flat cs vs hf h2⟩
  | .tup cs, u, hf, hr => by
    simp only [flatV] at hf
    simp only [relV] at hr ⊢
    obtain ⟨vs, h1, h2⟩ := hr
    exact ⟨vs, h1, relVL_flat cs vs hf h2⟩
  | .fn f cs, u, hf, hr => by
    simp only [flatV] at hf
    simp only [relV] at hr ⊢
    obtain ⟨vs, h1, h2⟩ := hr
    exact ⟨vs, h1, relVL_flat cs vs hf h2⟩
  | .ptr _ _, u, _, hr => by simpa [relV] using hr
  | .row _, u, _, hr => by simpa [relV] using hr
  | .rptr _ _ _ _, u, _, hr => by simpa [relV] using hr
  | .win _ _ _ _, u, _, hr => by simpa [relV] using hr
  | .ub _ _, u, _, hr => by simpa [relV] using hr
  | .sub _ _ _ _, u, hf, _ => by simp [flatV] at hf
theorem relVL_flat : ∀ (cs : List V) (us : List Value), flatVL cs = true → relVL w O m cs us → relVL w O' m cs us
  | [], us, _, hr => by simpa [relVL] using hr
  | c :: cs, us, hf, hr => by
    simp only [flatVL, Bool.and_eq_true] at hf
    simp only [relVL] at hr ⊢
    obtain ⟨v, r, h1, h2, h3⟩ := hr
    exact ⟨v, r, h1, relV_flat c v hf.1 h2, relVL_flat cs r hf.2 h3⟩
end

theorem relL_flatL : ∀ {cs : List A} {us : List Value}, cs.all flatA = true → relL w O cs us → relL w O' cs us
  | [], us, _, h => by simpa [relL] using h
  | c :: cs, us, hf, h => by
    simp only [List.all_cons, Bool.and_eq_true] at hf
    simp only [relL] at h ⊢
    obtain ⟨v, r, h1, h2, h3⟩ := h
    exact ⟨v, r, h1, rel_flat c v hf.1 h2, relL_flatL hf.2 h3⟩
end

/-- A tree that is taken as one in the making. -/
def Hd.thaw (th : Bool) : Hd → Hd
  | .tre f b c n ks => .tre (f && !th) b c n ks
  | h => h
def thO (th : Bool) : Abs.Obj → Abs.Obj
  | .tre f k xs => .tre (f && !th) k xs
  | o => o
theorem Hd.thaw_blocks (th : Bool) (h : Hd) : (h.thaw th).blocks = h.blocks := by cases h <;> simp [Hd.thaw, Hd.blocks]
theorem Hd.thaw_hdr {th : Bool} {h : Hd} {v : Value} (k : hdr h v) : hdr (h.thaw th) v := by cases h <;> exact k
theorem Hd.thaw_root (th : Bool) (h : Hd) : (h.thaw th).root = h.root := by cases h <;> rfl
theorem thO_alive (th : Bool) (o : Abs.Obj) : (thO th o).alive = o.alive := by cases o <;> rfl
theorem treOk_thaw {w : World} {th : Bool} {k : Nat} {xs : List (List A)} {hd : Hd} (h : treOk w true k xs hd) : treOk w (true && !th) k xs (hd.thaw th) := by
  cases hd with
  | none => simpa [treOk, Hd.thaw] using h
  | blk => simp [treOk] at h
  | mp => simp [treOk] at h
  | tre f' b c n ks => simp only [treOk, Hd.thaw] at h ⊢; exact ⟨by rw [h.1], h.2⟩
section
variable {w : World} {O : Nat → Prop} {m : Asg}
mutual
theorem relV_thaw (th : Bool) : ∀ (v : V) (u : Value), flatV v = true → relV w O m v u → relV w O (fun i => (m i).map (Hd.thaw th)) v u
  | .top, _, _, _ => by simp [relV]
  | .nil _, u, _, hr => by simpa [relV] using hr
  | .d a, u, _, hr => by simpa [relV] using hr
  | .agg cs, u, hf, hr => by
    simp only [flatV] at hf
    simp only [relV] at hr ⊢
    obtain ⟨vs, h1, h2⟩ := hr
    exact ⟨vs, h1, relVL_thaw th cs vs hf h2⟩
  | .tup cs, u, hf, hr => by
    simp only [flatV] at hf
    simp only [relV] at hr ⊢
    obtain ⟨vs, h1, h2⟩ := hr
    exact ⟨vs, h1, relVL_thaw th cs vs hf h2⟩
  | .fn f cs, u, hf, hr => by
    simp only [flatV] at hf
    simp only [relV] at hr ⊢
    obtain ⟨vs, h1, h2⟩ := hr
    exact ⟨vs, h1, relVL_thaw th cs vs hf h2⟩
  | .ptr id off, u, _, hr => by
    simp only [relV] at hr ⊢
    obtain ⟨b, c, n, h1, h2⟩ := hr
    exact ⟨b, c, n, by rw [h1]; rfl, h2⟩
  | .row id, u, _, hr => by
    simp only [relV] at hr ⊢
    obtain ⟨hd, h1, h2⟩ := hr
    exact ⟨hd.thaw th, by rw [h1]; rfl, Hd.thaw_hdr h2⟩
  | .rptr id i k j, u, _, hr => by
    simp only [relV] at hr ⊢
    obtain ⟨hd, b, h1, h2, h3⟩ := hr
    exact ⟨hd.thaw th, b, by rw [h1]; rfl, (Hd.thaw_root th hd).trans h2, h3⟩
  | .win id k off n, u, _, hr => by
    simp only [relV] at hr ⊢
    obtain ⟨hd, h1, h2⟩ := hr
    refine ⟨hd.thaw th, by rw [h1]; rfl, ?_⟩
    cases hd <;> exact h2
  | .ub _ _, u, _, hr => by simpa [relV] using hr
  | .sub _ _ _ _, u, hf, _ => by simp [flatV] at hf
theorem relVL_thaw (th : Bool) : ∀ (cs : List V) (us : List Value), flatVL cs = true → relVL w O m cs us → relVL w O (fun i => (m i).map (Hd.thaw th)) cs us
  | [], us, _, hr => by simpa [relVL] using hr
  | c :: cs, us, hf, hr => by
    simp only [flatVL, Bool.and_eq_true] at hf
    simp only [relVL] at hr ⊢
    obtain ⟨v, r, h1, h2, h3⟩ := hr
    exact ⟨v, r, h1, relV_thaw th c v hf.1 h2, relVL_thaw th cs r hf.2 h3⟩
end
end

def flatR (xs : List (List A)) : Bool := xs.all fun x => x.all flatA
theorem flatR_flatten {xs : List (List A)} (h : flatR xs = true) : xs.flatten.all flatA = true := by
  unfold flatR at h
  rw [List.all_eq_true] at h ⊢
  intro a ha
  obtain ⟨x, hx, ha⟩ := List.mem_flatten.1 ha
  exact List.all_eq_true.1 (h x hx) a ha

/-- Rows with nothing but numbers and strings in them, or with all that their cells lead to. -/
def flatRs : List Nat → List (List (List A)) → Bool
  | k :: ks, r :: rs => (Nat.ble 64 k || flatR r) && flatRs ks rs
  | _, _ => true
theorem flatRs_get : ∀ {ks : List Nat} {rs : List (List (List A))} {j k : Nat} {r : List (List A)}, flatRs ks rs = true → rs[j]? = some r → ks[j]? = some k → Nat.blt k 64 = true → flatR r = true
  | [], _, _, _, _, _, _, h, _ => by simp at h
  | _ :: _, [], _, _, _, _, h, _, _ => by simp at h
  | k0 :: ks, r0 :: rs, j, k, r, h, h1, h2, h3 => by
    simp only [flatRs, Bool.and_eq_true, Bool.or_eq_true] at h
    cases j with
    | zero =>
      simp at h1 h2
      subst h1 h2
      rcases h.1 with h | h
      · rw [Nat.blt_eq] at h3
        rw [Nat.ble_eq] at h
        omega
      · exact h
    | succ j => exact flatRs_get h.2 (by simpa using h1) (by simpa using h2) h3

theorem TOp.rdcall {P : Program} {X : Ctx} {o : Oper} {ρ : Operand → V} {f : Operand} {xs : Array Operand} {ts : Array TypeId} (ho : o.op = .call { callee := .value f, args := xs, argTypes := ts }) {g : FuncId} {as0 : List A} {rds : List Rd} {sg : SigA} {out : Out}
    (hp : SOk X P g (as0.map V.d) [] sg out) (hws : sg.ws = [])
    (hargs : ∀ (w : World) (O0 : Nat → Prop) (m : Asg) (st : Stor) (ev : Operand → Value), Sto X w O0 m st → (∀ r ∈ rds, agr st r) → (∀ x ∈ o.op.operands, relV w (Ow O0 m st) m (ρ x) (ev x)) →
      ∃ us : List Value, ev f = .func (.func g) #[] us.toArray ∧ relL w (Oc O0 m st rds) as0 (xs.toList.map ev ++ us))
    {as : List A} {rs : List (List (List A))} (hh : HolesOk sg out as rs) (hf1 : flatV (sg.r.toV as) = true) (hf2 : flatRs sg.ks rs = true) (h128 : sg.ks.all (fun k => Nat.blt k 128) = true) {nid : Nat} {th : Bool} :
    TOp P X o ρ ⟨bk (ups nid sg.nw.length) (sg.r.toV as), rds ++ frRds (ups nid sg.nw.length), zipW (ups nid sg.nw.length) ((sg.objs as rs).map fun o => thO th (bkO (ups nid sg.nw.length) o))⟩ := by
  intro w O0 m st ev hs hg hr _hc
  have hg1 : ∀ r ∈ rds, agr st r := fun r hr => hg r (List.mem_append_left _ hr)
  have hfr := frRds_agr (st := st) (l := ups nid sg.nw.length) fun r hr => hg r (List.mem_append_right _ hr)
  obtain ⟨us, h1, h2⟩ := hargs w O0 m st ev hs hg1 hr
  have hst0 : ∀ i, stOf ([] : List Abs.Obj) i = .dead := fun i => stOf_none (Nat.zero_le _)
  have hmz0 : ∀ b, ¬ Mz (fun _ => none) (stOf ([] : List Abs.Obj)) b := fun b ⟨_, _, _, hm, _⟩ => by cases hm
  have hOw0 : Ow (Oc O0 m st rds) (fun _ => none) (stOf ([] : List Abs.Obj)) = Oc O0 m st rds := by
    funext b
    exact propext ⟨fun h => h.elim (fun h => h) fun h => (hmz0 b h).elim, fun h => Or.inl h⟩
  have hsc : Sto X w (Oc O0 m st rds) (fun _ => none) (stOf ([] : List Abs.Obj)) := by
    refine ⟨hs.j, Oc_ctx hs hg1, fun _ _ => rfl, Oc_lt hs, fun id hd b _ h _ => (by cases h), fun id id' hd hd' b _ _ h _ _ _ => (by cases h), fun id => ?_⟩
    rw [hst0]; trivial
  have hrel : relVL w (Ow (Oc O0 m st rds) (fun _ => none) (stOf ([] : List Abs.Obj))) (fun _ => none) (as0.map V.d) (xs.toList.map ev ++ us) := by
    rw [hOw0]
    have : ∀ {as : List A} {us : List Value}, relL w (Oc O0 m st rds) as us → relVL w (Oc O0 m st rds) (fun _ => none) (as.map V.d) us := by
      intro as
      induction as with
      | nil => intro us h; simpa [relL, relVL] using h
      | cons a as ih =>
        intro us h
        simp only [relL] at h
        obtain ⟨v, r, rfl, e1, e2⟩ := h
        simp only [List.map_cons, relVL, relV]
        exact ⟨v, r, rfl, e1, ih e2⟩
    exact this h2
  rw [call_enters ho h1 hp.1 w]
  refine ⟨rfl, (hp.2 w _ _ _ hsc (fun i hi => (by simp at hi)) hrel).mono ?_⟩
  rintro e w' ⟨v, rfl, as', rs', mc', hh', ⟨q1, q2, q3, q4⟩, hkeep, hnew, _, hs', hv⟩
  obtain ⟨rfl, rfl⟩ := hh.eq hh'
  dsimp only [Post]
  have hkeep : ∀ b, b < w.heap.size → w'.heap[b]? = w.heap[b]? := fun b hb => hkeep b hb (hmz0 b)
  have hnew : ∀ b, Mz mc' (stOf (sg.objs as' rs')) b → w.heap.size ≤ b := fun b hb => (hnew b hb).resolve_left (hmz0 b)
  have hrows : ∀ o ∈ sg.objs as' rs', (∃ k xs, o = Abs.Obj.row k xs ∧ flatR xs = true) ∨ ∃ k xs, o = Abs.Obj.tre true k xs := by
    intro o ho'
    simp only [SigA.objs, SigA.objsB, hws, List.map_nil, List.nil_append, List.mem_map] at ho'
    obtain ⟨j, _, rfl⟩ := ho'
    have h7 : Nat.blt (sg.ks.getD j 0) 128 = true := by
      rw [List.getD_eq_getElem?_getD]
      cases hq : sg.ks[j]? with
      | none => rfl
      | some q => exact List.all_eq_true.1 h128 q (List.mem_of_getElem? hq)
    have h8 : Nat.blt (sg.ks.getD j 0) 256 = true := by rw [Nat.blt_eq] at h7 ⊢; omega
    unfold rowO rowK mkRow
    rw [h8, cond_true]
    cases hk : Nat.blt (sg.ks.getD j 0) 64 with
    | false =>
      refine Or.inr ?_
      have h9 : Nat.beq (sg.ks.getD j 0) 128 = false := by
        cases h : Nat.beq (sg.ks.getD j 0) 128 with
        | false => rfl
        | true => rw [Nat.blt_eq, Nat.eq_of_beq_eq_true h] at h7; omega
      simp only [cond_false, h9]
      exact ⟨_, _, rfl⟩
    | true =>
      refine Or.inl ⟨_, _, rfl, ?_⟩
      rw [List.getD_eq_getElem?_getD (l := rs')]
      cases hj : rs'[j]? with
      | none => rfl
      | some r =>
        have hlt : j < sg.ks.length := by rw [← hh.lr]; exact (List.getElem?_eq_some_iff.1 hj).1
        have hkj : sg.ks[j]? = some sg.ks[j] := List.getElem?_eq_getElem hlt
        refine flatRs_get hf2 hj hkj ?_
        rw [List.getD_eq_getElem?_getD, hkj] at hk
        exact hk
  generalize htot : ups nid sg.nw.length = tot at *
  generalize hobj : sg.objs as' rs' = objs' at *
  have hol : objs'.length = tot.length := by rw [← hobj, ← htot]; simp [SigA.objs, SigA.objsB, ups_length, hws]
  have htn : tot.Nodup := by rw [← htot]; exact ups_nodup _ _
  obtain ⟨za, zb⟩ := apps_zipW tot (objs'.map fun o => thO th (bkO tot o)) st htn (by simp [hol])
  generalize hst2 : apps st (zipW tot (objs'.map fun o => thO th (bkO tot o))) = st2 at *
  have zr : ∀ q id, tot[q]? = some id → ∃ o : Abs.Obj, st2 id = thO th o ∧ stOf objs' q = o ∧ o.alive = true ∧ ((∃ k xs, o = Abs.Obj.row k xs ∧ flatR xs = true) ∨ ∃ k xs, o = Abs.Obj.tre true k xs) := fun q id hq => by
    have hlt : q < objs'.length := by rw [hol]; exact (List.getElem?_eq_some_iff.mp hq).1
    have hget : objs'[q]? = some objs'[q] := List.getElem?_eq_getElem hlt
    have hr := hrows objs'[q] (List.getElem_mem _)
    refine ⟨objs'[q], ?_, stOf_some hget, by rcases hr with ⟨k, xs, e, _⟩ | ⟨k, xs, e⟩ <;> rw [e] <;> rfl, hr⟩
    rw [za q id _ hq (by rw [List.getElem?_map, hget]; rfl)]
    rcases hr with ⟨k, xs, e, _⟩ | ⟨k, xs, e⟩ <;> rw [e] <;> rfl
  refine ⟨v, rfl, fun id => match idxN id tot 0 with | some q => (mc' q).map (Hd.thaw th) | none => m id, ?_⟩
  generalize hm2 : ((fun id => match idxN id tot 0 with | some q => (mc' q).map (Hd.thaw th) | none => m id) : Asg) = m2
  have ma : ∀ q id, tot[q]? = some id → m2 id = (mc' q).map (Hd.thaw th) := fun q id hq => by rw [← hm2]; simp only [idxN_get htn hq]
  have mb : ∀ id, id ∉ tot → m2 id = m id := fun id hid => by rw [← hm2]; simp only [idxN_not hid]
  have mt : ∀ q id hd, tot[q]? = some id → m2 id = some hd → ∃ h0, mc' q = some h0 ∧ h0.blocks = hd.blocks := fun q id hd hq h => by
    rw [ma q id hq] at h
    obtain ⟨h0, e1, e2⟩ := Option.map_eq_some_iff.1 h
    exact ⟨h0, e1, by rw [← e2, Hd.thaw_blocks]⟩
  have tdead : ∀ id ∈ tot, m id = none ∧ st id = .dead := fun id h => ⟨hs.fresh id (hfr id h), hfr id h⟩
  have mz2 : ∀ b, Mz m2 st2 b → Mz mc' (stOf objs') b ∨ Mz m st b := by
    rintro b ⟨id, hd, ha, hm, hi⟩
    by_cases hid : id ∈ tot
    · obtain ⟨q, hq⟩ := List.mem_iff_getElem?.mp hid
      obtain ⟨o, e1, e2, e3, _⟩ := zr q id hq
      obtain ⟨h0, hm, hb⟩ := mt q id hd hq hm
      exact Or.inl ⟨q, h0, by rw [e2]; exact e3, hm, by rw [hb]; exact hi⟩
    · rw [zb id hid] at ha
      rw [mb id hid] at hm
      exact Or.inr ⟨id, hd, ha, hm, hi⟩
  have hchg : Chg w m st w' m2 st2 := by
    refine ⟨q1, q2, q3, q4, fun b hb _ => hkeep b hb, MLe.of ?_, ?_⟩
    · intro id h e
      by_cases hid : id ∈ tot
      · rw [(tdead id hid).1] at e; cases e
      · rw [mb id hid]; exact e
    · intro b hb
      rcases mz2 b hb with hb | hb
      · exact Or.inr (hnew b hb)
      · exact Or.inl hb
  have mzlt : ∀ b, Mz m st b → b < w.heap.size := fun b ⟨id, hd, ha, hm, hi⟩ => (hs.blk id hd b ha hm hi).1
  have hbk : ∀ q id, tot[q]? = some id → ∀ hd, (fun i => (mc' i).map (Hd.thaw th)) q = some hd → m2 id = some hd := fun q id hq hd h => by rw [ma q id hq]; exact h
  refine ⟨hchg, hs.chg hchg ?_ ?_ ?_ ?_, bk_rel (MonoW.refl _ _) hbk _ _ (relV_thaw th _ _ hf1 (relV_flat _ _ hf1 hv))⟩
  · intro id hd
    by_cases hid : id ∈ tot
    · obtain ⟨q, hq⟩ := List.mem_iff_getElem?.mp hid
      obtain ⟨o, e1, _, e3, _⟩ := zr q id hq
      rw [e1] at hd
      have := thO_alive th o
      rw [hd, e3] at this
      cases this
    · rw [zb id hid] at hd
      rw [mb id hid]
      exact hs.fresh id hd
  · intro id hd b ha hm hi
    by_cases hid : id ∈ tot
    · obtain ⟨q, hq⟩ := List.mem_iff_getElem?.mp hid
      obtain ⟨o, e1, e2, e3, _⟩ := zr q id hq
      obtain ⟨h0, hm, hb⟩ := mt q id hd hq hm
      rw [← hb] at hi
      have hmz : Mz mc' (stOf objs') b := ⟨q, h0, by rw [e2]; exact e3, hm, hi⟩
      have h3 := hs'.blk q h0 b (by rw [e2]; exact e3) hm hi
      exact Or.inr ⟨h3.1, fun h => by have := hs.old b h; have := hnew b hmz; omega⟩
    · rw [zb id hid] at ha
      rw [mb id hid] at hm
      exact Or.inl ⟨ha, hm⟩
  · intro id id' hd hd' b ha ha' hm hm' hi hi'
    have key : ∀ id id' hd hd', id ∈ tot → id' ∉ tot → (st2 id').alive = true → m2 id = some hd → m2 id' = some hd' → b ∈ hd.blocks → b ∈ hd'.blocks → False := by
      intro id id' hd hd' hid hid' ha' hm hm' hi hi'
      obtain ⟨q, hq⟩ := List.mem_iff_getElem?.mp hid
      obtain ⟨o, e1, e2, e3, _⟩ := zr q id hq
      obtain ⟨h0, hm, hb⟩ := mt q id hd hq hm
      have := hnew b ⟨q, h0, by rw [e2]; exact e3, hm, by rw [hb]; exact hi⟩
      rw [zb id' hid'] at ha'
      rw [mb id' hid'] at hm'
      have := mzlt b ⟨id', hd', ha', hm', hi'⟩
      omega
    by_cases hid : id ∈ tot
    · by_cases hid' : id' ∈ tot
      · obtain ⟨q, hq⟩ := List.mem_iff_getElem?.mp hid
        obtain ⟨q', hq'⟩ := List.mem_iff_getElem?.mp hid'
        obtain ⟨o, e1, e2, e3, _⟩ := zr q id hq
        obtain ⟨o', e1', e2', e3', _⟩ := zr q' id' hq'
        obtain ⟨h0, hm, hb⟩ := mt q id hd hq hm
        obtain ⟨h0', hm', hb'⟩ := mt q' id' hd' hq' hm'
        have := hs'.inj q q' h0 h0' b (by rw [e2]; exact e3) (by rw [e2']; exact e3') hm hm' (by rw [hb]; exact hi) (by rw [hb']; exact hi')
        subst this
        rw [hq] at hq'
        cases hq'
        rfl
      · exact (key id id' hd hd' hid hid' ha' hm hm' hi hi').elim
    · by_cases hid' : id' ∈ tot
      · exact (key id' id hd' hd hid' hid ha hm' hm hi' hi).elim
      · rw [zb id hid] at ha
        rw [mb id hid] at hm
        rw [zb id' hid'] at ha'
        rw [mb id' hid'] at hm'
        exact hs.inj id id' hd hd' b ha ha' hm hm' hi hi'
  · intro id
    by_cases hid : id ∈ tot
    · right
      obtain ⟨q, hq⟩ := List.mem_iff_getElem?.mp hid
      obtain ⟨o, e1, e2, _, e3⟩ := zr q id hq
      have ho := hs'.obj q
      rw [e2] at ho
      rw [e1, ma q id hq]
      rcases e3 with ⟨k, xs, rfl, e3⟩ | ⟨k, xs, rfl⟩
      · obtain ⟨hd, g1, g2⟩ := ho
        refine ⟨hd.thaw th, by rw [g1]; rfl, ?_⟩
        cases hd with
        | none => exact g2
        | tre => exact g2.elim
        | mp => exact g2.elim
        | blk b c n =>
          obtain ⟨k0, k1, k2, k3, cc, T, k4, k5, k6, k7⟩ := g2
          exact ⟨k0, k1, k2, k3, cc, T, k4, k5, k6, relL_flatL (flatR_flatten e3) k7⟩
      · obtain ⟨hd, g1, g2, g3⟩ := ho
        exact ⟨hd.thaw th, by rw [g1]; rfl, treOk_thaw g2, by rw [Hd.thaw_blocks]; exact g3⟩
    · left
      refine ⟨zb id hid, mb id hid, fun hd b ha hm hi => ?_⟩
      exact hkeep b (hs.blk id hd b ha hm hi).1
end
end Go.Proofs.YtnbjmmldjggkfaaGreat.Abs
