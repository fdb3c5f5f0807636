/- CALLS THAT HAND OBJECTS ON (2): the caller's store behind the call. -/
import Derived.Test.YtnbjmmldjggkfaaGreatE8b
namespace Go.Proofs.YtnbjmmldjggkfaaGreat.Abs
open Go Go.RowKit
noncomputable section

def ups : Nat → Nat → List Nat
  | _, 0 => []
  | n, k + 1 => n :: ups (n + 1) k

def idRds (st : Stor) : List Nat → List Rd
  | [] => []
  | id :: l => .obj id (st id) :: idRds st l
def frRds : List Nat → List Rd
  | [] => []
  | id :: l => .fresh id :: frRds l
def zipW : List Nat → List Abs.Obj → List Wr
  | id :: l, o :: os => .obj id o :: zipW l os
  | _, _ => []

theorem ups_mem : ∀ {k n i : Nat}, i ∈ ups n k ↔ n ≤ i ∧ i < n + k
  | 0, n, i => by simp only [ups, List.not_mem_nil, Nat.add_zero, false_iff]; omega
  | k + 1, n, i => by simp only [ups, List.mem_cons, ups_mem]; omega
theorem ups_length : ∀ (k n : Nat), (ups n k).length = k
  | 0, _ => rfl
  | k + 1, n => by simp [ups, ups_length k]
theorem ups_nodup : ∀ (k n : Nat), (ups n k).Nodup
  | 0, _ => List.nodup_nil
  | k + 1, n => List.nodup_cons.mpr ⟨fun h => by have := ups_mem.mp h; omega, ups_nodup k _⟩

theorem idRds_agr {st0 st : Stor} : ∀ {l : List Nat}, (∀ r ∈ idRds st0 l, agr st r) → ∀ id ∈ l, st id = st0 id
  | [], _, _, h => by cases h
  | i :: l, hg, id, h => by
    rcases List.mem_cons.mp h with rfl | h
    · exact hg (.obj id (st0 id)) (by simp [idRds])
    · exact idRds_agr (l := l) (fun r hr => hg r (by simp [idRds, hr])) id h
theorem idRds_self {st : Stor} : ∀ {l : List Nat}, ∀ r ∈ idRds st l, agr st r
  | [], _, h => by cases h
  | i :: l, r, h => by
    simp only [idRds, List.mem_cons] at h
    rcases h with rfl | h
    · rfl
    · exact idRds_self r h
theorem frRds_agr {st : Stor} : ∀ {l : List Nat}, (∀ r ∈ frRds l, agr st r) → ∀ id ∈ l, st id = .dead
  | [], _, _, h => by cases h
  | i :: l, hg, id, h => by
    rcases List.mem_cons.mp h with rfl | h
    · exact hg (.fresh id) (by simp [frRds])
    · exact frRds_agr (l := l) (fun r hr => hg r (by simp [frRds, hr])) id h
theorem frRds_of {st : Stor} : ∀ {l : List Nat}, (∀ id ∈ l, st id = .dead) → ∀ r ∈ frRds l, agr st r
  | [], _, _, h => by cases h
  | i :: l, hg, r, h => by
    simp only [frRds, List.mem_cons] at h
    rcases h with rfl | h
    · exact hg i (by simp)
    · exact frRds_of (fun id hid => hg id (by simp [hid])) r h

theorem apps_zipW : ∀ (tot : List Nat) (os : List Abs.Obj) (st : Stor), tot.Nodup → tot.length = os.length →
    (∀ (q id : Nat) (o : Abs.Obj), tot[q]? = some id → os[q]? = some o → apps st (zipW tot os) id = o) ∧ (∀ id, id ∉ tot → apps st (zipW tot os) id = st id)
  | [], _, st, _, _ => ⟨fun q id o h => by simp at h, fun _ _ => rfl⟩
  | i :: tot, [], st, _, h => by cases h
  | i :: tot, o :: os, st, hn, hl => by
    obtain ⟨hn1, hn2⟩ := List.nodup_cons.mp hn
    obtain ⟨h1, h2⟩ := apps_zipW tot os (upd st i o) hn2 (by simpa using hl)
    have e : apps st (zipW (i :: tot) (o :: os)) = apps (upd st i o) (zipW tot os) := rfl
    rw [e]
    refine ⟨fun q id o' hq ho => ?_, fun id hid => ?_⟩
    · cases q with
      | zero =>
        simp at hq ho
        subst hq ho
        rw [h2 i hn1, upd_self]
      | succ q => exact h1 q id o' (by simpa using hq) (by simpa using ho)
    · rw [h2 id (fun h => hid (by simp [h])), upd_ne _ _ (fun h => hid (by simp [h]))]

theorem idxN_get {x : Nat} {l : List Nat} (hn : l.Nodup) {q : Nat} (h : l[q]? = some x) : idxN x l 0 = some q := by
  cases hi : idxN x l 0 with
  | none =>
    exfalso
    have : ∀ (l : List Nat) (i : Nat), idxN x l i = none → x ∉ l := by
      intro l
      induction l with
      | nil => intro i _ h; cases h
      | cons y ys ih =>
        intro i hi hm
        simp only [idxN] at hi
        split at hi
        · cases hi
        · rename_i hb
          rcases List.mem_cons.mp hm with rfl | hm
          · simp at hb
          · exact ih _ hi hm
    exact this l 0 hi (List.mem_of_getElem? h)
  | some j =>
    obtain ⟨q', e, h'⟩ := idxN_some hi
    have := (List.getElem?_inj (List.getElem?_eq_some_iff.mp h').1 hn).mp (h'.trans h.symm)
    congr 1
    omega

theorem idxN_not {x : Nat} {l : List Nat} (h : x ∉ l) : idxN x l 0 = none := by
  cases hi : idxN x l 0 with
  | none => rfl
  | some j =>
    obtain ⟨q, _, h'⟩ := idxN_some hi
    exact absurd (List.mem_of_getElem? h') h

theorem HolesOk.eq {sg : SigA} {o : Out} {as as' : List A} {rs rs' : List (List (List A))} (h : HolesOk sg o as rs) (h' : HolesOk sg o as' rs') : as' = as ∧ rs' = rs := by
  have la := h.la
  have la' := h'.la
  have lr := h.lr
  have lr' := h'.lr
  constructor
  · refine List.ext_getElem? fun i => ?_
    by_cases hi : i < sg.nd
    · have e1 : as[i]? = some as[i] := List.getElem?_eq_getElem (by omega)
      have e2 : as'[i]? = some as'[i] := List.getElem?_eq_getElem (by omega)
      have := (h.da i _ e1).symm.trans (h'.da i _ e2)
      rw [e1, e2]; exact this.symm
    · rw [List.getElem?_eq_none (by omega), List.getElem?_eq_none (by omega)]
  · refine List.ext_getElem? fun i => ?_
    by_cases hi : i < sg.ks.length
    · have hi1 : i < rs.length := by omega
      have hi2 : i < rs'.length := by omega
      have e1 : rs[i]? = some rs[i] := List.getElem?_eq_getElem hi1
      have e2 : rs'[i]? = some rs'[i] := List.getElem?_eq_getElem hi2
      have e3 : sg.ks[i]? = some sg.ks[i] := List.getElem?_eq_getElem hi
      have := (h.dr i _ _ e1 e3).symm.trans (h'.dr i _ _ e2 e3)
      rw [e1, e2]; exact this.symm
    · rw [List.getElem?_eq_none (by omega), List.getElem?_eq_none (by omega)]

theorem objs_notdead {sg : SigA} {as : List A} {rs : List (List (List A))} {q : Nat} {o : Abs.Obj} (h : (sg.objs as rs)[q]? = some o) : o ≠ .dead := by
  have := List.mem_of_getElem? h
  simp only [SigA.objs, SigA.objsB, List.mem_append, List.mem_map] at this
  rcases this with ⟨x, _, rfl⟩ | ⟨j, _, rfl⟩
  · cases x with
    | cons => intro h; cases h
    | io j => exact rowK_ne _ _ _
    | box l => intro h; cases h
  · exact rowK_ne _ _ _

/-- The caller's store behind the call. -/
theorem TOp.stcall {keep : Bool} {P : Program} {X : Ctx} {o : Oper} {ρ : Operand → V} {f : Operand} {xs : Array Operand} {ts : Array TypeId} (ho : o.op = .call { callee := .value f, args := xs, argTypes := ts }) {g : FuncId} {st0 : Stor} {vs vs2 : List V} {ids : List Nat} {objs : List Abs.Obj} {p : Nat} {sg : SigA} {out : Out}
    (hp : SOk X P g vs2 objs sg out) (hprep : prepCall keep st0 vs = some (ids, vs2, objs, p)) (hlive : objs.all liveO = true) (hws : sg.ws.length = objs.length)
    (hargs : ∀ (w : World) (O0 : Nat → Prop) (m : Asg) (st : Stor) (ev : Operand → Value), Sto X w O0 m st → (∀ x ∈ o.op.operands, relV w (Ow O0 m st) m (ρ x) (ev x)) →
      ∃ us : List Value, ev f = .func (.func g) #[] us.toArray ∧ relVL w (Ow O0 m st) m vs (xs.toList.map ev ++ us))
    {as : List A} {rs : List (List (List A))} (hh : HolesOk sg out as rs) {nid : Nat} :
    TOp P X o ρ ⟨bk (ids ++ ups nid (p + sg.nw.length)) (sg.r.toV as), idRds st0 ids ++ frRds (ups nid (p + sg.nw.length)), zipW (ids ++ ups nid (p + sg.nw.length)) ((sg.objs as rs).map (bkO (ids ++ ups nid (p + sg.nw.length))))⟩ := by
  intro w O0 m st ev hs hg hr _hc
  have hag := idRds_agr (st0 := st0) (st := st) (l := ids) fun r hr => hg r (List.mem_append_left _ hr)
  have hfr := frRds_agr (st := st) (l := ups nid (p + sg.nw.length)) fun r hr => hg r (List.mem_append_right _ hr)
  obtain ⟨us, h1, h2⟩ := hargs w O0 m st ev hs hr
  obtain ⟨hnd, hlen, hsome, hmid, hmz, hsc, hrel⟩ := prep_ok hprep hlive hs hag h2
  rw [call_enters ho h1 hp.1 w]
  have e : (xs.toList.map ev ++ us).toArray = (xs.toList.map ev ++ us).toArray := rfl
  refine ⟨rfl, (hp.2 w _ _ _ hsc hsome hrel).mono ?_⟩
  rintro e w' ⟨v, rfl, as', rs', mc', hh', ⟨q1, q2, q3, q4⟩, hkeep, hnew, hsame, hs', hv⟩
  obtain ⟨rfl, rfl⟩ := hh.eq hh'
  dsimp only [Post]
  generalize hmc : mCal ids p m = mc at *
  generalize htot : ids ++ ups nid (p + sg.nw.length) = tot
  generalize hobj : sg.objs as' rs' = objs' at *
  have hol : objs'.length = tot.length := by rw [← hobj, ← htot]; simp [SigA.objs, SigA.objsB, ups_length, hws, hlen]; omega
  have htn : tot.Nodup := by
    rw [← htot]
    refine List.nodup_append.mpr ⟨hnd, ups_nodup _ _, fun a ha b hb e => ?_⟩
    subst e
    obtain ⟨h, hh⟩ := hmid a ha
    rw [hs.fresh a (hfr a hb)] at hh
    cases hh
  obtain ⟨za, zb⟩ := apps_zipW tot (objs'.map (bkO tot)) st htn (by simp [hol])
  generalize hst2 : apps st (zipW tot (objs'.map (bkO tot))) = st2 at *
  have za : ∀ q id, tot[q]? = some id → st2 id = bkO tot (stOf objs' q) := fun q id hq => by
    have hlt : q < objs'.length := by rw [hol]; exact (List.getElem?_eq_some_iff.mp hq).1
    have : objs'[q]? = some objs'[q] := List.getElem?_eq_getElem hlt
    rw [stOf_some this]
    exact za q id _ hq (by rw [List.getElem?_map, this]; rfl)
  -- where the objects lie
  refine ⟨v, rfl, fun id => match idxN id tot 0 with | some q => mc' q | none => m id, ?_⟩
  generalize hm2 : ((fun id => match idxN id tot 0 with | some q => mc' q | none => m id) : Asg) = m2
  have ma : ∀ q id, tot[q]? = some id → m2 id = mc' q := fun q id hq => by rw [← hm2]; simp only [idxN_get htn hq]
  have mb : ∀ id, id ∉ tot → m2 id = m id := fun id hid => by rw [← hm2]; simp only [idxN_not hid]
  have tlt : ∀ q id, ids[q]? = some id → tot[q]? = some id := fun q id hq => by rw [← htot, List.getElem?_append_left (List.getElem?_eq_some_iff.mp hq).1, hq]
  have idt : ∀ id ∈ ids, id ∈ tot := fun id h => by rw [← htot]; exact List.mem_append_left _ h
  have mold : ∀ id ∈ ids, m2 id = m id := fun id hid => by
    obtain ⟨q, hq⟩ := List.mem_iff_getElem?.mp hid
    have hlt := (List.getElem?_eq_some_iff.mp hq).1
    rw [ma q id (tlt q id hq), hsame q (by omega), ← hmc]
    exact mCal_at hq
  have tot_or : ∀ id ∈ tot, id ∈ ids ∨ (m id = none ∧ st id = .dead) := fun id h => by
    rw [← htot] at h
    rcases List.mem_append.mp h with h | h
    · exact Or.inl h
    · exact Or.inr ⟨hs.fresh id (hfr id h), hfr id h⟩
  -- blocks of objects that stay behind are not handed on
  have apart : ∀ id hd b, id ∉ tot → (st id).alive = true → m id = some hd → b ∈ hd.blocks → ¬ Hb ids m st b := fun id hd b hid ha hm hi => by
    rintro ⟨id', hd', h1, h2, h3, h4⟩
    have := hs.inj id id' hd hd' b ha h2 hm h3 hi h4
    subst this
    exact hid (idt _ h1)
  have mzlt : ∀ b, Mz m st b → b < w.heap.size := fun b ⟨id, hd, ha, hm, hi⟩ => (hs.blk id hd b ha hm hi).1
  have hbmz : ∀ b, Hb ids m st b → Mz m st b := fun b ⟨id, hd, _, ha, hm, hi⟩ => ⟨id, hd, ha, hm, hi⟩
  have mz2 : ∀ b, Mz m2 st2 b → Mz mc' (stOf objs') b ∨ (Mz m st b ∧ ¬ Hb ids m st b) := by
    rintro b ⟨id, hd, ha, hm, hi⟩
    by_cases hid : id ∈ tot
    · obtain ⟨q, hq⟩ := List.mem_iff_getElem?.mp hid
      rw [za q id hq, bkO_alive] at ha
      rw [ma q id hq] at hm
      exact Or.inl ⟨q, hd, ha, hm, hi⟩
    · rw [zb id hid] at ha
      rw [mb id hid] at hm
      exact Or.inr ⟨⟨id, hd, ha, hm, hi⟩, apart id hd b hid ha hm hi⟩
  have hkeep : ∀ b, b < w.heap.size → ¬ Hb ids m st b → w'.heap[b]? = w.heap[b]? := fun b hb hn => hkeep b hb fun h => hn ((hmz b).mp h)
  have hnew : ∀ b, Mz mc' (stOf objs') b → Hb ids m st b ∨ w.heap.size ≤ b := fun b hb => (hnew b hb).imp (hmz b).mp id
  have hsub : ∀ b, Ow O0 m2 st2 b → Ow (fun b => Ow O0 m st b ∧ ¬ Hb ids m st b) mc' (stOf objs') b := by
    rintro b (hb | hb)
    · exact Or.inl ⟨Or.inl hb, fun ⟨id, hd, _, ha, hm, hi⟩ => (hs.blk id hd b ha hm hi).2 hb⟩
    · rcases mz2 b hb with hb | ⟨h3, h4⟩
      · exact Or.inr hb
      · exact Or.inl ⟨Or.inr h3, h4⟩
  have hchg : Chg w m st w' m2 st2 := by
    refine ⟨q1, q2, q3, q4, fun b hb hn => hkeep b hb fun h => hn (hbmz b h), MLe.of ?_, ?_⟩
    · intro id h e
      by_cases hid : id ∈ tot
      · rcases tot_or id hid with h1 | ⟨h1, _⟩
        · rw [mold id h1]; exact e
        · rw [h1] at e; cases e
      · rw [mb id hid]; exact e
    · intro b hb
      rcases mz2 b hb with hb | hb
      · exact (hnew b hb).imp (hbmz b) (fun h => h)
      · exact Or.inl hb.1
  have hbk : ∀ q id, tot[q]? = some id → ∀ hd, mc' q = some hd → m2 id = some hd := fun q id hq hd h => by rw [ma q id hq]; exact h
  refine ⟨hchg, hs.chg hchg ?_ ?_ ?_ ?_, bk_rel (MonoW.sub hsub) hbk _ _ hv⟩
  · intro id hd
    by_cases hid : id ∈ tot
    · obtain ⟨q, hq⟩ := List.mem_iff_getElem?.mp hid
      rw [za q id hq] at hd
      have hlt : q < objs'.length := by rw [hol]; exact (List.getElem?_eq_some_iff.mp hq).1
      have hget : objs'[q]? = some objs'[q] := List.getElem?_eq_getElem hlt
      rw [stOf_some hget] at hd
      have hne := objs_notdead (sg := sg) (as := as') (rs := rs') (q := q) (by rw [hobj]; exact hget)
      exfalso
      cases hc : objs'[q] <;> rw [hc] at hd hne <;> simp [bkO] at hd hne
    · rw [zb id hid] at hd
      rw [mb id hid]
      exact hs.fresh id hd
  · intro id hd b ha hm hi
    by_cases hid : id ∈ tot
    · obtain ⟨q, hq⟩ := List.mem_iff_getElem?.mp hid
      rw [za q id hq, bkO_alive] at ha
      rw [ma q id hq] at hm
      have := hs'.blk q hd b ha hm hi
      exact Or.inr ⟨this.1, fun h => this.2 ⟨Or.inl h, fun ⟨id, hd, _, ha, hm, hi⟩ => (hs.blk id hd b ha hm hi).2 h⟩⟩
    · rw [zb id hid] at ha
      rw [mb id hid] at hm
      exact Or.inl ⟨ha, hm⟩
  · intro id id' hd hd' b ha ha' hm hm' hi hi'
    by_cases hid : id ∈ tot
    · obtain ⟨q, hq⟩ := List.mem_iff_getElem?.mp hid
      rw [za q id hq, bkO_alive] at ha
      rw [ma q id hq] at hm
      by_cases hid' : id' ∈ tot
      · obtain ⟨q', hq'⟩ := List.mem_iff_getElem?.mp hid'
        rw [za q' id' hq', bkO_alive] at ha'
        rw [ma q' id' hq'] at hm'
        have := hs'.inj q q' hd hd' b ha ha' hm hm' hi hi'
        subst this
        rw [hq] at hq'
        cases hq'
        rfl
      · exfalso
        rw [zb id' hid'] at ha'
        rw [mb id' hid'] at hm'
        rcases hnew b ⟨q, hd, ha, hm, hi⟩ with h | h
        · exact apart id' hd' b hid' ha' hm' hi' h
        · have := (hs.blk id' hd' b ha' hm' hi').1
          omega
    · rw [zb id hid] at ha
      rw [mb id hid] at hm
      by_cases hid' : id' ∈ tot
      · exfalso
        obtain ⟨q, hq⟩ := List.mem_iff_getElem?.mp hid'
        rw [za q id' hq, bkO_alive] at ha'
        rw [ma q id' hq] at hm'
        rcases hnew b ⟨q, hd', ha', hm', hi'⟩ with h | h
        · exact apart id hd b hid ha hm hi h
        · have := (hs.blk id hd b ha hm hi).1
          omega
      · rw [zb id' hid'] at ha'
        rw [mb id' hid'] at hm'
        exact hs.inj id id' hd hd' b ha ha' hm hm' hi hi'
  · intro id
    by_cases hid : id ∈ tot
    · right
      obtain ⟨q, hq⟩ := List.mem_iff_getElem?.mp hid
      rw [za q id hq, ma q id hq]
      have ho := hs'.obj q
      generalize stOf objs' q = oo at ho
      cases oo with
      | dead => trivial
      | gone => trivial
      | box cs =>
        obtain ⟨hd, g1, g2⟩ := ho
        refine ⟨hd, g1, ?_⟩
        cases hd with
        | none => exact g2
        | tre => exact g2.elim
        | mp => exact g2.elim
        | blk b c n =>
          obtain ⟨cc, T, k1, k2, k3⟩ := g2
          exact ⟨cc, T, k1, k2, bkL_rel (MonoW.sub hsub) hbk _ _ k3⟩
      | row k xs =>
        obtain ⟨hd, g1, g2⟩ := ho
        exact ⟨hd, g1, rowOk_mono (MonoW.sub hsub) (fun _ _ _ _ => rfl) g2⟩
      | map xs =>
        obtain ⟨hd, g1, g2⟩ := ho
        exact ⟨hd, g1, mapOk_mono (MonoW.sub hsub) (fun _ _ => rfl) g2⟩
      | fro k xs =>
        obtain ⟨hd, g1, g0, g2⟩ := ho
        exact ⟨hd, g1, g0, fun v hv => rel_mono (MonoW.sub hsub) _ _ (g2 v hv)⟩
      | tre f k xs => exact ho
    · left
      refine ⟨zb id hid, mb id hid, fun hd b ha hm hi => ?_⟩
      exact hkeep b (hs.blk id hd b ha hm hi).1 (apart id hd b hid ha hm hi)
end
end Go.Proofs.YtnbjmmldjggkfaaGreat.Abs
