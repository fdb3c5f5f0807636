/- LOOPS' HEADS: what is kept, under numbers of its own, still lies in memory as it says. -/
import Derived.Test.YtnbjmmldjggkfaaGreatE16
namespace Go.Proofs.YtnbjmmldjggkfaaGreat.Abs
open Go Go.RowKit
noncomputable section

theorem keptF_rel {w : World} {O : Nat → Prop} {m : Asg} {mask : Nat} {fr : Nat → V} : ∀ (n i : Nat) (us : List Value), us.length = n → (∀ j u, us[j]? = some u → relV w O m (fr (i + j)) u) → relVL w O m (keptF mask fr n i) us
  | 0, _, us, hl, _ => by simp only [keptF, relVL]; exact List.length_eq_zero_iff.mp hl
  | n + 1, i, [], hl, _ => by cases hl
  | n + 1, i, u :: us, hl, h => by
    simp only [keptF, relVL]
    refine ⟨u, us, rfl, ?_, keptF_rel n (i + 1) us (by simpa using hl) fun j x hx => by rw [show i + 1 + j = i + (j + 1) by omega]; exact h (j + 1) x (by simpa using hx)⟩
    split
    · exact h 0 u rfl
    · simp [relV]

theorem mapIdx_ok {ids : List Nat} {m m' : Asg} (h : ∀ q id, ids[q]? = some id → m' q = m id) : ∀ {l r : List Nat}, mapIdx ids l = some r → r.map m' = l.map m
  | [], r, e => by cases e; rfl
  | x :: l, r, e => by
    simp only [mapIdx] at e
    split at e
    · rename_i i r' h1 h2
      cases e
      obtain ⟨q, e1, e2⟩ := idxN_some h1
      have e1 : i = q := by omega
      subst e1
      simp only [List.map_cons]
      rw [h _ _ e2, mapIdx_ok h h2]
    · cases e

/-- A loop's head. -/
theorem again_ok {M : Node → Option Out} {f : FuncId} {p : List Nat} {mask : Nat} {s : St} {r : Out} {X : Ctx} {w0 : World} {Z0 O0 : Nat → Prop} {shv : Option (List Hd)} {m : Asg} {a : Act} {w : World}
    (h : again M f p mask s = some r) (hs : Sim X w0 Z0 O0 shv m s a w) :
    ∃ fr objs sh m', M (.head f p fr objs sh) = some r ∧ Sim X w0 Z0 O0 shv m' (St.of s.n fr objs sh) a w := by
  unfold again at h
  dsimp only at h
  split at h
  rotate_left
  · cases h
  rename_i hnd
  generalize reach s.st 400 (refsL (keptF mask s.fr s.n 0) ++ shL s.sh) [] = ids at h hnd
  have hnd := nodupN_ok hnd
  split at h
  rotate_left
  · cases h
  rename_i sh2 hsh
  generalize e1 : promL (renL ids (keptF mask s.fr s.n 0)) ids.length = q1 at h
  obtain ⟨fr2, os1⟩ := q1
  dsimp only at h
  generalize e3 : promO (ids.map fun id => renO ids (s.st id)) (ids.length + os1.length) = q3 at h
  obtain ⟨ob, os3⟩ := q3
  dsimp only at h
  refine ⟨_, _, _, mCal ids (os1.length + os3.length) m, h, ?_⟩
  generalize hM' : mCal ids (os1.length + os3.length) m = m'
  have m1 : ∀ q id, ids[q]? = some id → m' q = m id := fun q id hq => by rw [← hM']; exact mCal_at hq
  have m2 : ∀ i, ids.length ≤ i → i < ids.length + os1.length + os3.length → m' i = some .none := fun q h1 h2 => by
    rw [← hM']; simp only [mCal]; rw [if_neg (by omega), if_pos (by omega)]
  have m3 : ∀ i, ids.length + os1.length + os3.length ≤ i → m' i = none := fun q h1 => by
    rw [← hM']; simp only [mCal]; rw [if_neg (by omega), if_neg (by omega)]
  have n1 : AllNil os1 := by have := promL_nil (renL ids (keptF mask s.fr s.n 0)) ids.length; rw [e1] at this; exact this
  generalize hst : stOf (ob ++ os1 ++ os3) = st'
  obtain ⟨l3, t1, t2, t3⟩ := promObjs w (Ow O0 m' st') m' n1 e3 m2
  rw [hst] at t1 t2 t3
  have hal : ∀ i id, ids[i]? = some id → (st' i).alive = (s.st id).alive := by
    intro i id hi
    rcases t1 i id hi with h | ⟨cs, cs', h1, h2, _⟩
    · rw [h, renO_alive]
    · rw [h1, h2]; rfl
  have hren : (∀ b, Ow O0 m' st' b → Ow O0 m s.st b) → ∀ (cs : List V) us, relVL w (Ow O0 m s.st) m cs us → relVL w (Ow O0 m' st') m' (renL ids cs) us :=
    fun hsub cs us h => renL_rel (MonoW.sub hsub) (fun q id hq hd h => by rw [m1 q id hq]; exact h) _ _ h
  obtain ⟨hsto, hmz⟩ := Sto.pick (X := X) (w := w) (O0' := O0) (m' := m') (st' := st') hs.sto hs.sto.jn (fun b hb => Or.inl hb) (fun i => ids[i]?) (fun i => by
      by_cases hi : i < ids.length
      · have hg : ids[i]? = some ids[i] := List.getElem?_eq_getElem hi
        rcases t1 i _ hg with h1 | ⟨cs, cs', h1, h2, h3⟩
        · cases hc : s.st ids[i] with
          | dead => rw [hc] at h1; exact Or.inl ⟨h1, by rw [m1 i _ hg]; exact hs.sto.fresh _ hc⟩
          | gone => rw [hc] at h1; exact Or.inr (Or.inl h1)
          | box cs =>
            rw [hc] at h1
            exact Or.inr (Or.inr (Or.inr ⟨_, hg, m1 i _ hg, Or.inr ⟨cs, _, hc, h1, fun hsub _ us hus => hren hsub _ _ hus⟩⟩))
          | row k xs => rw [hc] at h1; exact Or.inr (Or.inr (Or.inr ⟨_, hg, m1 i _ hg, Or.inl ⟨⟨k, xs, Or.inl h1⟩, by rw [hc]; exact h1.symm⟩⟩))
          | fro k xs => rw [hc] at h1; exact Or.inr (Or.inr (Or.inr ⟨_, hg, m1 i _ hg, Or.inl ⟨⟨k, xs, Or.inr (Or.inl h1)⟩, by rw [hc]; exact h1.symm⟩⟩))
          | tre f k xs => rw [hc] at h1; exact Or.inr (Or.inr (Or.inr ⟨_, hg, m1 i _ hg, Or.inl ⟨⟨k, xs, Or.inr (Or.inr (Or.inl ⟨f, h1⟩))⟩, by rw [hc]; exact h1.symm⟩⟩))
          | map xs => rw [hc] at h1; exact Or.inr (Or.inr (Or.inr ⟨_, hg, m1 i _ hg, Or.inl ⟨⟨0, xs, Or.inr (Or.inr (Or.inr h1))⟩, by rw [hc]; exact h1.symm⟩⟩))
        · exact Or.inr (Or.inr (Or.inr ⟨_, hg, m1 i _ hg, Or.inr ⟨cs, cs', h1, h2, fun hsub _ us hus => h3 us (hren hsub _ _ hus)⟩⟩))
      · by_cases hi' : i < ids.length + os1.length + os3.length
        · obtain ⟨k, hk⟩ := t2 i (by omega) hi'
          exact Or.inr (Or.inr (Or.inl ⟨⟨k, Or.inl hk⟩, m2 i (by omega) hi'⟩))
        · exact Or.inl ⟨t3 i (by omega), m3 i (by omega)⟩)
    (fun i i' id h1 h2 _ _ => (List.getElem?_inj (List.getElem?_eq_some_iff.mp h1).1 hnd).mp (h1.trans h2.symm))
    (fun i id hd b h1 h2 h3 h4 hb => (hs.sto.blk id hd b (by rw [← hal i id h1]; exact h2) h3 h4).2 hb)
  have hsub : ∀ b, Ow O0 m' st' b → Ow O0 m s.st b := fun b hb => hb.imp id (hmz b)
  have hres : Sim X w0 Z0 O0 shv m' ⟨s.n, fun i => fr2.getD i .top, st', (ob ++ os1 ++ os3).length, sh2⟩ a w := by
    refine ⟨hs.defers, hs.tsz, hs.os, hs.tape, hs.output, hs.size, hs.keep, fun b hb => hs.new b (hmz b hb), hsto, ?_, ?_, hs.shf⟩
    · intro i v hv
      have g := keptF_rel (mask := mask) (fr := s.fr) s.n 0 a.tmps.toList (by rw [Array.length_toList, hs.tsz]) fun j u hu => by
        rw [Nat.zero_add]
        exact hs.fr j u (by simpa using hu)
      have g := promL_rel _ ids.length _ (fun i h1 h2 => m2 i h1 (by rw [e1] at h2; dsimp only at h2; omega)) (hren hsub _ _ g)
      rw [e1] at g
      show relV w (Ow O0 m' st') m' (fr2.getD i .top) v
      cases hc : fr2[i]? with
      | none => rw [List.getD_eq_getElem?_getD, hc]; simp [relV]
      | some c =>
        obtain ⟨u, k1, k2⟩ := relVL_get g hc
        have hv' : a.tmps.toList[i]? = some v := by simpa using hv
        rw [hv'] at k1
        cases k1
        rw [List.getD_eq_getElem?_getD, hc]
        exact k2
    · have := hs.sh
      unfold shIdx at hsh
      split at hsh
      · rename_i h0
        cases hsh
        rw [h0] at this
        exact this
      · rename_i l0 hl0
        split at hsh
        · rename_i r hr
          cases hsh
          rw [hl0] at this
          show (some r).map _ = _
          rw [← this]
          simp only [Option.map_some]
          rw [mapIdx_ok m1 hr]
        · cases hsh
  subst hst
  exact hres
end
end Go.Proofs.YtnbjmmldjggkfaaGreat.Abs
