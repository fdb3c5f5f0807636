/- CALLS THAT ARE HANDED A ROW OF NUMBERS AND STRINGS, as a tree without branches. -/
import Derived.Test.YtjclanocnkankaaE11f
namespace Go.Proofs.Ytjclanocnkankaa.Abs
open Go Go.RowKit
noncomputable section

def nones : List A → List Hd
  | [] => []
  | _ :: as => .none :: nones as
theorem nones_none : ∀ (as : List A), ∀ h ∈ nones as, h = .none
  | [], _, hm => by simp [nones] at hm
  | _ :: as, h, hm => by
    rcases List.mem_cons.1 hm with rfl | hm
    · rfl
    · exact nones_none as h hm
theorem blocks_nones : ∀ (as : List A), Hd.blocksL (nones as) = []
  | [] => rfl
  | _ :: as => by simp [nones, Hd.blocksL, Hd.blocks, blocks_nones as]
theorem treL_vals {w : World} {O : Nat → Prop} : ∀ {as : List A} {vs : List Value}, as.all isVal = true → relL w O as vs → treL w as vs (nones as)
  | [], vs, _, h => by simp only [relL] at h; subst h; simp [nones, treL]
  | a :: as, vs, ha, h => by
    simp only [List.all_cons, Bool.and_eq_true] at ha
    simp only [relL] at h
    obtain ⟨v, r, rfl, h1, h2⟩ := h
    rw [nones]
    refine treL_cons.2 ⟨a, as, v, r, rfl, rfl, ?_, treL_vals ha.2 h2⟩
    cases a with
    | val x => simp only [rel] at h1; exact ⟨rfl, h1⟩
    | _ => simp [isVal] at ha
theorem relL_nones {w : World} {O : Nat → Prop} : ∀ {ks : List Hd} {as : List A} {vs : List Value}, (∀ h ∈ ks, h = .none) → treL w as vs ks → relL w O as vs
  | [], as, vs, _, h => by
    simp only [treL] at h
    obtain ⟨rfl, rfl⟩ := h
    simp [relL]
  | h :: hs, as, vs, hn, hr => by
    obtain ⟨a, as', v, vs', rfl, rfl, h3, h4⟩ := treL_cons.1 hr
    have hh := hn h (by simp)
    subst hh
    simp only [relL]
    refine ⟨v, vs', rfl, ?_, relL_nones (fun h hm => hn h (by simp [hm])) h4⟩
    cases a with
    | val x => simp only [rel]; exact h3.2
    | sl k xs =>
      obtain ⟨⟨a, rfl⟩, h6⟩ := h3
      simp only [treOk] at h6
      subst h6
      simp only [rel]
      exact ⟨a, 0, rfl, by simp, by omega, Or.inl trivial⟩
    | _ => exact h3.elim

/-- The row among the arguments is the callee's first object. -/
def substR1 (id : Nat) : V → Option V
  | .d a => some (.d a)
  | .row id' => if Nat.beq id' id then some (.row 0) else none
  | _ => none
def substR (id : Nat) : List V → Option (List V)
  | [] => some []
  | v :: vs => match substR1 id v, substR id vs with
    | some v', some vs' => some (v' :: vs')
    | _, _ => none

theorem substR1_rel {w : World} {O O' : Nat → Prop} {m m1 : Asg} {id : Nat} (hO : ∀ b, O' b → O b) (hk : ∀ v, relV w O m (.row id) v → relV w O' m1 (.row 0) v) {v v' : V} {u : Value} (h : substR1 id v = some v') (hr : relV w O m v u) : relV w O' m1 v' u := by
  unfold substR1 at h
  split at h
  · cases h
    simp only [relV] at hr ⊢
    exact rel_mono (MonoW.sub hO) _ _ hr
  · split at h
    · rename_i hb
      cases h
      have e1 := Nat.eq_of_beq_eq_true hb
      subst e1
      exact hk u hr
    · cases h
  · cases h
theorem substR_rel {w : World} {O O' : Nat → Prop} {m m1 : Asg} {id : Nat} (hO : ∀ b, O' b → O b) (hk : ∀ v, relV w O m (.row id) v → relV w O' m1 (.row 0) v) : ∀ {vs vs' : List V} {us : List Value}, substR id vs = some vs' → relVL w O m vs us → relVL w O' m1 vs' us
  | [], vs', us, h, hr => by simp only [substR] at h; cases h; simpa [relVL] using hr
  | v :: vs, vs', us, h, hr => by
    simp only [substR] at h
    split at h
    · rename_i v1 vs1 h1 h2
      cases h
      simp only [relVL] at hr ⊢
      obtain ⟨u, r, rfl, g1, g2⟩ := hr
      exact ⟨u, r, rfl, substR1_rel hO hk h1 g1, substR_rel hO hk h2 g2⟩
    · cases h

/-- Where a row lies, seen as a tree. -/
def Hd.asTre (as : List A) : Hd → Hd
  | .blk b c n => .tre true b c n (nones as)
  | h => h

theorem TOp.flatcall {P : Program} {X : Ctx} {o : Oper} {ρ : Operand → V} {f : Operand} {xs0 : Array Operand} {ts : Array TypeId} (ho : o.op = .call { callee := .value f, args := xs0, argTypes := ts }) {g : FuncId} {vs vs2 : List V} {sg : SigA} {out : Out} {l : Nat} {ys : List (List A)}
    (hp : SOk X P g vs2 [.tre true l ys] sg out) (hws : sg.ws = [.io 0]) (hnw : sg.nw = []) (hks : sg.ks = [l + 64])
    {id : Nat} (hval : ys.flatten.all isVal = true) (hsub : substR id vs = some vs2)
    (hargs : ∀ (w : World) (O0 : Nat → Prop) (m : Asg) (st : Stor) (ev : Operand → Value), Sto X w O0 m st → (∀ x ∈ o.op.operands, relV w (Ow O0 m st) m (ρ x) (ev x)) →
      ∃ us : List Value, ev f = .func (.func g) #[] us.toArray ∧ relVL w (Ow O0 m st) m vs (xs0.toList.map ev ++ us))
    {as : List A} {r0 : List (List A)} (hh : HolesOk sg out as [r0]) :
    TOp P X o ρ ⟨bk [] (sg.r.toV as), [.obj id (.row l ys)], [.obj id (.row l r0)]⟩ := by
  intro w O0 m st ev hs hg hr _hc
  obtain ⟨us, h1, h2⟩ := hargs w O0 m st ev hs hr
  have g1 : st id = .row l ys := hg (.obj id (.row l ys)) (by simp)
  have hal : (st id).alive = true := by rw [g1]; rfl
  have hob := hs.obj id
  rw [g1] at hob
  obtain ⟨hd, hm, hok⟩ := hob
  have hkb : (hd.asTre ys.flatten).blocks = hd.blocks := by
    cases hd with
    | none => rfl
    | blk b c n => simp [Hd.asTre, Hd.blocks, blocks_nones]
    | tre => simp [rowOk] at hok
  have hnd : hd.blocks.Nodup := by
    cases hd with
    | none => simp [Hd.blocks]
    | blk b c n => simp [Hd.blocks]
    | tre => simp [rowOk] at hok
  have e5 : treOk w true l ys (hd.asTre ys.flatten) := by
    cases hd with
    | none => simpa [Hd.asTre, treOk, rowOk] using hok
    | tre => simp [rowOk] at hok
    | blk b c n =>
      simp only [rowOk] at hok
      obtain ⟨p1, p2, p3, p4, cc, T, p5, p6, p7, p8⟩ := hok
      simp only [Hd.asTre, treOk]
      exact ⟨trivial, p1, p2, p3, p4, cc, T, p5, p6, p7, treL_vals hval p8⟩
  have ehdr : ∀ v, hdr hd v → hdr (hd.asTre ys.flatten) v := fun v hv => by
    cases hd with
    | none => exact hv
    | blk => exact hv
    | tre => exact hv
  generalize hkid : hd.asTre ys.flatten = kid at *
  have kblk : ∀ b' ∈ kid.blocks, b' < w.heap.size ∧ ¬ O0 b' := fun b' hb => hs.blk id _ b' hal hm (by rw [← hkb]; exact hb)
  generalize hm1 : ((fun q => if q = 0 then some kid else none) : Asg) = m1
  have m10 : m1 0 = some kid := by rw [← hm1]; rfl
  have m1s : ∀ q, q ≠ 0 → m1 q = none := fun q hq => by rw [← hm1]; simp [hq]
  generalize hO' : (fun b' => Ow O0 m st b' ∧ b' ∉ kid.blocks) = O'
  have st10 : stOf [Abs.Obj.tre true l ys] 0 = .tre true l ys := rfl
  have st1s : ∀ q, q ≠ 0 → stOf [Abs.Obj.tre true l ys] q = .dead := fun q hq => stOf_none (by simp; omega)
  have mz1 : ∀ b', Mz m1 (stOf [Abs.Obj.tre true l ys]) b' ↔ b' ∈ kid.blocks := fun b' => by
    constructor
    · rintro ⟨q, h, a1, a2, a3⟩
      by_cases hq : q = 0
      · subst hq; rw [m10] at a2; cases a2; exact a3
      · rw [m1s q hq] at a2; cases a2
    · intro hb; exact ⟨0, kid, rfl, m10, hb⟩
  have kin : ∀ b' ∈ kid.blocks, b' ∈ hd.blocks := fun b' hb => by rw [← hkb]; exact hb
  have hOw : ∀ b', Ow O' m1 (stOf [Abs.Obj.tre true l ys]) b' → Ow O0 m st b' := by
    rintro b' (h | h)
    · rw [← hO'] at h; exact h.1
    · exact Or.inr ⟨id, _, hal, hm, kin b' ((mz1 b').1 h)⟩
  have hsc : Sto X w O' m1 (stOf [Abs.Obj.tre true l ys]) := by
    refine ⟨hs.j, fun b' hb => ?_, fun q hq => ?_, fun b' hb => ?_, fun q h b' a1 a2 a3 => ?_, fun q q' h h' b' a1 a2 a3 a4 _ _ => ?_, fun q => ?_⟩
    · rw [← hO']; exact ⟨Or.inl (hs.jn b' hb), fun hb' => (kblk b' hb').2 (hs.jn b' hb)⟩
    · by_cases h0 : q = 0
      · subst h0; cases hq
      · exact m1s q h0
    · rw [← hO'] at hb
      rcases hb.1 with h | ⟨q, h, a1, a2, a3⟩
      · exact hs.old b' h
      · exact (hs.blk q h b' a1 a2 a3).1
    · by_cases h0 : q = 0
      · subst h0
        rw [m10] at a2
        cases a2
        exact ⟨(kblk b' a3).1, fun h => by rw [← hO'] at h; exact h.2 a3⟩
      · rw [m1s q h0] at a2; cases a2
    · by_cases h0 : q = 0
      · by_cases h0' : q' = 0
        · rw [h0, h0']
        · rw [m1s q' h0'] at a4; cases a4
      · rw [m1s q h0] at a3; cases a3
    · by_cases h0 : q = 0
      · subst h0; rw [m10]; exact ⟨kid, rfl, e5, by rw [hkb]; exact hnd⟩
      · rw [st1s q h0]; trivial
  have hrel := substR_rel (w := w) (O := Ow O0 m st) (O' := Ow O' m1 (stOf [Abs.Obj.tre true l ys])) (m := m) (m1 := m1) hOw (fun v hv => by
    simp only [relV] at hv ⊢
    obtain ⟨h, a1, a2⟩ := hv
    rw [hm] at a1
    cases a1
    exact ⟨kid, m10, ehdr v a2⟩) hsub h2
  rw [call_enters ho h1 hp.1 w]
  refine ⟨rfl, (hp.2 w _ _ _ hsc (fun q hq => by
    have : q = 0 := by simpa using hq
    subst this
    exact ⟨kid, m10, treOk_fixed e5⟩) hrel).mono ?_⟩
  rintro e w' ⟨v, rfl, as', rs', mc', hh', ⟨q1, q2, q3, q4⟩, hkeep, hnew, hsame, hs', hv⟩
  obtain ⟨rfl, rfl⟩ := hh.eq hh'
  have hobjs : sg.objs as' [r0] = [Abs.Obj.tre true l r0] := by
    have : Nat.blt (l + 64) 64 = false := by
      cases hc : Nat.blt (l + 64) 64 with
      | false => rfl
      | true => rw [Nat.blt_eq] at hc; omega
    simp [SigA.objs, hws, hnw, hks, OW.toO, rowO, mkRow, this]
  rw [hobjs] at hnew hs' hv
  have mc0 : mc' 0 = some kid := (hsame 0 (by simp)).trans m10
  have hkeep : ∀ b', b' < w.heap.size → b' ∉ kid.blocks → w'.heap[b']? = w.heap[b']? := fun b' hb hn => hkeep b' hb fun h => hn ((mz1 b').1 h)
  have hk' : treOk w' true l r0 kid := by
    have := hs'.obj 0
    rw [show stOf [Abs.Obj.tre true l r0] 0 = .tre true l r0 from rfl, mc0] at this
    obtain ⟨hd', a1, a2, _⟩ := this
    cases a1
    exact a2
  dsimp only [Post]
  refine ⟨v, rfl, m, ?_⟩
  have hst2 : apps st [.obj id (.row l r0)] = upd st id (.row l r0) := by
    show upd st id (Wr.on _ (st id)) = _
    rfl
  rw [hst2]
  have al2 : ∀ q, (upd st id (.row l r0) q).alive = (st q).alive := fun q => by
    by_cases h0 : q = id
    · subst h0; rw [upd_self, hal]; rfl
    · rw [upd_ne _ _ h0]
  have hmz : ∀ b', Mz m (upd st id (.row l r0)) b' → Mz m st b' := by
    rintro b' ⟨q, h, a1, a2, a3⟩
    exact ⟨q, h, by rw [← al2]; exact a1, a2, a3⟩
  have hchg : Chg w m st w' m (upd st id (.row l r0)) :=
    ⟨q1, q2, q3, q4, fun b' hb hn => hkeep b' hb fun hk => hn ⟨id, _, hal, hm, kin b' hk⟩, MLe.refl m, fun b' hb => Or.inl (hmz b' hb)⟩
  refine ⟨hchg, hs.chg hchg ?_ (fun q h b' a1 a2 _ => Or.inl ⟨by rw [← al2]; exact a1, a2⟩) (fun q q' h h' b' a1 a2 => hs.inj q q' h h' b' (by rw [← al2]; exact a1) (by rw [← al2]; exact a2)) ?_, ?_⟩
  · intro q hq
    by_cases h0 : q = id
    · subst h0; rw [upd_self] at hq; cases hq
    · rw [upd_ne _ _ h0] at hq; exact hs.fresh q hq
  · intro q
    by_cases h0 : q = id
    · subst h0
      right
      rw [upd_self, hm]
      refine ⟨_, rfl, ?_⟩
      subst hkid
      cases hd with
      | none => simpa [Hd.asTre, treOk, rowOk] using hk'
      | tre => simp [rowOk] at hok
      | blk b c n =>
        simp only [Hd.asTre, treOk] at hk'
        obtain ⟨_, p1, p2, p3, p4, cc, T, p5, p6, p7, p8⟩ := hk'
        simp only [rowOk]
        exact ⟨p1, p2, p3, p4, cc, T, p5, p6, p7, relL_nones (nones_none _) p8⟩
    · rw [upd_ne _ _ h0]
      refine Or.inl ⟨rfl, rfl, fun h b' a1 a2 a3 => hkeep b' (hs.blk q h b' a1 a2 a3).1 fun hk => h0 (hs.inj q id h _ b' a1 hal a2 hm a3 (kin b' hk))⟩
  · refine bk_rel (MonoW.sub fun b' hb => ?_) (fun q id' hq => by simp at hq) _ _ hv
    by_cases hk : b' ∈ kid.blocks
    · exact Or.inr ⟨0, kid, rfl, mc0, hk⟩
    · refine Or.inl ?_
      rw [← hO']
      exact ⟨hb.imp (fun h => h) (hmz b'), hk⟩
end
end Go.Proofs.Ytjclanocnkankaa.Abs
