/- OPERATIONS THAT TURN THE STORE (5): the whole, calls apart: that it is so. -/
import Derived.Test.YtnbjmmldjggkfaaGreatE12
namespace Go.Proofs.YtnbjmmldjggkfaaGreat.Abs
open Go Go.RowKit
noncomputable section

section
variable {X : Ctx} {o : Oper} {ρ : Operand → V} {C : Cfg} {M : Node → Option Out} {st : Stor}

theorem srcV_ok {P : Program} {k : Nat} {v : V} {kk : List (List A) → List Rd → LX}
    (h : ∀ ys r, (∀ x ∈ r, agr st x) → (∀ (w : World) (O0 : Nat → Prop) (m : Asg) (st' : Stor) (u : Value), Sto X w O0 m st' → (∀ x ∈ r, agr st' x) → relV w (Ow O0 m st') m v u → SrcOk w (Ow O0 m st') k ys u) → LXok P X M o ρ st (kk ys r)) :
    LXok P X M o ρ st (srcV st k v kk) := by
  unfold srcV
  split
  · refine h [] [] (by simp) fun w O0 m st' u hs _ hr => ?_
    simp only [relV] at hr
    exact src_nil hr
  · rename_i a
    intro ys hys
    unfold pRows at hys
    split at hys
    · split at hys
      · rename_i hk
        subst hk
        cases hys
        refine h _ [] (by simp) fun w O0 m st' u hs _ hr => ?_
        simp only [relV] at hr
        exact src_data hr
      · cases hys
    · cases hys
  · rename_i id
    split
    · rename_i k' ys hst
      split
      · rename_i hk
        have hk := Nat.eq_of_beq_eq_true hk
        subst hk
        refine h ys _ (by simpa [agr] using hst) fun w O0 m st' u hs hg hr => ?_
        obtain ⟨hd, q1, q2, q3⟩ := row_at hs (hg _ (List.mem_singleton.2 rfl)) hr
        exact src_row q3 q2
      · trivial
    · rename_i k' ys hst
      split
      · rename_i hk
        have hk := Nat.eq_of_beq_eq_true hk
        subst hk
        refine h ys _ (by simpa [agr] using hst) fun w O0 m st' u hs hg hr => ?_
        exact src_data (fro_rel hs (hg _ (List.mem_singleton.2 rfl)) hr)
      · trivial
    · trivial
  · split
    · rename_i p hp
      split
      · rename_i hk
        have hk := Nat.eq_of_beq_eq_true hk
        subst hk
        have hok := winP_ok (X := X) hp
        refine h _ _ (by simpa [agr] using hok.1) fun w O0 m st' u hs hg hr => ?_
        have hid : st' p.id = .row p.k p.xs := hg _ (List.mem_singleton.2 rfl)
        obtain ⟨hd, xs', e1, e2, e3, e4, e5⟩ := hok.2 w O0 m st' u hs ⟨p.xs, hid, rfl⟩ hr
        rw [hid] at e2
        cases e2
        exact src_win e5 e4
      · trivial
    · trivial
  · trivial

theorem winL_ok {P : Program} {t : TypeId} {x : Operand} {lo hi : Option Operand} (ho : o.op = .slice t x lo hi none) {e : Nat} (ht : P.underlying t = some (.slice e)) {i : TI} (hi' : TI.ok P e i)
    {alo ahi : Option A} (hlo : ∀ y, lo = some y → ∃ a, alo = some a ∧ dat (ρ y) = some a) (hlo0 : lo = none → alo = none) (hhi : ∀ y, hi = some y → ∃ a, ahi = some a ∧ dat (ρ y) = some a) (hhi0 : hi = none → ahi = none) :
    LXok P X M o ρ st (winL st i.size (ρ x) alo ahi) := by
  unfold winL
  split
  · rename_i p hp
    split
    · rename_i hk
      have hk := Nat.eq_of_beq_eq_true hk
      intro h' hh' l' hl'
      rw [pLo_eq] at hl'
      exact ⟨TOp.winSlice ho ht hi' hp hk hlo hlo0 hhi hhi0 hh' hl', by simpa [agr] using ⟨_, (winP_ok (X := X) hp).1, rfl⟩⟩
    · trivial
  · trivial

theorem noSeal_spec {id : Nat} : ∀ {ws : List Wr}, noSeal id ws = true → ∀ k xs, Wr.obj id (.fro k xs) ∉ ws
  | [], _, _, _, h => by cases h
  | w :: ws, hn, k, xs, h => by
    simp only [noSeal, Bool.and_eq_true, Bool.not_eq_true'] at hn
    rcases List.mem_cons.1 h with rfl | h
    · simp [Wr.id] at hn
    · exact noSeal_spec hn.2 k xs h

theorem inRange_spec {n : Nat} : ∀ {ps : List (Nat × List A)}, inRange n ps = true → ∀ p ∈ ps, p.1 < n
  | [], _, _, h => by cases h
  | (q, ds) :: ps, hn, p, h => by
    simp only [inRange, Bool.and_eq_true, Nat.blt_eq] at hn
    rcases List.mem_cons.1 h with rfl | h
    · exact hn.1
    · exact inRange_spec hn.2 p h

theorem pFit_spec {n b : Nat} (h : pFit n b = true) : n * b ≤ 140737488355328 ∧ n ≤ 9223372036854775807 := by
  unfold pFit at h; simpa using h

/-- Behind the reckoning of the parts of a slice: the slice. -/
theorem TOp.buildSlice (hD : TyOk C.P C.D) {t : TypeId} {n : Nat} {ps : Array (Nat × Operand)} (ho : o.op = .buildSlice t n ps) {e : Nat} (ht : C.P.underlying t = some (.slice e)) {i : TI} (hi : C.D e = some i) (hpos : 0 < i.size) (hn : 0 < n) (hb : n * i.size ≤ 16777216)
    {z : List A} (hz : datL (zeroV C e i) = some z) (hzo : z.all okA = true) {parts : List (Nat × List A)} {r : List Rd} {ws : List Wr} {st0 : Stor} (hp : PartsOk (ps.toList.map fun p => (p.1, ρ p.2)) st0 i parts r ws) (hr : inRange n parts = true) {nid : Nat} :
    TOp C.P X o ρ ⟨.row nid, .fresh nid :: r, ws ++ [.obj nid (.row i.size (setRows (List.replicate n z) parts))]⟩ := by
  intro w O0 m st ev hs hg hrel _hc
  obtain ⟨d1, d2, d3, d4⟩ := hp
  have hgr : ∀ x ∈ r, agr st x := fun x hx => hg x (by simp [hx])
  have hab := d4 st hgr
  obtain ⟨a1, a2, a3, a4, a5⟩ := seals ws st hs hab
  have hfr : st nid = .dead := hg (.fresh nid) (by simp)
  have hfr' : apps st ws nid = .dead := by
    rw [a5 nid fun k xs h => ?_]
    · exact hfr
    · obtain ⟨id, k', xs', e1, e2⟩ := hab _ h
      cases e1
      rw [hfr] at e2
      rcases e2 with e2 | e2 <;> cases e2
  have hkeep : ∀ id k xs, st id = .fro k xs → apps st ws id = .fro k xs := by
    intro id k xs h
    by_cases hin : ∃ k' xs', Wr.obj id (.fro k' xs') ∈ ws
    · obtain ⟨k', xs', hin⟩ := hin
      rw [a4 id k' xs' hin]
      obtain ⟨id2, k2, xs2, e1, e2⟩ := hab _ hin
      cases e1
      rw [h] at e2
      rcases e2 with e2 | e2 <;> cases e2 <;> rfl
    · rw [a5 id fun k' xs' h' => hin ⟨k', xs', h'⟩, h]
  have hok := hD e i hi
  have hzr : relL w (Ow O0 m (apps st ws)) z i.zero.cells.toList := relL_datL (m := m) hz (relVL_zero e i)
  have hlen : ps.toList.length = parts.length := by simpa using congrArg List.length d1
  have hfill := fill_rows (w := w) (O := Ow O0 m (apps st ws)) (k := i.size) parts (ps.toList.map fun p => (p.1, ev p.2)) (List.replicate n z) ((Array.range (n * i.size)).map (fun q => i.zero.cells[q % i.zero.cells.size]!))
    (by rw [← d1, List.map_map, List.map_map]; rfl)
    (fun q p v hq hv => by
      have hv' : ∃ pp, ps.toList[q]? = some pp ∧ v = (pp.1, ev pp.2) := by
        rw [List.getElem?_map, Option.map_eq_some_iff] at hv
        obtain ⟨pp, h1, h2⟩ := hv
        exact ⟨pp, h1, h2.symm⟩
      obtain ⟨pp, hpp, rfl⟩ := hv'
      obtain ⟨vs, r', ws', e1, e2, e3, e4, e5, e6⟩ := d3 q (pp.1, ρ pp.2) p (by rw [List.getElem?_map, hpp]; rfl) hq
      have hmem : pp.2 ∈ o.op.operands := by
        rw [ho]
        simp only [Op.operands]
        have := List.mem_of_getElem? hpp
        simpa using ⟨pp.1, by simpa using this⟩
      obtain ⟨k1, k2⟩ := e1 _ _ _ _ (hrel _ hmem)
      have k3 := sealC_rel (st0 := st0) (st := st) (st1 := apps st ws) a1 a3 e3 (fun x hx => hgr x (e4 x hx)) (fun id k xs hm => a4 id k xs (e5 _ hm)) hkeep k1
      exact ⟨e6, by have := inRange_spec hr p (List.mem_of_getElem? hq); simpa using this, k3, k2⟩)
    (fun x hx => by rw [(List.mem_replicate.1 hx).2, ← relL_length hzr]; simpa using hok.zsize)
    (zero_rows hzr hok.zsize hpos n)
    (by
      have h1 := zero_rows hzr hok.zsize hpos n
      refine ones_of h1 ?_
      rw [List.all_eq_true]
      intro x hx
      obtain ⟨y, hy, hxy⟩ := List.mem_flatten.1 hx
      rw [(List.mem_replicate.1 hy).2] at hxy
      exact List.all_eq_true.1 hzo x hxy)
  obtain ⟨cells', f1, f2, f3, f4, f5⟩ := hfill
  rw [run_buildSlice hD ho ht hi hpos hn hb f1 w]
  have hn63 : n ≤ 16777216 := Nat.le_trans (Nat.le_mul_of_pos_right n hpos) hb
  have hcs : cells'.toList.length = n * i.size := by
    rw [relL_length f2, len_flat f4, f5]; simp
  have hl : (setRows (List.replicate n z) parts).length = n := by rw [f5]; simp
  have htk : cells'.toList.take (n * i.size) = cells'.toList := List.take_of_length_le (by omega)
  refine Post.after (X := X) a2 (post_newrow a1 (below_alloc w _) hfr' (hd := .blk w.heap.size n n) rfl (Or.inr ⟨n, cells', e, by rw [hl], by rw [size_alloc']; omega, by rw [hl]; exact Nat.le_refl _, by omega, f4, heap_alloc_new w _, ?_, ?_, ?_⟩))
  · simpa using hcs
  · rw [hl, htk]; exact f3
  · rw [hl, htk]; exact f2

theorem bindD_ok {P : Program} {o' : Out} : ∀ (n i : Nat) (k : List A → LX), (∀ as, as.length = n → (∀ j a, as[j]? = some a → hD o' (i + j) = some a) → LXok P X M o ρ st (k as)) → LXok P X M o ρ st (bindD o' n i k)
  | 0, i, k, h => h [] rfl (by simp)
  | n + 1, i, k, h => by
    intro a ha
    refine bindD_ok n (i + 1) _ fun as hl has => h (a :: as) (by simp [hl]) fun j b hb => ?_
    cases j with
    | zero => simp at hb; subst hb; exact ha
    | succ j => have := has j b (by simpa using hb); rwa [show i + 1 + j = i + (j + 1) by omega] at this

theorem bindR_ok {P : Program} {o' : Out} : ∀ (ks : List Nat) (i : Nat) (k : List (List (List A)) → LX), (∀ rs, rs.length = ks.length → (∀ (j : Nat) (r : List (List A)) (w : Nat), rs[j]? = some r → ks[j]? = some w → hR w o' (i + j) = some r) → LXok P X M o ρ st (k rs)) → LXok P X M o ρ st (bindR o' ks i k)
  | [], i, k, h => h [] rfl (by simp)
  | w :: ks, i, k, h => by
    intro a ha
    refine bindR_ok ks (i + 1) _ fun as hl has => h (a :: as) (by simp [hl]) fun j b v hb hv => ?_
    cases j with
    | zero => simp at hb hv; subst hb hv; exact ha
    | succ j => have := has j b v (by simpa using hb) (by simpa using hv); rwa [show i + 1 + j = i + (j + 1) by omega] at this

theorem altOf_spec {n : Nat} {sg : SigA} : ∀ {l : Sig}, altOf n l = some sg → sg.ws.length = n
  | [], h => by cases h
  | s :: l, h => by
    simp only [altOf] at h
    split at h
    · rename_i hb
      cases h
      exact Nat.eq_of_beq_eq_true hb
    · exact altOf_spec h

theorem stCall_ok (hS : StM X C M) {nid : Nat} {f : Operand} {xs : Array Operand} {ts : Array TypeId} (ho : o.op = .call { callee := .value f, args := xs, argTypes := ts }) {g : FuncId} {caps : List V} (hf : ρ f = .fn g caps) {sgs : Sig} (hsig : C.sig g = some sgs) :
    LXok C.P X M o ρ st (stCall (C.kn g) st nid g sgs (nilL C.D ts.toList (xs.toList.map ρ) ++ caps)) := by
  have mf : f ∈ o.op.operands := by simp [ho, Op.operands, Call.operands]
  have mx : ∀ x ∈ xs.toList, x ∈ o.op.operands := fun x hx => by simp [ho, Op.operands, Call.operands]; exact Or.inr (by simpa using hx)
  unfold stCall
  split
  rotate_left
  · trivial
  rename_i ids vs2 objs p hprep
  split
  rotate_left
  · trivial
  rename_i sg halt
  split
  rotate_left
  · trivial
  rename_i hc
  simp only [Bool.and_eq_true] at hc
  intro out hout
  have hp := hS g vs2 objs sgs sg out hsig halt hout
  refine bindD_ok _ _ _ fun as la da => bindR_ok _ _ _ fun rs lr dr => ?_
  have main : LXok C.P X M o ρ st (stRetB (isTrueA (condA sg.ks as)) sg st nid ids p as rs) := by
   refine ⟨TOp.stcall ho hp hprep hc.1 (altOf_spec halt) (fun w O0 m st' ev hs hr => ?_) ⟨la, fun i a h => by simpa using da i a h, lr, fun j r k h1 h2 => dr j r k h1 h2⟩, ?_⟩
   · have hf' := hr f mf
     rw [hf] at hf'
     simp only [relV] at hf'
     obtain ⟨us, g1, g2⟩ := hf'
     have g3 := relVL_ev (w := w) (O := Ow O0 m st') (m := m) (ρ := ρ) (ev := ev) xs.toList fun x hx => hr x (mx x hx)
     exact ⟨us, g1, relVL_append (relVL_nilL g3) g2⟩
   · intro r hr
     rcases List.mem_append.mp hr with hr | hr
     · exact idRds_self r hr
     · refine frRds_of (fun id hid => ?_) r hr
       have := List.all_eq_true.mp hc.2 id hid
       cases hst : st id <;> rw [hst] at this <;> first | rfl | cases this
  unfold stRet
  unfold condA at main
  split
  · rename_i hci
    rw [hci] at main
    exact main
  · rename_i i hci
    rw [hci] at main
    have key : ∀ b, pBool (as.getD i .top) = some b → isTrueA (as.getD i .top) = b := fun b hb => by
      unfold pBool at hb
      split at hb
      · rename_i e; cases hb; rw [e]; rfl
      · cases hb
    exact ⟨fun h => by have := key _ h; simp only [this] at main; exact main, fun h => by have := key _ h; simp only [this] at main; exact main⟩

theorem chkA_ok {k : LX} {as : List A} (h : as.all flatA = true → LXok C.P X M o ρ st k) : LXok C.P X M o ρ st (chkA as k) := by
  induction as with
  | nil => exact h rfl
  | cons a as ih => intro ha; exact ih fun hv => h (by simp only [List.all_cons, Bool.and_eq_true]; exact ⟨ha, hv⟩)
theorem chkRs_ok {k : LX} : ∀ {ks : List Nat} {rs : List (List (List A))}, (flatRs ks rs = true → LXok C.P X M o ρ st k) → LXok C.P X M o ρ st (chkRs ks rs k)
  | [], [], h => h rfl
  | [], _ :: _, h => h rfl
  | _ :: _, [], h => h rfl
  | kk :: ks, r :: rs, h => by
    unfold chkRs
    split
    · rename_i hk; exact chkRs_ok fun hv => h (by simp only [flatRs, hk, Bool.true_or, Bool.true_and]; exact hv)
    · intro hr; exact chkRs_ok fun hv => h (by simp only [flatRs, hr, Bool.or_true, Bool.true_and]; exact hv)
mutual
theorem flatV_toV {as : List A} (h : as.all flatA = true) : ∀ s : Sh, flatV (s.toV as) = true
  | .d i => by
    simp only [Sh.toV, flatV]
    rw [List.getD_eq_getElem?_getD]
    cases hi : as[i]? with
    | none => rfl
    | some a => exact List.all_eq_true.1 h a (List.mem_of_getElem? hi)
  | .row _ => rfl
  | .ptr _ _ => rfl
  | .agg l => by simp only [Sh.toV, flatV]; exact flatVL_toV h l
  | .tup l => by simp only [Sh.toV, flatV]; exact flatVL_toV h l
theorem flatVL_toV {as : List A} (h : as.all flatA = true) : ∀ l : List Sh, flatVL (Sh.toVL as l) = true
  | [] => rfl
  | s :: l => by simp only [Sh.toVL, flatVL, Bool.and_eq_true]; exact ⟨flatV_toV h s, flatVL_toV h l⟩
end
theorem rdCall_ok {th : Bool} (hS : StM X C M) {nid : Nat} {f : Operand} {xs : Array Operand} {ts : Array TypeId} (ho : o.op = .call { callee := .value f, args := xs, argTypes := ts }) {g : FuncId} {caps : List V} (hf : ρ f = .fn g caps) {sgs : Sig} (hsig : C.sig g = some sgs) :
    LXok C.P X M o ρ st (rdCall th st nid g sgs (nilL C.D ts.toList (xs.toList.map ρ) ++ caps)) := by
  have mf : f ∈ o.op.operands := by simp [ho, Op.operands, Call.operands]
  have mx : ∀ x ∈ xs.toList, x ∈ o.op.operands := fun x hx => by simp [ho, Op.operands, Call.operands]; exact Or.inr (by simpa using hx)
  unfold rdCall
  split
  · rename_i as0 rds sg hto halt
    split
    · rename_i hc
      simp only [Bool.and_eq_true] at hc
      intro out hout
      refine bindD_ok _ _ _ fun as hla hda => bindR_ok _ _ _ fun rs hlr hdr => chkA_ok fun hf1 => chkRs_ok fun hf2 => ?_
      have hws : sg.ws = [] := List.eq_nil_of_length_eq_zero (altOf_spec halt)
      have hp := hS g (as0.map V.d) [] sgs sg out hsig halt hout
      refine ⟨TOp.rdcall ho hp hws (fun w O0 m st' ev hs hg hr => ?_) ⟨hla, fun i a h => by simpa using hda i a h, hlr, fun j r k h1 h2 => hdr j r k h1 h2⟩ (flatV_toV hf1 _) hf2 hc.2, fun r hr => ?_⟩
      · have hf' := hr f mf
        rw [hf] at hf'
        simp only [relV] at hf'
        obtain ⟨us, g1, g2⟩ := hf'
        have g3 := relVL_ev (w := w) (O := Ow O0 m st') (m := m) (ρ := ρ) (ev := ev) xs.toList fun x hx => hr x (mx x hx)
        exact ⟨us, g1, relL_toA hs 60 _ (toAL_agr 60 _ hto hg) (relVL_append (relVL_nilL g3) g2)⟩
      · rcases List.mem_append.1 hr with hr | hr
        · exact toAL_rds 60 _ hto r hr
        · refine frRds_of (fun id hid => ?_) r hr
          have := List.all_eq_true.mp hc.1 id hid
          cases hst : st id <;> rw [hst] at this <;> first | rfl | cases this
    · trivial
  · trivial

theorem kidA_rds {v : V} {a : A} {is : List Nat} {rs : List Rd} (h : kidA st v = some (a, is, rs)) : ∀ r ∈ rs, agr st r := by
  unfold kidA at h
  split at h
  · cases h; simp
  · cases h; simp
  · split at h
    · rename_i he
      cases h
      intro r hr
      rw [List.mem_singleton.1 hr]
      exact he
    · cases h
  · cases h
theorem kidsA_rds : ∀ {vs : List V} {as : List A} {is : List Nat} {rs : List Rd}, kidsA st vs = some (as, is, rs) → ∀ r ∈ rs, agr st r
  | [], _, _, _, h => by simp only [kidsA] at h; cases h; simp
  | v :: vs, _, _, _, h => by
    simp only [kidsA] at h
    split at h
    · rename_i h1 h2
      cases h
      intro r hr
      rcases List.mem_append.1 hr with hr | hr
      · exact kidA_rds h1 r hr
      · exact kidsA_rds h2 r hr
    · cases h

theorem chkVals_ok {k : LX} {vs : List V} (h : valsV vs = true → LXok C.P X M o ρ st k) : LXok C.P X M o ρ st (chkVals vs k) := by
  induction vs with
  | nil => exact h rfl
  | cons v vs ih =>
    cases v with
    | d a =>
      intro ha
      exact ih fun hv => h (by simp only [valsV, Bool.and_eq_true]; exact ⟨ha, hv⟩)
    | _ => exact ih fun hv => h (by simp only [valsV]; exact hv)
theorem allD_ok {id i k j : Nat} : ∀ {vs vs' : List V}, allD vs = some vs' → substL id i k j vs = some vs'
  | [], _, h => by simp only [allD] at h; cases h; rfl
  | v :: vs, _, h => by
    unfold allD at h
    split at h
    · rename_i e; cases e
    · rename_i a vs1 e
      cases e
      obtain ⟨l, hl, rfl⟩ := Option.map_eq_some_iff.1 h
      simp only [substL, subst1, allD_ok hl]
    · cases h
theorem substF_ok {id i k j : Nat} : ∀ {vs vs2 : List V}, substF vs = some (vs2, (id, i, k, j)) → substL id i k j vs = some vs2
  | [], _, h => by simp only [substF] at h; cases h
  | v :: vs, _, h => by
    unfold substF at h
    split at h
    · cases h
    · rename_i a vs1 e
      cases e
      obtain ⟨⟨l, q⟩, hl, he⟩ := Option.map_eq_some_iff.1 h
      simp only [Prod.mk.injEq] at he
      obtain ⟨rfl, rfl⟩ := he
      simp only [substL, subst1, substF_ok hl]
    · rename_i id' i' k' j' vs1 e
      cases e
      obtain ⟨l, hl, he⟩ := Option.map_eq_some_iff.1 h
      simp only [Prod.mk.injEq] at he
      obtain ⟨rfl, rfl, rfl, rfl, rfl⟩ := he
      have : ∀ n : Nat, Nat.beq n n = true := fun n => Nat.beq_refl n
      simp only [substL, subst1, this, Bool.and_self, if_true, allD_ok hl]
    · cases h
theorem valsV_map : ∀ {ds : List A}, valsV (ds.map V.d) = true → ds.all isVal = true
  | [], _ => rfl
  | d :: ds, h => by
    simp only [List.map_cons, valsV, Bool.and_eq_true] at h
    simp only [List.all_cons, Bool.and_eq_true]
    exact ⟨h.1, valsV_map h.2⟩
theorem treStore_ok {t : TypeId} {a x : Operand} (ho : o.op = .store t a x) {i : TI} (hi : TI.ok C.P t i) {id ii k j : Nat} {f : Bool} (ha : ρ a = .rptr id ii k j) {xs : List (List A)} (hst : st id = .tre f k xs) {vs : List V}
    (hx : ∀ (w : World) (O : Nat → Prop) (m : Asg) (u : Value), relV w O m (ρ x) u → relVL w O m vs u.cells.toList) (hl : j + i.size ≤ k) : LXok C.P X M o ρ st (treStore st id ii k j i.size f xs vs) := by
  unfold treStore
  split
  · split
    · rename_i as is rs hk
      split
      · rename_i hc
        simp only [Bool.and_eq_true, Bool.not_eq_true'] at hc
        obtain ⟨h1, h2, h3⟩ := hc
        have h3 := Nat.eq_of_beq_eq_true h3
        refine chkVals_ok fun hv => ?_
        intro cs hcs
        refine ⟨TOp.storeKids ho hi ha hx hk hv (nodupN_ok h1) (fun h => ?_) h3 (by omega), fun r hr => ?_⟩
        · rw [hasN_iff.2 h] at h2; cases h2
        · rcases List.mem_cons.1 hr with rfl | hr
          · exact ⟨xs, hst, hcs⟩
          · exact kidsA_rds hk r hr
      · trivial
    · trivial
  · split
    · rename_i ds hd
      split
      · rename_i hc
        have hc := Nat.eq_of_beq_eq_true hc
        refine chkVals_ok fun hv => ?_
        intro cs hcs ho'
        refine ⟨TOp.storeTre ho hi ha (fun w O m u hu => relL_datL hd (hx w O m u hu)) (valsV_map hv) hc (by omega) (by rw [hc]; exact ho'), fun r hr => ?_⟩
        rw [List.mem_singleton.1 hr]
        exact ⟨xs, hst, hcs⟩
      · trivial
    · trivial

theorem treDet_ok {t : TypeId} {x : Operand} (ho : o.op = .load t x) {i : TI} (hi : TI.ok C.P t i) (hnp : i.kind.plain = false) {nid : Nat} : LXok C.P X M o ρ st (treDet C.D st nid i (ρ x)) := by
  unfold treDet
  split
  · rename_i id ii k j l hx hl
    split
    · rename_i k' xs hst
      split
      · rename_i hc
        simp only [Bool.and_eq_true, Bool.not_eq_true'] at hc
        obtain ⟨⟨c1, c2, c3⟩, c4, c5, c6, c7⟩ := hc
        have c1 := Nat.eq_of_beq_eq_true c1
        have c2 := Nat.eq_of_beq_eq_true c2
        have c3 := Nat.eq_of_beq_eq_true c3
        have c5 := Nat.eq_of_beq_eq_true c5
        subst c1 c2 c3
        intro cs hcs hv ys hys
        have hd : st nid = .dead := by cases h : st nid <;> rw [h] at c6 <;> first | rfl | cases c6
        have hsl : cGet cs 1 = .sl l ys := by
          unfold pRows at hys
          split at hys
          · rename_i k2 ys2 e
            split at hys
            · rename_i e2
              cases hys
              rw [e, e2]
            · cases hys
          · cases hys
        refine ⟨TOp.loadDetach ho hi c4 hnp c5 hx hv hsl (fun e => by rw [e] at c7; simp at c7), fun r hr => ?_⟩
        simp only [List.mem_cons, List.not_mem_nil, or_false] at hr
        rcases hr with rfl | rfl
        · exact ⟨xs, hst, hcs⟩
        · exact hd
      · trivial
    · trivial
  · trivial
theorem treLoad_ok {nid : Nat} {t : TypeId} {x : Operand} (ho : o.op = .load t x) {i : TI} (hi : TI.ok C.P t i) : LXok C.P X M o ρ st (treLoad C.D nid st i (ρ x)) := by
  unfold treLoad
  split
  · rename_i hp
    split
    · rename_i id ii k j hx
      split
      · rename_i f k' xs hst
        split
        · rename_i hk
          have hk := Nat.eq_of_beq_eq_true hk
          subst hk
          intro cs hcs
          split
          · rename_i hc
            simp only [Bool.and_eq_true] at hc
            obtain ⟨_, rfl⟩ := hc
            intro hs
            exact ⟨TOp.loadSub ho hi hp hx hs, fun r hr => by rw [List.mem_singleton.1 hr]; exact ⟨xs, hst, hcs⟩⟩
          · intro hs
            exact ⟨TOp.loadVal ho hi hp hx hs, fun r hr => by rw [List.mem_singleton.1 hr]; exact ⟨xs, hst, hcs⟩⟩
        · trivial
      · trivial
    · trivial
  · rename_i hp
    exact treDet_ok ho hi (by simpa using hp)

theorem subCall_ok (hS : StM X C M) {f : Operand} {xs : Array Operand} {ts : Array TypeId} (ho : o.op = .call { callee := .value f, args := xs, argTypes := ts }) {g : FuncId} {caps : List V} (hf : ρ f = .fn g caps) {sgs : Sig} (hsig : C.sig g = some sgs) (p : List V × (Nat × Nat × Nat × Nat)) (hp0 : substF (nilL C.D ts.toList (xs.toList.map ρ) ++ caps) = some p) :
    LXok C.P X M o ρ st (subCall st g sgs p) := by
  have mf : f ∈ o.op.operands := by simp [ho, Op.operands, Call.operands]
  have mx : ∀ x ∈ xs.toList, x ∈ o.op.operands := fun x hx => by simp [ho, Op.operands, Call.operands]; exact Or.inr (by simpa using hx)
  obtain ⟨vs2, id, i, k, j⟩ := p
  have hsub := substF_ok hp0
  unfold subCall
  dsimp only
  split
  rotate_left
  · trivial
  rename_i sg k' rows halt hst
  split
  rotate_left
  · trivial
  rename_i kk hws hnw hks
  split
  rotate_left
  · trivial
  rename_i hc
  simp only [Bool.and_eq_true] at hc
  have hk := Nat.eq_of_beq_eq_true hc.1
  have hkk := Nat.eq_of_beq_eq_true hc.2.1
  have h128 : Nat.blt (kk - 64 + 64) 128 = true := by rw [hkk]; exact hc.2.2
  subst hk
  intro cs hcs ys hys out hout
  have hp := hS g vs2 [.tre true (kk - 64) ys] sgs sg out hsig halt hout
  have hca : cs[j]? = some (.sl (kk - 64) ys) := by
    unfold pRows at hys
    split at hys
    · rename_i k2 xs2 he
      split at hys
      · rename_i h2
        cases hys
        subst h2
        unfold cGet at he
        rw [List.getD_eq_getElem?_getD] at he
        cases hq : cs[j]? with
        | none => rw [hq] at he; cases he
        | some a => rw [hq] at he; simp at he; rw [he]
      · cases hys
    · cases hys
  refine bindD_ok _ _ _ fun as la da => ?_
  intro r hr
  refine ⟨?_, fun q hq => by rw [List.mem_singleton.1 hq]; exact ⟨rows, hst, hcs⟩⟩
  have hov : cOver cs j [.sl (kk - 64) r] = cs.set j (.sl (kk - 64) r) := by
    have hlt := (List.getElem?_eq_some_iff.1 hca).1
    have := over_cons (cs := cs) (off := j) (d := A.sl (kk - 64) r) (ds := []) (by simp; omega)
    unfold cOver
    rw [← this]; simp [over]
  rw [hov]
  refine TOp.subcall ho hp hws hnw (by rw [hks, hkk]) h128 hca hsub (fun w O0 m st' ev hs hr => ?_) ⟨la, fun q a h => by simpa using da q a h, by rw [hks]; rfl, fun q r' k2 h1 h2 => ?_⟩
  · have hf' := hr f mf
    rw [hf] at hf'
    simp only [relV] at hf'
    obtain ⟨us, g1, g2⟩ := hf'
    have g3 := relVL_ev (w := w) (O := Ow O0 m st') (m := m) (ρ := ρ) (ev := ev) xs.toList fun x hx => hr x (mx x hx)
    exact ⟨us, g1, relVL_append (relVL_nilL g3) g2⟩
  · rw [hks] at h2
    cases q with
    | zero => simp at h1 h2; subst h1 h2; simpa using hr
    | succ q => simp at h1

theorem allD_okR {id : Nat} : ∀ {vs vs' : List V}, allD vs = some vs' → substR id vs = some vs'
  | [], _, h => by simp only [allD] at h; cases h; rfl
  | v :: vs, _, h => by
    unfold allD at h
    split at h
    · rename_i e; cases e
    · rename_i a vs1 e
      cases e
      obtain ⟨l, hl, rfl⟩ := Option.map_eq_some_iff.1 h
      simp only [substR, substR1, allD_okR hl]
    · cases h
theorem substG_ok {id : Nat} : ∀ {vs vs2 : List V}, substG vs = some (vs2, id) → substR id vs = some vs2
  | [], _, h => by simp only [substG] at h; cases h
  | v :: vs, _, h => by
    unfold substG at h
    split at h
    · cases h
    · rename_i a vs1 e
      cases e
      obtain ⟨⟨l, q⟩, hl, he⟩ := Option.map_eq_some_iff.1 h
      simp only [Prod.mk.injEq] at he
      obtain ⟨rfl, rfl⟩ := he
      simp only [substR, substR1, substG_ok hl]
    · rename_i id' vs1 e
      cases e
      obtain ⟨l, hl, he⟩ := Option.map_eq_some_iff.1 h
      simp only [Prod.mk.injEq] at he
      obtain ⟨rfl, rfl⟩ := he
      have : ∀ n : Nat, Nat.beq n n = true := fun n => Nat.beq_refl n
      simp only [substR, substR1, this, if_true, allD_okR hl]
    · cases h
theorem flatSel_ok {sgs : Sig} {vs vs2 : List V} {id k : Nat} {xs : List (List A)} (h : flatSel st sgs vs = some (vs2, id, k, xs)) : substR id vs = some vs2 ∧ st id = .row k xs := by
  unfold flatSel at h
  split at h
  · rename_i vs3 id3 hg
    split at h
    · rename_i k3 xs3 sg hst _
      split at h
      · split at h
        · cases h
          exact ⟨substG_ok hg, hst⟩
        · cases h
      · cases h
    · cases h
  · cases h
theorem flatCall_ok (hS : StM X C M) {f : Operand} {xs : Array Operand} {ts : Array TypeId} (ho : o.op = .call { callee := .value f, args := xs, argTypes := ts }) {g : FuncId} {caps : List V} (hf : ρ f = .fn g caps) {sgs : Sig} (hsig : C.sig g = some sgs) (q : List V × Nat × Nat × List (List A)) (hp0 : flatSel st sgs (nilL C.D ts.toList (xs.toList.map ρ) ++ caps) = some q) :
    LXok C.P X M o ρ st (flatCall g sgs q) := by
  have mf : f ∈ o.op.operands := by simp [ho, Op.operands, Call.operands]
  have mx : ∀ x ∈ xs.toList, x ∈ o.op.operands := fun x hx => by simp [ho, Op.operands, Call.operands]; exact Or.inr (by simpa using hx)
  obtain ⟨vs2, id, k, ys⟩ := q
  obtain ⟨hsub, hst⟩ := flatSel_ok hp0
  unfold flatCall
  dsimp only
  split
  rotate_left
  · trivial
  rename_i sg halt
  split
  rotate_left
  · trivial
  rename_i kk hws hnw hks
  split
  rotate_left
  · trivial
  rename_i hc
  simp only [Bool.and_eq_true] at hc
  have hkk := Nat.eq_of_beq_eq_true hc.1
  have h128 : Nat.blt (k + 64) 128 = true := by rw [hkk]; exact hc.2
  intro hval out hout
  have hp := hS g vs2 [.tre true k ys] sgs sg out hsig halt hout
  refine bindD_ok _ _ _ fun as la da => ?_
  intro r hr
  refine ⟨?_, fun q hq => by rw [List.mem_singleton.1 hq]; exact hst⟩
  refine TOp.flatcall ho hp hws hnw (by rw [hks, hkk]) h128 hval hsub (fun w O0 m st' ev hs hr => ?_) ⟨la, fun q a h => by simpa using da q a h, by rw [hks]; rfl, fun q r' k2 h1 h2 => ?_⟩
  · have hf' := hr f mf
    rw [hf] at hf'
    simp only [relV] at hf'
    obtain ⟨us, g1, g2⟩ := hf'
    have g3 := relVL_ev (w := w) (O := Ow O0 m st') (m := m) (ρ := ρ) (ev := ev) xs.toList fun x hx => hr x (mx x hx)
    exact ⟨us, g1, relVL_append (relVL_nilL g3) g2⟩
  · rw [hks] at h2
    cases q with
    | zero => simp at h1 h2; subst h1 h2; simpa using hr
    | succ q => simp at h1

theorem sealCall_ok (hM : PureM X C M) {f : Operand} {xs : Array Operand} {ts : Array TypeId} (ho : o.op = .call { callee := .value f, args := xs, argTypes := ts }) {g : FuncId} {caps : List V} (hf : ρ f = .fn g caps) :
    LXok C.P X M o ρ st (sealCall C st g (nilL C.D ts.toList (xs.toList.map ρ) ++ caps)) := by
  have mf : f ∈ o.op.operands := by simp [ho, Op.operands, Call.operands]
  have mx : ∀ x ∈ xs.toList, x ∈ o.op.operands := fun x hx => by simp [ho, Op.operands, Call.operands]; exact Or.inr (by simpa using hx)
  unfold sealCall
  split
  · rename_i as p hseal
    split
    · rename_i hpure
      intro out hout x hx
      refine ⟨TOp.sealmap ho hseal (hM g as out hpure hout) hx (fun w O0 m st' ev hs hr => ?_), sealM_rds hseal⟩
      have hf' := hr f mf
      rw [hf] at hf'
      simp only [relV] at hf'
      obtain ⟨us, g1, g2⟩ := hf'
      have g3 := relVL_ev (w := w) (O := Ow O0 m st') (m := m) (ρ := ρ) (ev := ev) xs.toList fun x hx => hr x (mx x hx)
      exact ⟨us, g1, relVL_append (relVL_nilL g3) g2⟩
    · trivial
  rename_i hnone
  clear hnone
  split
  · rename_i v hv
    split
    · rename_i a r ws hseal
      split
      · rename_i hpure
        intro out hout x hx
        refine ⟨TOp.sealcall ho hseal (hM g [a] out hpure hout) hx (fun w O0 m st' ev hs hr => ?_), sealV_rds hseal⟩
        have hf' := hr f mf
        rw [hf] at hf'
        simp only [relV] at hf'
        obtain ⟨us, g1, g2⟩ := hf'
        have g3 := relVL_ev (w := w) (O := Ow O0 m st') (m := m) (ρ := ρ) (ev := ev) xs.toList fun x hx => hr x (mx x hx)
        refine ⟨us, g1, ?_⟩
        rw [← hv]
        exact relVL_append (relVL_nilL g3) g2
      · trivial
    · trivial
  · trivial

theorem isIntT_spec (hD : TyOk C.P C.D) {t : Nat} (h : isIntT C t = true) : ∃ k, C.P.underlying t = some (.int k) := by
  unfold isIntT at h
  split at h
  · rename_i i hi
    split at h
    · rename_i k hk; exact ⟨k, kind_desc hD hi hk⟩
    · cases h
  · cases h

theorem evL_sound (hD : TyOk C.P C.D) (hM : PureM X C M) (hS : StM X C M) (nid : Nat) (hnid : st nid = .dead) : LXok C.P X M o ρ st (evL C o ρ st nid) := by
  have hfresh : ∀ x ∈ [Rd.fresh nid], agr st x := by simpa [agr] using hnid
  unfold evL
  split
  · rename_i t x ho
    split
    · rename_i i hi
      split
      · refine cellsL_ok fun ds h1 h2 h3 => ⟨TOp.box ho (fun w O m u hu => rel_nilV hu) h1, hfresh⟩
      · trivial
    · trivial
  · rename_i t ho
    split
    · rename_i i hi
      refine chkCells_ok fun h1 h2 => ⟨TOp.alloc ho (hD _ _ hi) (fun w O m => relVL_zero t i) ?_, hfresh⟩
      exact relVL_ones (w := default) (O := fun _ => False) (m := fun _ => none) (relVL_zero t i) h1 h2
    · trivial
  · rename_i t ho; exact ⟨TOp.makeMap ho, hfresh⟩
  · rename_i t x k y ho
    split
    · rename_i ti ka ht hka
      split
      · rename_i kt et hk
        split
        · rename_i ki hki
          split
          · rename_i ks id va hks hx hva
            split
            · rename_i xs hst
              intro ys hys
              exact ⟨TOp.mapUpdate ho (kind_desc hD ht hk) (keyK_desc hks (hD _ _ hki).desc) hx hka (fun w O m u hu => rel_datV hva (rel_nilV hu)) hys, by simpa [agr] using hst⟩
            · trivial
          · trivial
        · trivial
      · trivial
    · trivial
  · rename_i t a x ho
    split
    · rename_i i hi
      split
      · split
        · rename_i id off ha
          split
          · rename_i cs hst
            refine cellsL_ok fun ds h1 h2 h3 => ?_
            split
            · rename_i hl
              simp only [Bool.and_eq_true, Nat.ble_eq] at hl
              have hl1 := Nat.eq_of_beq_eq_true hl.1
              exact ⟨TOp.storeBox ho (hD _ _ hi) ha (fun w O m u hu => h1 w O m u (rel_nilV hu)) hl1 (by omega), by simpa [agr] using ⟨cs, hst, rfl⟩⟩
            · trivial
          · trivial
        · rename_i id ii k j ha
          split
          · rename_i k' xs hst
            split
            · rename_i hk
              simp only [Bool.and_eq_true, Nat.ble_eq] at hk
              have hk1 := Nat.eq_of_beq_eq_true hk.1
              subst hk1
              refine cellsL_ok fun vs h1 h2 h3 => ?_
              cases hs : sealC st vs with
              | none => trivial
              | some y =>
                obtain ⟨ds, r, ws⟩ := y
                simp only
                split
                · rename_i hl
                  simp only [Bool.and_eq_true] at hl
                  have hl1 := Nat.eq_of_beq_eq_true hl.1
                  intro cs hcs
                  refine ⟨TOp.storeRow ho (hD _ _ hi) ha (fun w O m u hu => (h1 w O m u (rel_nilV hu)).1) hs (sealC_okA hs h2).1 hl1 (by omega) (noSeal_spec hl.2), fun x hx => ?_⟩
                  rcases List.mem_cons.1 hx with rfl | hx
                  · exact ⟨xs, hst, hcs⟩
                  · exact sealC_rds hs x hx
                · trivial
            · trivial
          · rename_i f k' xs hst
            split
            · rename_i hk
              simp only [Bool.and_eq_true, Nat.ble_eq] at hk
              have hk1 := Nat.eq_of_beq_eq_true hk.1
              subst hk1
              exact cellsL_ok fun vs h1 h2 h3 => treStore_ok ho (hD _ _ hi) ha hst (fun w O m u hu => (h1 w O m u (rel_nilV hu)).1) hk.2
            · trivial
          · trivial
        · trivial
      · trivial
    · trivial
  · rename_i t x ho
    split
    · rename_i i hi
      exact treLoad_ok ho (hD _ _ hi)
    · trivial
  · rename_i op t x y u ho
    split
    · rename_i hc
      rw [Bool.and_eq_true] at hc
      split
      · rename_i ti ht
        split
        · rename_i e hk
          have hu := kind_desc hD ht hk
          have gen : ∀ rds N, (∀ (w : World) (O0 : Nat → Prop) (m : Asg) (st' : Stor) (v : Value), Sto X w O0 m st' → (∀ r ∈ rds, agr st' r) → relV w (Ow O0 m st') m (ρ x) v → ∃ a n c, v = .slice a n c ∧ (N ≠ 0 → a.isNone = false)) → TOp C.P X o ρ ⟨.ub N (isNeq op), rds, []⟩ :=
            fun rds N hv => TOp.nilEq ho hc.2 hc.1 hu hv
          have hsl : ∀ {w : World} {O : Nat → Prop} {k : Nat} {xs : List (List A)} {v : Value}, rel w O (.sl k xs) v → ∃ a n c, v = .slice a n c ∧ (rCnt xs ≠ 0 → a.isNone = false) := by
            intro w O k xs v hr
            simp only [rel] at hr
            obtain ⟨a, c, h, _, _, h4⟩ := hr
            refine ⟨a, _, c, h, fun h0 => ?_⟩
            rcases h4 with rfl | ⟨b, off, rfl, _⟩
            · exact absurd rfl h0
            · rfl
          unfold nilL?
          split
          · rename_i a hx
            intro ys hys
            refine ⟨gen [] _ fun w O0 m st' v _ _ hr => ?_, by simp⟩
            rw [hx] at hr
            unfold pSlA at hys
            split at hys
            · cases hys
              simp only [relV] at hr
              exact hsl hr
            · cases hys
          · rename_i hx
            refine ⟨gen [] 0 fun w O0 m st' v _ _ hr => ?_, by simp⟩
            rw [hx] at hr
            simp only [relV] at hr
            obtain ⟨a, h⟩ := hr
            exact ⟨a, _, _, h, fun h => absurd rfl h⟩
          · rename_i id hx
            split
            · rename_i k xs hst
              refine ⟨gen _ _ fun w O0 m st' v hs hg hr => ?_, by simpa [agr] using hst⟩
              rw [hx] at hr
              obtain ⟨hd, q1, q2, q3⟩ := row_at hs (hg _ (List.mem_singleton.2 rfl)) hr
              cases hd with
              | tre => exact q3.elim
              | mp => exact q3.elim
              | none =>
                simp only [rowOk] at q3
                simp only [hdr] at q2
                subst q3
                obtain ⟨a, h⟩ := q2
                exact ⟨a, _, _, h, fun h => absurd rfl h⟩
              | blk b c n =>
                simp only [hdr] at q2
                exact ⟨_, _, _, q2, fun _ => rfl⟩
            · rename_i k xs hst
              refine ⟨gen _ _ fun w O0 m st' v hs hg hr => ?_, by simpa [agr] using hst⟩
              rw [hx] at hr
              exact hsl (fro_rel hs (hg _ (List.mem_singleton.2 rfl)) hr)
            · trivial
          · trivial
        · trivial
      · trivial
    · trivial
  · rename_i t x y ho
    split
    · rename_i ti ht
      split
      · rename_i e hk
        split
        · rename_i i a b hi ha hb
          split
          · split
            · rename_i z hz
              intro l hl hzo
              unfold pMake at hl
              split at hl
              · rename_i kl l' kc c'
                split at hl
                · rename_i hc
                  cases hl
                  have hxd : ρ x = .d (.val (.int kl l')) := by cases hx : ρ x <;> rw [hx] at ha <;> simp [dat] at ha; rw [ha]
                  have hyd : ρ y = .d (.val (.int kc c')) := by cases hy : ρ y <;> rw [hy] at hb <;> simp [dat] at hb; rw [hb]
                  simp only [rRep]
                  have hz' : ∀ w O, relL w O z i.zero.cells.toList := fun w O => rel_treZ (treZ_ok (w := default) (w' := w) (O := fun _ => False) (m := fun _ => none) hz (relVL_zero e i)).1
                  exact ⟨TOp.makeTre ho (kind_desc hD ht hk) (hD _ _ hi) hxd hyd rfl rfl hc.1 hc.2.1 hc.2.2.1 hc.2.2.2 hz' (fun w => (treZ_ok (w := default) (w' := w) (O := fun _ => False) (m := fun _ => none) hz (relVL_zero e i)).1) (ones_of (hz' default fun _ => False) hzo), hfresh⟩
                · cases hl
              · cases hl
            · trivial
          split
          · rename_i z hz
            intro l hl hzo
            unfold pMake at hl
            split at hl
            · rename_i kl l' kc c'
              split at hl
              · rename_i hc
                cases hl
                have hxd : ρ x = .d (.val (.int kl l')) := by cases hx : ρ x <;> rw [hx] at ha <;> simp [dat] at ha; rw [ha]
                have hyd : ρ y = .d (.val (.int kc c')) := by cases hy : ρ y <;> rw [hy] at hb <;> simp [dat] at hb; rw [hb]
                simp only [rRep]
                have hz' : ∀ w O, relL w O z i.zero.cells.toList := fun w O => relL_datL (m := fun _ => none) hz (relVL_zero e i)
                exact ⟨TOp.make ho (kind_desc hD ht hk) (hD _ _ hi) hxd hyd rfl rfl hc.1 hc.2.1 hc.2.2.1 hc.2.2.2 hz' (ones_of (hz' default fun _ => False) hzo), hfresh⟩
              · cases hl
            · cases hl
          · trivial
        · trivial
      · trivial
    · trivial
  · rename_i t n ps ho
    split
    · rename_i ti ht
      split
      · rename_i e hk
        split
        · rename_i i hi
          split
          · rename_i hn
            have hn0 := Nat.eq_of_beq_eq_true hn
            subst hn0
            split
            · rename_i hps
              have hps' : ps = #[] := by simpa using hps
              refine ⟨fun w O0 m st' ev hs hg hr _ => ?_, by simp⟩
              rw [run_buildSlice0 hD ho hps' (kind_desc hD ht hk) hi w]
              have hb := below_alloc w (.cells #[] e)
              exact ⟨m, Chg.below hb, hs.below hb, by simp only [relV]; exact ⟨_, rfl⟩⟩
            · trivial
          · rename_i hn
            split
            · rename_i hc
              simp only [Bool.and_eq_true, Nat.ble_eq, Nat.blt_eq] at hc
              split
              · rename_i z hz
                intro hzo
                refine partsL_ok _ [] [] [] [] ⟨rfl, by simp, fun n p q hp => by simp at hp, fun st' _ x hx => by cases hx⟩ fun acc r ws hp => ?_
                simp only [List.nil_append] at hp
                split
                · rename_i hr
                  have hn0 : 0 < n := Nat.pos_of_ne_zero fun e0 => hn (by rw [e0]; rfl)
                  refine ⟨TOp.buildSlice hD ho (kind_desc hD ht hk) hi hc.1.2 hn0 hc.2 hz hzo hp hr, fun x hx => ?_⟩
                  rcases List.mem_cons.1 hx with rfl | hx
                  · exact hnid
                  · exact hp.2.1 x hx
                · trivial
              · trivial
            · trivial
        · trivial
      · trivial
    · trivial
  · rename_i t x ix ho
    split
    · rename_i ti ht
      split
      · rename_i e hk
        split
        · rename_i i id b hi hx hb
          split
          · rename_i k xs hst
            split
            · rename_i hk'
              have hk' := Nat.eq_of_beq_eq_true hk'
              subst hk'
              intro n hn
              exact ⟨TOp.indexRow ho (kind_desc hD ht hk) (hD _ _ hi) hx hb hn, by simp [agr, hst]⟩
            · trivial
          · rename_i f k xs hst
            split
            · rename_i hk'
              have hk' := Nat.eq_of_beq_eq_true hk'
              subst hk'
              intro n hn
              exact ⟨TOp.indexTre ho (kind_desc hD ht hk) (hD _ _ hi) hx hb hn, by simp [agr, hst]⟩
            · trivial
          · trivial
        · rename_i i id k off n b hi hx hb
          split
          · rename_i k' xs hst
            split
            · rename_i hkk
              simp only [Bool.and_eq_true] at hkk
              have hk1 := Nat.eq_of_beq_eq_true hkk.1
              have hk2 := Nat.eq_of_beq_eq_true hkk.2
              subst hk1
              subst hk2
              intro j hj
              exact ⟨TOp.winIndex ho (kind_desc hD ht hk) (hD _ _ hi) hx hb hj, by simp [agr, hst]⟩
            · trivial
          · trivial
        · trivial
      · trivial
    · trivial
  · rename_i t x lo hi ho
    split
    · rename_i ti ht
      split
      · rename_i e hk
        split
        · rename_i i id k off n l h hii hx hl hh
          obtain ⟨l1, l2⟩ := bnd_spec hl
          obtain ⟨u1, u2⟩ := bnd_spec hh
          rw [← hx]
          exact winL_ok ho (kind_desc hD ht hk) (hD _ _ hii) l1 l2 u1 u2
        · rename_i i k l h hii hx hl hh
          obtain ⟨l1, l2⟩ := bnd_spec hl
          obtain ⟨u1, u2⟩ := bnd_spec hh
          intro h' hh' l' hl'
          rw [pLo_eq] at hl'
          exact ⟨TOp.sliceNil ho (kind_desc hD ht hk) (hD _ _ hii) hx l1 l2 u1 u2 hh' hl', by simp⟩
        · rename_i i id l h hii hx hl hh
          split
          · obtain ⟨l1, l2⟩ := bnd_spec hl
            obtain ⟨u1, u2⟩ := bnd_spec hh
            rw [← hx]
            exact winL_ok ho (kind_desc hD ht hk) (hD _ _ hii) l1 l2 u1 u2
          split
          · rename_i k xs hst
            split
            · rename_i hk'
              have hk' := Nat.eq_of_beq_eq_true hk'
              subst hk'
              obtain ⟨l1, l2⟩ := bnd_spec hl
              obtain ⟨u1, u2⟩ := bnd_spec hh
              intro r hr
              exact ⟨TOp.sliceRow ho (kind_desc hD ht hk) (hD _ _ hii) hx l1 l2 u1 u2 hr, by simpa [agr] using hst⟩
            · trivial
          · trivial
        · trivial
      · trivial
    · trivial
  · rename_i t x l h m ho
    have m1 : x ∈ o.op.operands := by simp [ho, Op.operands]
    have m2 : l ∈ o.op.operands := by simp [ho, Op.operands]
    have m3 : h ∈ o.op.operands := by simp [ho, Op.operands]
    have m4 : m ∈ o.op.operands := by simp [ho, Op.operands]
    split
    · split
      · rename_i ti ht
        split
        · rename_i e hk
          split
          · rename_i i p l' h' m' hi hp hl hh hm
            split
            · rename_i hkk
              intro mm e1 hh' e2 ll e3
              exact ⟨TOp.win3 ho (kind_desc hD ht hk) (hD _ _ hi) hp hl hh hm e1 e2 e3, by simpa [agr] using ⟨_, (winP_ok (X := X) hp).1, rfl⟩⟩
            · trivial
          · trivial
        · trivial
      · trivial
    split
    · rename_i ti k1 k2 k3 ht hl hh hm
      split
      · rename_i e hk
        split
        · rename_i i a hi hx
          intro ys hys
          refine ⟨TOp.same fun w O0 mm st' ev hs hg hr => ?_, by simp⟩
          have hx' := hr x m1
          have e1 := hr l m2
          have e2 := hr h m3
          have e3 := hr m m4
          rw [hx] at hx'
          rw [hl] at e1
          rw [hh] at e2
          rw [hm] at e3
          simp only [relV, rel] at e1 e2 e3
          simp only [relV] at hx'
          unfold pRows at hys
          split at hys
          · simp only [rel] at hx'
            obtain ⟨ad, c, hv, _⟩ := hx'
            exact ⟨_, run_slice0 ho (kind_desc hD ht hk) (hD _ _ hi) hv e1 e2 e3, by simp only [relV]; exact ⟨ad, rfl⟩⟩
          · cases hys
        · trivial
      · trivial
    · trivial
  · rename_i t ps ho
    split
    · rename_i i hi
      split
      · rename_i fs hk
        split
        · rename_i hfs
          refine partsV_ok hD _ _ fun cs hcs => ⟨TOp.same fun w O0 m st' ev hs hg hrel => ?_, by simp⟩
          have h1 : relVL w (Ow O0 m st') m ((ps.toList.map fun p => (p.1, ρ p.2)).map Prod.snd) ((ps.toList.map fun p => (p.1, ev p.2)).map Prod.snd) := by
            rw [List.map_map, List.map_map]
            have := relVL_ev (w := w) (O := Ow O0 m st') (m := m) (ρ := ρ) (ev := ev) (ps.toList.map Prod.snd) fun x hx => hrel x (by
              rw [ho]
              simp only [Op.operands]
              simpa using hx)
            rw [List.map_map, List.map_map] at this
            exact this
          obtain ⟨h2, h3⟩ := partTys_rel (C := C) (fs := fs) h1
          obtain ⟨cells', h6, h7⟩ := hcs w (Ow O0 m st') m (ps.toList.map fun p => (p.1, ev p.2)) i.zero.cells (relVL_zero t i) (by rw [h3]; simp) h2
          refine ⟨_, run_build hD ho hi hk hfs h6 (w := w), ?_⟩
          simp only [relV]
          exact ⟨cells'.toList, by simp, h7⟩
        · trivial
      · trivial
    · trivial
  · rename_i c ho
    obtain ⟨callee, args, ts⟩ := c
    dsimp only
    split
    · split
      · rename_i s x t t' hxs hts
        split
        · rename_i hint
          obtain ⟨l, rfl⟩ : ∃ l : List Operand, args = l.toArray := ⟨args.toList, by simp⟩
          have hxs : l = [s, x] := by simpa using hxs
          subst hxs
          obtain rfl : ts = #[t, t'] := by apply Array.ext'; simpa using hts
          split
          · rename_i ti ht
            split
            · rename_i e hk
              split
              · rename_i i hi
                split
                · rename_i k a z hs0 ha hz
                  intro n hn hfit hzo
                  unfold pMake at hn
                  split at hn
                  · rename_i kl l' kc c'
                    split at hn
                    · rename_i hc
                      cases hn
                      have hf := pFit_spec hfit
                      simp only [rRep]
                      have hz' : ∀ w O, relL w O z i.zero.cells.toList := fun w O => relL_datL (m := fun _ => none) hz (relVL_zero e i)
                      obtain ⟨kk, hu⟩ := isIntT_spec hD hint
                      exact ⟨TOp.appendZ ho rfl rfl (kind_desc hD ht hk) hu (hD _ _ hi) hs0 ha hc.1 hf.1 hf.2 hz' (ones_of (hz' default fun _ => False) hzo), hfresh⟩
                    · cases hn
                  · cases hn
                · trivial
              · trivial
            · trivial
          · trivial
        split
        · rename_i htt
          have htt := Nat.eq_of_beq_eq_true htt
          subst htt
          obtain rfl : ts = #[t, t] := by apply Array.ext'; simpa using hts
          obtain ⟨l, rfl⟩ : ∃ l : List Operand, args = l.toArray := ⟨args.toList, by simp⟩
          have hxs : l = [s, x] := by simpa using hxs
          subst hxs
          split
          · rename_i ti ht
            split
            · rename_i e hk
              split
              · rename_i i hi
                split
                · rename_i hs0
                  refine srcV_ok fun ys r hg hsrc hfit => ?_
                  have hf := pFit_spec hfit
                  exact ⟨TOp.append0 ho rfl rfl (kind_desc hD ht hk) (hD _ _ hi) hs0 hsrc hf.1 hf.2, fun y hy => by
                    rcases List.mem_cons.1 hy with rfl | hy
                    · exact hnid
                    · exact hg y hy⟩
                · rename_i id hs0
                  split
                  · rename_i k us hst
                    split
                    · rename_i hc
                      simp only [Bool.and_eq_true, Bool.not_eq_true'] at hc
                      have hk' := Nat.eq_of_beq_eq_true hc.1
                      subst hk'
                      have hne : nid ≠ id := fun e => by subst e; rw [hnid] at hst; cases hst
                      refine srcV_ok fun ys r hg hsrc hfit => ?_
                      have hf := pFit_spec hfit
                      exact ⟨TOp.append ho rfl rfl (kind_desc hD ht hk) (hD _ _ hi) hs0 hne hsrc hf.1 hf.2, fun y hy => by
                        rcases List.mem_cons.1 hy with rfl | hy
                        · exact hnid
                        · rcases List.mem_cons.1 hy with rfl | hy
                          · exact hst
                          · exact hg y hy⟩
                    · trivial
                  · trivial
                · rename_i id k off n hs0
                  split
                  · rename_i p hp
                    split
                    · rename_i hkk
                      have hkk := Nat.eq_of_beq_eq_true hkk
                      have hp' := hp
                      have hst := (winP_ok (X := X) hp).1
                      refine srcV_ok fun ys r hg hsrc hfit => ?_
                      have hf : p.off + p.n + ys.length ≤ p.xs.length := by simpa [pRoom] using hfit
                      rw [← hs0] at hp'
                      exact ⟨TOp.winAppend ho rfl rfl (kind_desc hD ht hk) (hD _ _ hi) hp' hkk hsrc hf, fun y hy => by
                        rcases List.mem_cons.1 hy with rfl | hy
                        · exact hst
                        · exact hg y hy⟩
                    · trivial
                  · trivial
                · trivial
              · trivial
            · trivial
          · trivial
        · trivial
      · trivial
    · split
      · rename_i x t hxs hts
        obtain ⟨l, rfl⟩ : ∃ l : List Operand, args = l.toArray := ⟨args.toList, by simp⟩
        have hxs : l = [x] := by simpa using hxs
        subst hxs
        obtain rfl : ts = #[t] := by apply Array.ext'; simpa using hts
        split
        · rename_i ti ht
          split
          · rename_i e hk
            split
            · rename_i k hx
              refine ⟨TOp.data fun w O0 m st' ev hs hg hr => ?_, by simp⟩
              have hx' := hr x (by simp [ho, Op.operands, Call.operands])
              rw [hx] at hx'
              simp only [relV] at hx'
              obtain ⟨a, hv⟩ := hx'
              refine ⟨.int .i64 0, ?_, by simp [rel]⟩
              simp [execOp, ho, resolve, invoke, builtin, Builtin.cap_, hv, run_underlying (kind_desc hD ht hk), goInt]
            · trivial
          · trivial
        · trivial
      · trivial
    · split
      · rename_i s x t t' hxs hts
        obtain ⟨l, rfl⟩ : ∃ l : List Operand, args = l.toArray := ⟨args.toList, by simp⟩
        have hxs : l = [s, x] := by simpa using hxs
        subst hxs
        obtain rfl : ts = #[t, t'] := by apply Array.ext'; simpa using hts
        split
        · rename_i ti ht
          split
          · rename_i e hk
            split
            · rename_i i p hi hp
              split
              · rename_i hkk
                have hkk := Nat.eq_of_beq_eq_true hkk
                refine srcV_ok fun ys r hg hsrc => ?_
                exact ⟨TOp.winCopy ho rfl rfl (kind_desc hD ht hk) (hD _ _ hi) hp hkk hsrc, fun y hy => by
                  rcases List.mem_cons.1 hy with rfl | hy
                  · exact (winP_ok (X := X) hp).1
                  · exact hg y hy⟩
              · trivial
            · trivial
          · trivial
        · trivial
      · trivial
    · split
      · rename_i x t hxs hts
        obtain ⟨l, rfl⟩ : ∃ l : List Operand, args = l.toArray := ⟨args.toList, by simp⟩
        have hxs : l = [x] := by simpa using hxs
        subst hxs
        obtain rfl : ts = #[t] := by apply Array.ext'; simpa using hts
        split
        · rename_i ti ht
          split
          · rename_i e hk
            split
            · rename_i i p hi hp
              split
              · rename_i hkk
                have hkk := Nat.eq_of_beq_eq_true hkk
                split
                · rename_i z hz
                  intro hzo
                  exact ⟨TOp.winClear ho rfl rfl (kind_desc hD ht hk) (hD _ _ hi) hp hkk (fun w O => relL_datL (m := fun _ => none) hz (relVL_zero e i)) hzo, by simpa [agr] using (winP_ok (X := X) hp).1⟩
                · trivial
              · trivial
            · trivial
          · trivial
        · trivial
      · trivial
    · split
      · rename_i g caps hf
        split
        · rename_i sgs hsig
          split
          · exact sealCall_ok hM ho hf
          split
          · exact rdCall_ok hS ho hf hsig
          · split
            · rename_i p hp0; exact subCall_ok hS ho hf hsig p hp0
            · split
              · rename_i q hq0; exact flatCall_ok hS ho hf hsig q hq0
              · exact stCall_ok hS ho hf hsig
        · trivial
      · trivial
    · trivial
  · trivial
end
end
end Go.Proofs.YtnbjmmldjggkfaaGreat.Abs
