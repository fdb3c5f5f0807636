/- TREES IN THE MAKING: what is stored into their cells becomes theirs. -/
import Derived.Test.YtjclanocnkankaaE11d
namespace Go.Proofs.Ytjclanocnkankaa.Abs
open Go Go.RowKit
noncomputable section

theorem blocksL_append : ∀ (a b : List Hd), Hd.blocksL (a ++ b) = Hd.blocksL a ++ Hd.blocksL b
  | [], b => by simp [Hd.blocksL]
  | h :: a, b => by simp [Hd.blocksL, blocksL_append a b, List.append_assoc]

theorem treL_append {w : World} : ∀ {ks : List Hd} {as : List A} {vs : List Value} {ks' : List Hd} {as' : List A} {vs' : List Value}, treL w as vs ks → treL w as' vs' ks' → treL w (as ++ as') (vs ++ vs') (ks ++ ks')
  | [], _, _, _, _, _, h, h' => by simp only [treL] at h; obtain ⟨rfl, rfl⟩ := h; simpa using h'
  | h :: hs, _, _, _, _, _, hr, h' => by
    obtain ⟨a, as1, v, vs1, rfl, rfl, h3, h4⟩ := treL_cons.1 hr
    exact treL_cons.2 ⟨a, _, v, _, rfl, rfl, h3, treL_append h4 h'⟩
theorem treL_take {w : World} : ∀ {ks : List Hd} {as : List A} {vs : List Value} (n : Nat), treL w as vs ks → treL w (as.take n) (vs.take n) (ks.take n)
  | ks, as, vs, 0, _ => by simp [treL]
  | [], _, _, n + 1, h => by simp only [treL] at h; obtain ⟨rfl, rfl⟩ := h; simp [treL]
  | h :: hs, _, _, n + 1, hr => by
    obtain ⟨a, as1, v, vs1, rfl, rfl, h3, h4⟩ := treL_cons.1 hr
    simp only [List.take_succ_cons]
    exact treL_cons.2 ⟨a, _, v, _, rfl, rfl, h3, treL_take n h4⟩
theorem treL_drop {w : World} : ∀ {ks : List Hd} {as : List A} {vs : List Value} (n : Nat), treL w as vs ks → treL w (as.drop n) (vs.drop n) (ks.drop n)
  | ks, as, vs, 0, h => by simpa using h
  | [], _, _, n + 1, h => by simp only [treL] at h; obtain ⟨rfl, rfl⟩ := h; simp [treL]
  | h :: hs, _, _, n + 1, hr => by
    obtain ⟨a, as1, v, vs1, rfl, rfl, h3, h4⟩ := treL_cons.1 hr
    simpa using treL_drop n h4
theorem treL_overK {w : World} {ks kids : List Hd} {as ds : List A} {vs us : List Value} {p : Nat} (h : treL w as vs ks) (k : treL w ds us kids) : treL w (over as p ds) (over vs p us) (over ks p kids) := by
  obtain ⟨l1, l2⟩ := treL_len k
  unfold over
  rw [l1, l2]
  exact treL_append (treL_append (treL_take p h) k) (treL_drop _ h)

theorem blocksL_take {ks : List Hd} {n b : Nat} (h : b ∈ Hd.blocksL (ks.take n)) : b ∈ Hd.blocksL ks := by
  rw [← List.take_append_drop n ks, blocksL_append]
  exact List.mem_append_left _ h
theorem blocksL_drop {ks : List Hd} {n b : Nat} (h : b ∈ Hd.blocksL (ks.drop n)) : b ∈ Hd.blocksL ks := by
  rw [← List.take_append_drop n ks, blocksL_append]
  exact List.mem_append_right _ h
theorem blocksL_over {ks kids : List Hd} {p b : Nat} (h : b ∈ Hd.blocksL (over ks p kids)) : b ∈ Hd.blocksL ks ∨ b ∈ Hd.blocksL kids := by
  unfold over at h
  rw [blocksL_append, blocksL_append] at h
  rcases List.mem_append.1 h with h | h
  · rcases List.mem_append.1 h with h | h
    · exact Or.inl (blocksL_take h)
    · exact Or.inr h
  · exact Or.inl (blocksL_drop h)
theorem nodup_over {ks kids : List Hd} {p : Nat} (h : (Hd.blocksL ks).Nodup) (k : (Hd.blocksL kids).Nodup) (d : ∀ b ∈ Hd.blocksL kids, b ∉ Hd.blocksL ks) : (Hd.blocksL (over ks p kids)).Nodup := by
  unfold over
  rw [blocksL_append, blocksL_append]
  have hq : ks.drop (p + kids.length) = (ks.drop p).drop kids.length := by rw [List.drop_drop]
  have h0 := h
  rw [← List.take_append_drop p ks, blocksL_append, List.nodup_append] at h0
  obtain ⟨n1, n2, n3⟩ := h0
  have h1 := n2
  rw [← List.take_append_drop kids.length (ks.drop p), blocksL_append, List.nodup_append] at h1
  refine List.nodup_append.2 ⟨List.nodup_append.2 ⟨n1, k, fun a ha b hb e => ?_⟩, ?_, fun a ha b hb e => ?_⟩
  · subst e; exact d a hb (blocksL_take ha)
  · rw [hq]; exact h1.2.1
  · subst e
    rcases List.mem_append.1 ha with ha | ha
    · rw [hq] at hb; exact n3 a ha a (blocksL_drop hb) rfl
    · exact d a ha (blocksL_drop hb)

/-! ### What is stored -/
/-- A stored cell: data, a finished tree, an empty slice. -/
def kidA (st : Stor) : V → Option (A × List Nat × List Rd)
  | .d a => some (a, [], [])
  | .nil l => some (.sl l [], [], [])
  | .row id => (match st id with
    | .tre true l ys => some (.sl l ys, [id], [.obj id (.tre true l ys)])
    | _ => none)
  | _ => none
def kidsA (st : Stor) : List V → Option (List A × List Nat × List Rd)
  | [] => some ([], [], [])
  | v :: vs => match kidA st v, kidsA st vs with
    | some (a, i, r), some (as, is, rs) => some (a :: as, i ++ is, r ++ rs)
    | _, _ => none
def kidH (m : Asg) : V → Hd
  | .row id => (m id).getD .none
  | _ => .none
/-- Data among it is numbers and strings. -/
def valsV : List V → Bool
  | [] => true
  | .d a :: vs => isVal a && valsV vs
  | _ :: vs => valsV vs

section
variable {X : Ctx} {w : World} {O0 : Nat → Prop} {m : Asg} {st st0 : Stor}

theorem kidA_ok (hs : Sto X w O0 m st) {v : V} {a : A} {is : List Nat} {rs : List Rd} {u : Value} (h : kidA st0 v = some (a, is, rs)) (hg : ∀ r ∈ rs, agr st r) (hv : ∀ a, v = .d a → isVal a = true) (hr : relV w (Ow O0 m st) m v u) :
    treC w (kidH m v) a u ∧ u.oneCell' = true ∧ (∀ b ∈ (kidH m v).blocks, ∃ id ∈ is, ∃ hd, (st id).alive = true ∧ m id = some hd ∧ b ∈ hd.blocks) ∧ (kidH m v).blocks.Nodup ∧ (∀ id ∈ is, (st id).alive = true) := by
  unfold kidA at h
  split at h
  · cases h
    obtain ⟨x, rfl, hk⟩ := isVal_some (hv _ rfl)
    simp only [relV] at hr
    have h1 := rel_okA hr hk
    simp only [rel] at hr
    exact ⟨⟨rfl, hr⟩, h1, fun b hb => by simp [kidH, Hd.blocks] at hb, by simp [kidH, Hd.blocks], by simp⟩
  · cases h
    simp only [relV] at hr
    obtain ⟨p, rfl⟩ := hr
    exact ⟨⟨⟨p, rfl⟩, by simp [kidH, treOk]⟩, rfl, fun b hb => by simp [kidH, Hd.blocks] at hb, by simp [kidH, Hd.blocks], by simp⟩
  · split at h
    · rename_i id _ l ys _
      cases h
      have hst : st id = .tre true l ys := hg _ (List.mem_singleton.2 rfl)
      simp only [relV] at hr
      obtain ⟨hd, e1, e2⟩ := hr
      obtain ⟨q1, q2⟩ := tre_at hs hst e1
      have hk : kidH m (.row id) = hd := by simp [kidH, e1]
      rw [hk]
      obtain ⟨p, n, c, rfl⟩ := hdr_slice e2
      exact ⟨⟨e2, q1⟩, rfl, fun b hb => ⟨id, by simp, hd, by rw [hst]; rfl, e1, hb⟩, q2, fun i hi => by rw [List.mem_singleton.1 hi, hst]; rfl⟩
    · cases h
  · cases h

theorem kidsA_ok (hs : Sto X w O0 m st) : ∀ {vs : List V} {as : List A} {is : List Nat} {rs : List Rd} {us : List Value}, kidsA st0 vs = some (as, is, rs) → (∀ r ∈ rs, agr st r) → valsV vs = true → is.Nodup → relVL w (Ow O0 m st) m vs us →
    treL w as us (vs.map (kidH m)) ∧ OneCells us ∧ (∀ b ∈ Hd.blocksL (vs.map (kidH m)), ∃ id ∈ is, ∃ hd, (st id).alive = true ∧ m id = some hd ∧ b ∈ hd.blocks) ∧ (Hd.blocksL (vs.map (kidH m))).Nodup ∧ (∀ id ∈ is, (st id).alive = true)
  | [], _, _, _, us, h, _, _, _, hr => by
    simp only [kidsA] at h
    cases h
    simp only [relVL] at hr
    subst hr
    exact ⟨by simp [treL], fun v hv => (by cases hv), fun b hb => (by simp [Hd.blocksL] at hb), by simp [Hd.blocksL], by simp⟩
  | v :: vs, _, _, _, us, h, hg, hv, hn, hr => by
    simp only [kidsA] at h
    split at h
    · rename_i a i r as is rs h1 h2
      cases h
      simp only [relVL] at hr
      obtain ⟨u, us', rfl, r1, r2⟩ := hr
      rw [List.nodup_append] at hn
      obtain ⟨n1, n2, n3⟩ := hn
      obtain ⟨p1, p2, p3, p4, p5⟩ := kidA_ok hs h1 (fun x hx => hg x (by simp [hx])) (fun a e => by subst e; simp only [valsV, Bool.and_eq_true] at hv; exact hv.1) r1
      have hv' : valsV vs = true := by cases v <;> simp only [valsV, Bool.and_eq_true] at hv <;> first | exact hv.2 | exact hv
      obtain ⟨q1, q2, q3, q4, q5⟩ := kidsA_ok hs h2 (fun x hx => hg x (by simp [hx])) hv' n2 r2
      refine ⟨treL_cons.2 ⟨a, as, u, us', rfl, rfl, p1, q1⟩, fun x hx => ?_, fun b hb => ?_, ?_, fun id hid => ?_⟩
      · rcases List.mem_cons.1 hx with rfl | hx
        · exact p2
        · exact q2 x hx
      · simp only [List.map_cons, Hd.blocksL, List.mem_append] at hb
        rcases hb with hb | hb
        · obtain ⟨id, hi, hd, e1, e2, e3⟩ := p3 b hb; exact ⟨id, by simp [hi], hd, e1, e2, e3⟩
        · obtain ⟨id, hi, hd, e1, e2, e3⟩ := q3 b hb; exact ⟨id, by simp [hi], hd, e1, e2, e3⟩
      · simp only [List.map_cons, Hd.blocksL]
        refine List.nodup_append.2 ⟨p4, q4, fun x hx y hy e => ?_⟩
        subst e
        obtain ⟨id, hi, hd, e1, e2, e3⟩ := p3 x hx
        obtain ⟨id', hi', hd', e1', e2', e3'⟩ := q3 x hy
        have := hs.inj id id' hd hd' x e1 e1' e2 e2' e3 e3'
        exact n3 id hi id' hi' this
      · rcases List.mem_append.1 hid with h | h
        · exact p5 id h
        · exact q5 id h
    · cases h
end

/-- Objects given up. -/
def goneW (is : List Nat) : List Wr := is.map fun i => .obj i .gone
theorem apps_gone : ∀ (is : List Nat) (st : Stor) (q : Nat), apps st (goneW is) q = if q ∈ is then .gone else st q
  | [], st, q => by simp [goneW, apps]
  | i :: is, st, q => by
    show apps (app st (.obj i .gone)) (goneW is) q = _
    rw [apps_gone is]
    by_cases h : q ∈ is
    · simp [h]
    · rw [if_neg h]
      show upd st i .gone q = _
      by_cases e : q = i
      · subst e; rw [upd_self]; simp
      · rw [upd_ne _ _ e]; simp [e, h]

section
variable {P : Program} {X : Ctx} {o : Oper} {ρ : Operand → V}

/-- Cells into an element of a tree in the making: numbers, strings, and trees that become its own. -/
theorem TOp.storeKids {t : TypeId} {a x : Operand} (ho : o.op = .store t a x) {i : TI} (hi : TI.ok P t i) {id ii k j : Nat} (ha : ρ a = .rptr id ii k j) {cs : List A} {ds : List V} {st0 : Stor} {as : List A} {is : List Nat} {rs : List Rd}
    (hx : ∀ (w : World) (O : Nat → Prop) (m : Asg) (u : Value), relV w O m (ρ x) u → relVL w O m ds u.cells.toList) (hk : kidsA st0 ds = some (as, is, rs)) (hv : valsV ds = true) (hn : is.Nodup) (hid : id ∉ is) (hsz : ds.length = i.size) (hl : j + ds.length ≤ k) :
    TOp P X o ρ ⟨.d (.val undef), .telem id false ii k cs :: rs, goneW is ++ [.elem id ii (over cs j as)]⟩ := by
  intro w O0 m st ev hs hg hr _hc
  have ha' := hr a (by simp [ho, Op.operands])
  have hx' := hr x (by simp [ho, Op.operands])
  rw [ha] at ha'
  simp only [relV] at ha'
  obtain ⟨hd, b, h0, h1, h2⟩ := ha'
  have h3 := hx _ _ _ _ hx'
  obtain ⟨xs, g1, g2⟩ := hg (.telem id false ii k cs) (by simp)
  obtain ⟨q3, qn⟩ := tre_at hs g1 h0
  obtain ⟨t1, hone, t3, t4, t5⟩ := kidsA_ok hs hk (fun r hr => hg r (by simp [hr])) hv hn h3
  generalize hkids : ds.map (kidH m) = kids at t1 t3 t4
  have hkl : kids.length = ds.length := by rw [← hkids]; simp
  obtain ⟨la, lu⟩ := treL_len t1
  cases hd with
  | none => cases h1
  | blk b' c n => simp [treOk] at q3
  | tre f' b' c n ks =>
    cases h1
    simp only [treOk] at q3
    obtain ⟨rfl, rfl, p3, p4, p5, cc, T, p6, p7, p8, p9⟩ := q3
    simp only [Hd.blocks, List.nodup_cons] at qn
    obtain ⟨nb, nks⟩ := qn
    have hcl : cs.length = k := p5 cs (List.mem_of_getElem? g2)
    have hii : ii < xs.length := (List.getElem?_eq_some_iff.1 g2).1
    have hfit : ii * k + j + ds.length ≤ xs.length * k := by
      have : (ii + 1) * k ≤ xs.length * k := Nat.mul_le_mul_right k (by omega)
      rw [Nat.add_mul] at this; omega
    have hcap : xs.length * k ≤ cc.size := by rw [p7]; exact Nat.mul_le_mul_right k p3
    have hal : (st id).alive = true := by rw [g1]; rfl
    obtain ⟨W, hst, w1, w2, w3, w4, w5, w6⟩ := run_stores P p6 (ii * k + j) (ev x).cells.toList (by omega) hone
    have hrun : (execOp ev o).run P w = .ok .skip W := by
      have hsize : (ev x).cells.size = i.size := by rw [← hsz, ← hkl, ← lu]; simp
      simp only [execOp, ho, Instr.storeAt, h2, Instr.sureAddr, storeVar, Sem.run_bind, Sem.run_pure, Result.andThen_ok, hi.run_sizeOf w, hsize, ne_eq, not_true_eq_false, if_false, hst]
    rw [hrun]
    show Post X w O0 m st (goneW is ++ [.elem id ii (over cs j as)]) (.d (.val undef)) W undef
    unfold Post
    -- the new place
    generalize hks' : over ks (ii * k + j) kids = ks'
    generalize hm' : upd m id (some (.tre false b c xs.length ks')) = m'
    have mi : m' id = some (.tre false b c xs.length ks') := by rw [← hm']; exact upd_self _ _ _
    have mo : ∀ q, q ≠ id → m' q = m q := fun q hq => by rw [← hm']; exact upd_ne _ _ hq
    generalize hx2 : xs.set ii (over cs j as) = xs'
    generalize hst2 : apps st (goneW is ++ [.elem id ii (over cs j as)]) = st2
    have s1 : ∀ q, apps st (goneW is) q = if q ∈ is then .gone else st q := fun q => apps_gone is st q
    have e2 : st2 = upd (apps st (goneW is)) id (.tre false k xs') := by
      rw [← hst2]
      show (goneW is ++ [Wr.elem id ii (over cs j as)]).foldl app st = _
      rw [List.foldl_append]
      show upd (apps st (goneW is)) id (Wr.on _ (apps st (goneW is) id)) = _
      rw [s1, if_neg hid, g1]
      show upd _ id (Abs.Obj.tre false k (rSet xs ii (over cs j as))) = _
      rw [← hx2]; rfl
    have s2i : st2 id = .tre false k xs' := by rw [e2, upd_self]
    have s2g : ∀ q, q ≠ id → q ∈ is → st2 q = .gone := fun q h h' => by rw [e2, upd_ne _ _ h, s1, if_pos h']
    have s2o : ∀ q, q ≠ id → q ∉ is → st2 q = st q := fun q h h' => by rw [e2, upd_ne _ _ h, s1, if_neg h']
    have hnewb : ∀ y, y ∈ (Hd.tre false b c xs.length ks').blocks → (y ∈ (Hd.tre false b c xs.length ks).blocks) ∨ ∃ q ∈ is, ∃ hd, (st q).alive = true ∧ m q = some hd ∧ y ∈ hd.blocks := fun y hy => by
      simp only [Hd.blocks, List.mem_cons] at hy ⊢
      rcases hy with rfl | hy
      · exact Or.inl (Or.inl rfl)
      · rw [← hks'] at hy
        rcases blocksL_over hy with hy | hy
        · exact Or.inl (Or.inr hy)
        · exact Or.inr (t3 y hy)
    have hmz : ∀ y, Mz m' st2 y → Mz m st y := by
      rintro y ⟨q, h, a1, a2, a3⟩
      by_cases hq : q = id
      · subst hq
        rw [mi] at a2
        cases a2
        rcases hnewb y a3 with h | ⟨q', _, h', b1, b2, b3⟩
        · exact ⟨q, _, hal, h0, h⟩
        · exact ⟨q', h', b1, b2, b3⟩
      · by_cases hqi : q ∈ is
        · rw [s2g q hq hqi] at a1; cases a1
        · rw [s2o q hq hqi] at a1; rw [mo q hq] at a2; exact ⟨q, h, a1, a2, a3⟩
    have hbm : Mz m st b := ⟨id, _, hal, h0, by simp [Hd.blocks]⟩
    have hmle : MLe m m' := fun q h e => by
      by_cases hq : q = id
      · subst hq
        rw [h0] at e
        cases e
        exact ⟨_, mi, Or.inr ⟨_, _, _, _, _, _, rfl, rfl⟩⟩
      · exact ⟨h, by rw [mo q hq]; exact e, h.le_refl⟩
    have hchg : Chg w m st W m' st2 :=
      ⟨w1, w2, w3, by omega, fun y _ hn => w5 y fun e => hn (by rw [e]; exact hbm), hmle, fun y hy => Or.inl (hmz y hy)⟩
    have hkb : ∀ y ∈ Hd.blocksL kids, y ∉ (Hd.tre false b c xs.length ks).blocks := fun y hy hy' => by
      obtain ⟨q, hq, h, b1, b2, b3⟩ := t3 y hy
      have := hs.inj q id h _ y b1 hal b2 h0 b3 hy'
      subst this
      exact hid hq
    refine ⟨m', hchg, hs.chg hchg ?_ ?_ ?_ ?_, by simp [relV, rel]⟩
    · intro q hq
      by_cases h : q = id
      · subst h; rw [s2i] at hq; cases hq
      · by_cases h' : q ∈ is
        · rw [s2g q h h'] at hq; cases hq
        · rw [s2o q h h'] at hq; rw [mo q h]; exact hs.fresh q hq
    · intro q h y a1 a2 a3
      by_cases hq : q = id
      · subst hq
        rw [mi] at a2
        cases a2
        right
        rcases hnewb y a3 with h | ⟨q', _, h', b1, b2, b3⟩
        · have := hs.blk q _ y hal h0 h; exact ⟨by omega, this.2⟩
        · have := hs.blk q' _ y b1 b2 b3; exact ⟨by omega, this.2⟩
      · by_cases hqi : q ∈ is
        · rw [s2g q hq hqi] at a1; cases a1
        · rw [s2o q hq hqi] at a1; rw [mo q hq] at a2; exact Or.inl ⟨a1, a2⟩
    · have key : ∀ q h y, q ≠ id → (st2 q).alive = true → m' q = some h → y ∈ h.blocks → y ∈ (Hd.tre false b c xs.length ks').blocks → False := by
        intro q h y hq a1 a2 a3 a4
        by_cases hqi : q ∈ is
        · rw [s2g q hq hqi] at a1; cases a1
        · rw [s2o q hq hqi] at a1
          rw [mo q hq] at a2
          rcases hnewb y a4 with h' | ⟨q', hq', h', b1, b2, b3⟩
          · exact hq (hs.inj q id h _ y a1 hal a2 h0 a3 h')
          · have := hs.inj q q' h h' y a1 b1 a2 b2 a3 b3
            subst this
            exact hqi hq'
      intro q q' h h' y a1 a1' a2 a2' a3 a3'
      by_cases hq : q = id
      · by_cases hq' : q' = id
        · rw [hq, hq']
        · subst hq
          rw [mi] at a2
          cases a2
          exact (key q' h' y hq' a1' a2' a3' a3).elim
      · by_cases hq' : q' = id
        · subst hq'
          rw [mi] at a2'
          cases a2'
          exact (key q h y hq a1 a2 a3 a3').elim
        · by_cases hqi : q ∈ is
          · rw [s2g q hq hqi] at a1; cases a1
          · by_cases hqi' : q' ∈ is
            · rw [s2g q' hq' hqi'] at a1'; cases a1'
            · rw [s2o q hq hqi] at a1
              rw [s2o q' hq' hqi'] at a1'
              rw [mo q hq] at a2
              rw [mo q' hq'] at a2'
              exact hs.inj q q' h h' y a1 a1' a2 a2' a3 a3'
    · intro q
      by_cases hq : q = id
      · subst hq
        right
        rw [s2i, mi]
        refine ⟨_, rfl, ?_, ?_⟩
        · rw [← hx2, ← hks']
          simp only [treOk]
          refine ⟨trivial, by simp, by simpa using p3, p4, ?_, _, T, w6, ?_, ?_, ?_⟩
          · intro y hy
            rcases List.mem_or_eq_of_mem_set hy with hy | rfl
            · exact p5 y hy
            · rw [over_length (by omega)]; exact hcl
          · rw [List.size_toArray, over_length (by have := hcap; simp only [Array.length_toList] at *; omega), Array.length_toList]; exact p7
          · simp only [List.length_set]
            rw [take_over _ _ _ _ (by omega) (by simpa using hcap)]
            exact OneCells.over p8 hone _
          · rw [flatten_set_over xs ii j cs as p5 g2 (by omega)]
            simp only [List.length_set]
            rw [take_over _ _ _ _ (by omega) (by simpa using hcap)]
            refine treL_congr _ (fun y hy => w5 y fun e => ?_) (treL_overK p9 t1)
            subst e
            rcases blocksL_over hy with hy | hy
            · exact nb hy
            · exact hkb y hy (by simp [Hd.blocks])
        · simp only [Hd.blocks, List.nodup_cons]
          refine ⟨fun hy => ?_, ?_⟩
          · rw [← hks'] at hy
            rcases blocksL_over hy with hy | hy
            · exact nb hy
            · exact hkb b hy (by simp [Hd.blocks])
          · rw [← hks']
            exact nodup_over nks t4 fun y hy hy' => hkb y hy (by simp only [Hd.blocks, List.mem_cons]; exact Or.inr hy')
      · by_cases hqi : q ∈ is
        · right; rw [s2g q hq hqi]; trivial
        · refine Or.inl ⟨s2o q hq hqi, mo q hq, fun h y a1 a2 a3 => w5 y fun e => hq ?_⟩
          subst e
          exact hs.inj q id h _ y a1 hal a2 h0 a3 (by simp [Hd.blocks])
end
end
end Go.Proofs.Ytjclanocnkankaa.Abs
