/- TREES: elements of a row with all that its cells lead to. -/
import Derived.Test.YtjclanocnkankaaE11b
namespace Go.Proofs.Ytjclanocnkankaa.Abs
open Go Go.RowKit
noncomputable section

/-- A number, a string, a bool. -/
def isVal : A → Bool
  | .val x => okA (.val x)
  | _ => false
def isSlA : A → Bool
  | .sl _ _ => true
  | _ => false

theorem isVal_some {a : A} (h : isVal a = true) : ∃ x, a = .val x ∧ okA a = true := by
  cases a with
  | val x => exact ⟨x, rfl, h⟩
  | _ => cases h

/-- Values over values. -/
theorem treL_set {w : World} : ∀ {ks : List Hd} {as : List A} {vs : List Value} {p : Nat} {x y : Value}, treL w as vs ks → as[p]? = some (.val y) → treL w (as.set p (.val x)) (vs.set p x) ks
  | [], _, _, _, _, _, h, e => by simp only [treL] at h; obtain ⟨rfl, rfl⟩ := h; simp at e
  | h :: hs, _, _, p, x, y, hr, e => by
    obtain ⟨a, as', v, vs', rfl, rfl, h3, h4⟩ := treL_cons.1 hr
    cases p with
    | zero => simp at e; subst e; exact treL_cons.2 ⟨.val x, as', x, vs', rfl, rfl, ⟨h3.1, rfl⟩, h4⟩
    | succ p => simp at e; exact treL_cons.2 ⟨a, _, v, _, rfl, rfl, h3, treL_set h4 e⟩

theorem treL_over {w : World} {O : Nat → Prop} {ks : List Hd} : ∀ {ds : List A} {us : List Value} {as : List A} {vs : List Value} {p : Nat}, treL w as vs ks → (∀ q, q < ds.length → ∃ y, as[p + q]? = some (.val y)) → ds.all isVal = true → relL w O ds us →
    treL w (over as p ds) (over vs p us) ks
  | [], us, as, vs, p, h, _, _, hr => by
    simp only [relL] at hr
    subst hr
    simpa [over] using h
  | d :: ds, us, as, vs, p, h, ho, hv, hr => by
    simp only [relL] at hr
    obtain ⟨u, r, rfl, h1, h2⟩ := hr
    simp only [List.all_cons, Bool.and_eq_true] at hv
    obtain ⟨x, rfl, _⟩ := isVal_some hv.1
    simp only [rel] at h1
    subst h1
    obtain ⟨y, hy⟩ := ho 0 (by simp)
    have hs := treL_set (x := u) h hy
    have hl := treL_len h
    have hlr := relL_length h2
    have hlast : p + ds.length < as.length := by
      obtain ⟨y', hy'⟩ := ho ds.length (by simp)
      exact (List.getElem?_eq_some_iff.1 hy').1
    rw [← over_cons (by omega), ← over_cons (by omega)]
    rw [Nat.add_zero] at hs
    refine treL_over hs (fun q hq => ?_) hv.2 h2
    obtain ⟨y', hy'⟩ := ho (q + 1) (by simp; omega)
    exact ⟨y', by rw [List.getElem?_set_ne (by omega), show p + 1 + q = p + (q + 1) by omega]; exact hy'⟩

section
variable {P : Program} {X : Ctx} {o : Oper} {ρ : Operand → V} {C : Cfg}

theorem tre_at {w : World} {O0 : Nat → Prop} {m : Asg} {st : Stor} (hs : Sto X w O0 m st) {id k : Nat} {f : Bool} {xs : List (List A)} (hf : st id = .tre f k xs) {hd : Hd} (hm : m id = some hd) : treOk w f k xs hd ∧ hd.blocks.Nodup := by
  have ho := hs.obj id
  rw [hf, hm] at ho
  obtain ⟨hd', g1, g2, g3⟩ := ho
  cases g1
  exact ⟨g2, g3⟩

/-- The place of an element of a tree. -/
theorem TOp.indexTre {t : TypeId} {x ix : Operand} (ho : o.op = .indexAddr t x ix) {e : Nat} (ht : P.underlying t = some (.slice e)) {i : TI} (hi : TI.ok P e i) {id len n : Nat} {f : Bool} {b : A} (hx : ρ x = .row id) (hn : dat (ρ ix) = some b) (h : pIx len b = some n) :
    TOp P X o ρ ⟨.rptr id n i.size 0, [.tlen id f i.size len], []⟩ := by
  refine TOp.same fun w O0 m st ev hs hg hr => ?_
  have hx' := hr x (by simp [ho, Op.operands])
  have hn' := rel_dat hn (hr ix (by simp [ho, Op.operands]))
  rw [hx] at hx'
  simp only [relV] at hx'
  obtain ⟨hd, q1, q2⟩ := hx'
  obtain ⟨kk, z, rfl, h0, h2, rfl⟩ := pIx_some h
  obtain ⟨xs, g1, rfl⟩ := hg _ (List.mem_singleton.2 rfl)
  obtain ⟨q3, _⟩ := tre_at hs g1 q1
  simp only [rel] at hn'
  cases hd with
  | none => simp only [treOk] at q3; subst q3; simp at h2; omega
  | blk b c n => simp [treOk] at q3
  | tre f' b c n ks =>
    simp only [treOk] at q3
    obtain ⟨_, rfl, _⟩ := q3
    simp only [hdr] at q2
    have hb : 0 ≤ z ∧ z < (xs.length : Int) := ⟨h0, h2⟩
    refine ⟨.pointer (some ⟨b, z.toNat * i.size, none⟩), ?_, ?_⟩
    · simp only [execOp, ho, Instr.indexAt, q2, hn', asIntOf, Sem.run_bind, Sem.run_pure, Result.andThen_ok, run_underlying ht, hb, and_self, if_true, hi.run_sizeOf w, add_eq, Sem.run_ite, Nat.zero_add]
    · simp only [relV]
      exact ⟨_, b, q1, rfl, by simp⟩

/-- A tree's element in memory. -/
theorem tre_elem {w : World} {O0 : Nat → Prop} {m : Asg} {st : Stor} (hs : Sto X w O0 m st) {id k ii j b : Nat} {f : Bool} {xs : List (List A)} {cs : List A} {a : A} {hd : Hd} (hf : st id = .tre f k xs) (hm : m id = some hd) (hb : hd.root = some b) (hi : xs[ii]? = some cs) (hj : cs[j]? = some a) :
    cs.length = k ∧ ∃ c n ks kid v, hd = .tre f b c n ks ∧ ks[ii * k + j]? = some kid ∧ w.cell? ⟨b, ii * k + j, none⟩ = some v ∧ treC w kid a v := by
  obtain ⟨q3, _⟩ := tre_at hs hf hm
  cases hd with
  | none => cases hb
  | blk b' c n => simp [treOk] at q3
  | tre f' b' c n ks =>
    cases hb
    simp only [treOk] at q3
    obtain ⟨rfl, rfl, h3, h4, h5, cc, T, h6, h7, h8, h9⟩ := q3
    have hcl := h5 cs (List.mem_of_getElem? hi)
    have hjk : j < k := by rw [← hcl]; exact (List.getElem?_eq_some_iff.1 hj).1
    obtain ⟨kid, v, e1, e2, e3⟩ := treL_get h9 ((flatten_get h5 hi hjk).trans hj)
    refine ⟨hcl, c, _, ks, kid, v, rfl, e1, ?_, e3⟩
    have := (Reads.block h6).take (xs.length * k)
    simpa using this _ v e2

/-- A slice in a tree's cell: a reference. -/
theorem TOp.loadSub {t : TypeId} {x : Operand} (ho : o.op = .load t x) {i : TI} (hi : TI.ok P t i) (hp : i.kind.plain = true) {id ii k j : Nat} (hx : ρ x = .rptr id ii k j) {cs : List A} (hs : isSlA (cGet cs j) = true) :
    TOp P X o ρ ⟨.sub id ii k j, [.telem id true ii k cs], []⟩ := by
  refine TOp.same fun w O0 m st ev hst hg hr => ?_
  have hx' := hr x (by simp [ho, Op.operands])
  rw [hx] at hx'
  simp only [relV] at hx'
  obtain ⟨hd, b, q1, q2, q3⟩ := hx'
  obtain ⟨xs, g1, g2⟩ := hg _ (List.mem_singleton.2 rfl)
  have hja : ∃ a, cs[j]? = some a ∧ isSlA a = true := by
    unfold cGet at hs
    rw [List.getD_eq_getElem?_getD] at hs
    cases hc : cs[j]? with
    | none => rw [hc] at hs; cases hs
    | some a => rw [hc] at hs; exact ⟨a, rfl, hs⟩
  obtain ⟨a, ha, hsl⟩ := hja
  obtain ⟨_, c, n, ks, kid, v, rfl, e1, e2, e3⟩ := tre_elem hst g1 q1 q2 g2 ha
  have hk : i.kind.known = true := by cases hi : i.kind <;> simp_all [TK.known, TK.plain]
  obtain ⟨z, w1, w2⟩ := run_loadCells (P := P) hi hk (b := b) (off := ii * k + j) (vs := [v]) (w := w) (fun q y hq => by
    cases q with
    | zero => simp at hq; subst hq; exact e2
    | succ q => simp at hq) (by rw [hi.one hp]; simp)
  rcases w2 with ⟨_, w2⟩ | ⟨w2, _⟩
  · simp at w2
    subst w2
    refine ⟨v, run_load ho q3 w1, ?_⟩
    simp only [relV]
    cases a with
    | sl l ys => exact ⟨_, q1, kid, e1, e3.1⟩
    | _ => cases hsl
  · rw [hp] at w2; cases w2

/-- A number or a string in a tree's cell. -/
theorem TOp.loadVal {t : TypeId} {x : Operand} (ho : o.op = .load t x) {i : TI} (hi : TI.ok P t i) (hp : i.kind.plain = true) {id ii k j : Nat} {f : Bool} (hx : ρ x = .rptr id ii k j) {cs : List A} (hs : isVal (cGet cs j) = true) :
    TOp P X o ρ ⟨.d (cGet cs j), [.telem id f ii k cs], []⟩ := by
  refine TOp.same fun w O0 m st ev hst hg hr => ?_
  have hx' := hr x (by simp [ho, Op.operands])
  rw [hx] at hx'
  simp only [relV] at hx'
  obtain ⟨hd, b, q1, q2, q3⟩ := hx'
  obtain ⟨xs, g1, g2⟩ := hg _ (List.mem_singleton.2 rfl)
  obtain ⟨y, hy, _⟩ := isVal_some hs
  have ha : cs[j]? = some (.val y) := by
    unfold cGet at hy
    rw [List.getD_eq_getElem?_getD] at hy
    cases hc : cs[j]? with
    | none => rw [hc] at hy; cases hy
    | some a => rw [hc] at hy; simp at hy; rw [hy]
  obtain ⟨_, c, n, ks, kid, v, rfl, e1, e2, e3⟩ := tre_elem hst g1 q1 q2 g2 ha
  have hk : i.kind.known = true := by cases hi : i.kind <;> simp_all [TK.known, TK.plain]
  obtain ⟨z, w1, w2⟩ := run_loadCells (P := P) hi hk (b := b) (off := ii * k + j) (vs := [v]) (w := w) (fun q y hq => by
    cases q with
    | zero => simp at hq; subst hq; exact e2
    | succ q => simp at hq) (by rw [hi.one hp]; simp)
  rcases w2 with ⟨_, w2⟩ | ⟨w2, _⟩
  · simp at w2
    subst w2
    refine ⟨v, run_load ho q3 w1, ?_⟩
    rw [hy]
    simp only [relV, rel]
    exact e3.2
  · rw [hp] at w2; cases w2

/-- Numbers and strings into an element of a tree. -/
theorem TOp.storeTre {t : TypeId} {a x : Operand} (ho : o.op = .store t a x) {i : TI} (hi : TI.ok P t i) {id ii k j : Nat} {f : Bool} (ha : ρ a = .rptr id ii k j) {cs : List A} {ds : List A}
    (hx : ∀ (w : World) (O : Nat → Prop) (m : Asg) (u : Value), relV w O m (ρ x) u → relL w O ds u.cells.toList) (hok : ds.all isVal = true) (hsz : ds.length = i.size) (hl : j + ds.length ≤ k)
    (hold : ((cs.drop j).take ds.length).all isVal = true) : TOp P X o ρ ⟨.d (.val undef), [.telem id f ii k cs], [.elem id ii (over cs j ds)]⟩ := by
  intro w O0 m st ev hs hg hr _hc
  have ha' := hr a (by simp [ho, Op.operands])
  have hx' := hr x (by simp [ho, Op.operands])
  rw [ha] at ha'
  simp only [relV] at ha'
  obtain ⟨hd, b, h0, h1, h2⟩ := ha'
  have h3 := hx _ _ _ _ hx'
  obtain ⟨xs, g1, g2⟩ := hg (.telem id f ii k cs) (by simp)
  obtain ⟨q3, qn⟩ := tre_at hs g1 h0
  have hone : OneCells (ev x).cells.toList := by
    have : ∀ {O : Nat → Prop} {as : List A} {us : List Value}, relL w O as us → as.all isVal = true → OneCells us := by
      intro O as
      induction as with
      | nil => intro us h _; simp only [relL] at h; subst h; intro v hv; cases hv
      | cons a as ih =>
        intro us h hk
        simp only [relL, List.all_cons, Bool.and_eq_true] at h hk
        obtain ⟨v, t, rfl, e1, e2⟩ := h
        obtain ⟨y, rfl, hk1⟩ := isVal_some hk.1
        intro z hz
        rcases List.mem_cons.1 hz with rfl | hz
        · exact rel_okA e1 hk1
        · exact ih e2 hk.2 z hz
    exact this h3 hok
  have l1 := relL_length h3
  cases hd with
  | none => cases h1
  | blk b' c n => simp [treOk] at q3
  | tre f' b' c n ks =>
    cases h1
    have hob := q3
    simp only [treOk] at q3
    obtain ⟨rfl, rfl, p3, p4, p5, cc, T, p6, p7, p8, p9⟩ := q3
    have hcl : cs.length = k := p5 cs (List.mem_of_getElem? g2)
    have hii : ii < xs.length := (List.getElem?_eq_some_iff.1 g2).1
    have hfit : ii * k + j + ds.length ≤ xs.length * k := by
      have : (ii + 1) * k ≤ xs.length * k := Nat.mul_le_mul_right k (by omega)
      rw [Nat.add_mul] at this; omega
    have hcap : xs.length * k ≤ cc.size := by rw [p7]; exact Nat.mul_le_mul_right k p3
    obtain ⟨W, hst, w1, w2, w3, w4, w5, w6⟩ := run_stores P p6 (ii * k + j) (ev x).cells.toList (by rw [l1]; omega) hone
    have hrun : (execOp ev o).run P w = .ok .skip W := by
      have hsize : (ev x).cells.size = i.size := by rw [← hsz, ← l1]; simp
      simp only [execOp, ho, Instr.storeAt, h2, Instr.sureAddr, storeVar, Sem.run_bind, Sem.run_pure, Result.andThen_ok, hi.run_sizeOf w, hsize, ne_eq, not_true_eq_false, if_false, hst]
    rw [hrun]
    have hal : (st id).alive = true := by rw [g1]; rfl
    have hvals : ∀ q, q < ds.length → ∃ y, xs.flatten[ii * k + j + q]? = some (.val y) := fun q hq => by
      have hjq : j + q < k := by omega
      rw [Nat.add_assoc, flatten_get p5 g2 hjq]
      have hc : ((cs.drop j).take ds.length)[q]? = cs[j + q]? := by rw [List.getElem?_take, if_pos hq, List.getElem?_drop]
      have hge : cs[j + q]? = some cs[j + q] := List.getElem?_eq_getElem (by omega)
      rw [hge] at hc
      obtain ⟨y, hy, _⟩ := isVal_some (List.all_eq_true.1 hold _ (List.mem_of_getElem? hc))
      exact ⟨y, by rw [hge, hy]⟩
    have hkids : ∀ b' ∈ Hd.blocksL ks, W.heap[b']? = w.heap[b']? := fun b' hb => w5 b' fun e => by
      subst e
      simp only [Hd.blocks, List.nodup_cons] at qn
      exact qn.1 hb
    obtain ⟨k1, k2⟩ := post_turn' hs (b := b) hal h0 (by simp [Hd.blocks]) (o' := .tre f' k (xs.set ii (over cs j ds))) rfl w1 w2 w3 w4 w5 fun hmono => by
      refine ⟨_, h0, ?_, qn⟩
      simp only [treOk]
      refine ⟨trivial, by simp, by simpa using p3, p4, ?_, _, T, w6, ?_, ?_, ?_⟩
      · intro y hy
        rcases List.mem_or_eq_of_mem_set hy with hy | rfl
        · exact p5 y hy
        · rw [over_length (by omega)]; exact hcl
      · rw [List.size_toArray, over_length (by have := l1; have := hcap; simp only [Array.length_toList] at *; omega), Array.length_toList]; exact p7
      · simp only [List.length_set]
        rw [take_over _ _ _ _ (by rw [l1]; exact hfit) (by simpa using hcap)]
        exact OneCells.over p8 hone _
      · rw [flatten_set_over xs ii j cs ds p5 g2 (by omega)]
        simp only [List.length_set]
        rw [take_over _ _ _ _ (by rw [l1]; exact hfit) (by simpa using hcap)]
        exact treL_over (treL_congr ks hkids p9) hvals hok (relL_mono (w' := W) hmono _ _ h3)
    have e : apps st [.elem id ii (over cs j ds)] = upd st id (.tre f' k (xs.set ii (over cs j ds))) := by
      show upd st id (Wr.on _ (st id)) = _
      rw [g1]; rfl
    refine ⟨m, ?_, ?_, by simp [relV, rel]⟩ <;> rw [e]
    · exact k1
    · exact k2
end
end
end Go.Proofs.Ytjclanocnkankaa.Abs
