/- CALLS THAT HAND OBJECTS ON: numbers of their own, how what comes back is built, and that it lies in memory so. -/
import Derived.Test.YtnbjmmldjggkfaaGreatE8
namespace Go.Proofs.YtnbjmmldjggkfaaGreat.Abs
open Go Go.RowKit
noncomputable section

/-! ### Loops' heads: what is kept, under numbers of its own -/
mutual
def refsV : V → List Nat
  | .ptr id _ => [id]
  | .row id => [id]
  | .rptr id _ _ _ => [id]
  | .win id _ _ _ => [id]
  | .sub id _ _ _ => [id]
  | .agg cs => refsL cs
  | .tup cs => refsL cs
  | .fn _ cs => refsL cs
  | _ => []
def refsL : List V → List Nat
  | [] => []
  | c :: cs => refsV c ++ refsL cs
end

def refsO : Obj → List Nat
  | .box cs => refsL cs
  | _ => []

def hasN (x : Nat) : List Nat → Bool
  | [] => false
  | y :: ys => Nat.beq x y || hasN x ys

def reach (st : Stor) : Nat → List Nat → List Nat → List Nat
  | 0, _, done => done
  | _ + 1, [], done => done
  | n + 1, id :: todo, done => if hasN id done then reach st n todo done else reach st n (todo ++ refsO (st id)) (done ++ [id])

def idxN (x : Nat) : List Nat → Nat → Option Nat
  | [], _ => none
  | y :: ys, i => if Nat.beq x y then some i else idxN x ys (i + 1)

def nodupN : List Nat → Bool
  | [] => true
  | x :: xs => !hasN x xs && nodupN xs

mutual
def ren (ids : List Nat) : V → V
  | .ptr id off => (match idxN id ids 0 with | some i => .ptr i off | none => .top)
  | .row id => (match idxN id ids 0 with | some i => .row i | none => .top)
  | .rptr id i k j => (match idxN id ids 0 with | some q => .rptr q i k j | none => .top)
  | .win id k off n => (match idxN id ids 0 with | some q => .win q k off n | none => .top)
  | .sub id i k j => (match idxN id ids 0 with | some q => .sub q i k j | none => .top)
  | .agg cs => .agg (renL ids cs)
  | .tup cs => .tup (renL ids cs)
  | .fn f cs => .fn f (renL ids cs)
  | v => v
def renL (ids : List Nat) : List V → List V
  | [] => []
  | c :: cs => ren ids c :: renL ids cs
end

def renO (ids : List Nat) : Obj → Obj
  | .box cs => .box (renL ids cs)
  | o => o

mutual
/-- Empty slices become rows of their own. -/
def prom : V → Nat → V × List Obj
  | .nil k, n => (.row n, [.row k []])
  | .agg cs, n => (match promL cs n with | (cs', os) => (.agg cs', os))
  | .tup cs, n => (match promL cs n with | (cs', os) => (.tup cs', os))
  | .fn f cs, n => (match promL cs n with | (cs', os) => (.fn f cs', os))
  | v, _ => (v, [])
def promL : List V → Nat → List V × List Obj
  | [], _ => ([], [])
  | c :: cs, n => (match prom c n with | (c', os) => (match promL cs (n + os.length) with | (cs', os') => (c' :: cs', os ++ os')))
end

def promO : List Obj → Nat → List Obj × List Obj
  | [], _ => ([], [])
  | .box cs :: l, n => (match promL cs n with | (cs', os) => (match promO l (n + os.length) with | (l', os') => (.box cs' :: l', os ++ os')))
  | o :: l, n => (match promO l n with | (l', os') => (o :: l', os'))

theorem idxN_some {x : Nat} : ∀ {l : List Nat} {i j : Nat}, idxN x l i = some j → ∃ q, j = i + q ∧ l[q]? = some x
  | [], _, _, h => by cases h
  | y :: ys, i, j, h => by
    simp only [idxN] at h
    split at h
    · rename_i hb
      cases h
      exact ⟨0, rfl, by simp [Nat.eq_of_beq_eq_true hb]⟩
    · obtain ⟨q, h1, h2⟩ := idxN_some h
      exact ⟨q + 1, by omega, by simpa using h2⟩

theorem hasN_iff {x : Nat} : ∀ {l : List Nat}, hasN x l = true ↔ x ∈ l
  | [] => by simp [hasN]
  | y :: ys => by
    simp only [hasN, Bool.or_eq_true, List.mem_cons]
    rw [hasN_iff]
    exact or_congr ⟨Nat.eq_of_beq_eq_true, fun e => by simp [e]⟩ Iff.rfl

theorem nodupN_ok : ∀ {l : List Nat}, nodupN l = true → l.Nodup
  | [], _ => List.nodup_nil
  | x :: xs, h => by
    simp only [nodupN, Bool.and_eq_true, Bool.not_eq_true'] at h
    refine List.nodup_cons.mpr ⟨fun hm => ?_, nodupN_ok h.2⟩
    rw [hasN_iff.mpr hm] at h
    cases h.1

section
variable {w : World} {O O' : Nat → Prop} {m m' : Asg} {ids : List Nat}

mutual
theorem ren_rel (h : MonoW w O w O') (hm : ∀ q id, ids[q]? = some id → ∀ hd, m id = some hd → m' q = some hd) : ∀ (v : V) (u : Value), relV w O m v u → relV w O' m' (ren ids v) u
  | .top, _, _ => by simp [ren, relV]
  | .nil _, v, hr => by simpa [ren, relV] using hr
  | .ub _ _, v, hr => by simpa [ren, relV] using hr
  | .d a, v, hr => by simp only [ren, relV] at hr ⊢; exact rel_mono h a v hr
  | .agg cs, v, hr => by
    simp only [ren, relV] at hr ⊢
    obtain ⟨vs, h1, h2⟩ := hr
    exact ⟨vs, h1, renL_rel h hm cs vs h2⟩
  | .tup cs, v, hr => by
    simp only [ren, relV] at hr ⊢
    obtain ⟨vs, h1, h2⟩ := hr
    exact ⟨vs, h1, renL_rel h hm cs vs h2⟩
  | .fn f cs, v, hr => by
    simp only [ren, relV] at hr ⊢
    obtain ⟨vs, h1, h2⟩ := hr
    exact ⟨vs, h1, renL_rel h hm cs vs h2⟩
  | .ptr id off, v, hr => by
    simp only [ren, relV] at hr ⊢
    obtain ⟨b, c, n, h1, h2⟩ := hr
    cases hi : idxN id ids 0 with
    | none => simp [relV]
    | some i =>
      obtain ⟨q, e1, e2⟩ := idxN_some hi
      simp only [relV]
      exact ⟨b, c, n, by rw [show i = q by omega]; exact hm q id e2 _ h1, h2⟩
  | .row id, v, hr => by
    simp only [ren, relV] at hr ⊢
    obtain ⟨hd, h1, h2⟩ := hr
    cases hi : idxN id ids 0 with
    | none => simp [relV]
    | some i =>
      obtain ⟨q, e1, e2⟩ := idxN_some hi
      simp only [relV]
      exact ⟨hd, by rw [show i = q by omega]; exact hm q id e2 _ h1, h2⟩
  | .rptr id i k j, v, hr => by
    simp only [ren, relV] at hr ⊢
    obtain ⟨b, c, h1, n, h2⟩ := hr
    cases hi : idxN id ids 0 with
    | none => simp [relV]
    | some i' =>
      obtain ⟨q, e1, e2⟩ := idxN_some hi
      simp only [relV]
      exact ⟨b, c, by rw [show i' = q by omega]; exact hm q id e2 _ h1, n, h2⟩
  | .sub id i k j, v, hr => by
    simp only [ren, relV] at hr ⊢
    obtain ⟨hd, h1, h2⟩ := hr
    cases hi : idxN id ids 0 with
    | none => simp [relV]
    | some i' =>
      obtain ⟨q, e1, e2⟩ := idxN_some hi
      simp only [relV]
      exact ⟨hd, by rw [show i' = q by omega]; exact hm q id e2 _ h1, h2⟩
  | .win id k off n, v, hr => by
    simp only [ren, relV] at hr ⊢
    obtain ⟨hd, h1, h2⟩ := hr
    cases hi : idxN id ids 0 with
    | none => simp [relV]
    | some i =>
      obtain ⟨q, e1, e2⟩ := idxN_some hi
      simp only [relV]
      exact ⟨hd, by rw [show i = q by omega]; exact hm q id e2 _ h1, h2⟩
theorem renL_rel (h : MonoW w O w O') (hm : ∀ q id, ids[q]? = some id → ∀ hd, m id = some hd → m' q = some hd) : ∀ (cs : List V) (vs : List Value), relVL w O m cs vs → relVL w O' m' (renL ids cs) vs
  | [], vs, hr => by simpa [renL, relVL] using hr
  | c :: cs, vs, hr => by
    simp only [renL, relVL] at hr ⊢
    obtain ⟨v, r, h1, h2, h3⟩ := hr
    exact ⟨v, r, h1, ren_rel h hm c v h2, renL_rel h hm cs r h3⟩
end

/-- Empty rows. -/
def AllNil (os : List Abs.Obj) : Prop := ∀ o ∈ os, ∃ k, o = .row k []

mutual
theorem prom_nil : ∀ (v : V) (n : Nat), AllNil (prom v n).2
  | .top, _ => by intro o h; simp [prom] at h
  | .nil k, _ => by intro o h; simp [prom] at h; exact ⟨k, h⟩
  | .d _, _ => by intro o h; simp [prom] at h
  | .agg cs, n => by simp only [prom]; exact promL_nil cs n
  | .tup cs, n => by simp only [prom]; exact promL_nil cs n
  | .fn _ cs, n => by simp only [prom]; exact promL_nil cs n
  | .ptr _ _, _ => by intro o h; simp [prom] at h
  | .row _, _ => by intro o h; simp [prom] at h
  | .rptr _ _ _ _, _ => by intro o h; simp [prom] at h
  | .win _ _ _ _, _ => by intro o h; simp [prom] at h
  | .ub _ _, _ => by intro o h; simp [prom] at h
  | .sub _ _ _ _, _ => by intro o h; simp [prom] at h
theorem promL_nil : ∀ (cs : List V) (n : Nat), AllNil (promL cs n).2
  | [], _ => by intro o h; simp [promL] at h
  | c :: cs, n => by
    simp only [promL]
    intro o h
    rcases List.mem_append.mp h with h | h
    · exact prom_nil c n o h
    · exact promL_nil cs _ o h
end

mutual
theorem prom_rel : ∀ (v : V) (n : Nat) (u : Value), (∀ i, n ≤ i → i < n + (prom v n).2.length → m i = some .none) → relV w O m v u → relV w O m (prom v n).1 u
  | .top, _, _, _, _ => by simp [prom, relV]
  | .nil k, n, u, hn, hr => by
    simp only [prom, relV, List.length_cons, List.length_nil] at hn hr ⊢
    exact ⟨.none, hn n (Nat.le_refl _) (by omega), hr⟩
  | .d a, _, _, _, hr => by simpa [prom] using hr
  | .agg cs, n, u, hn, hr => by
    simp only [prom, relV] at hn hr ⊢
    obtain ⟨vs, h1, h2⟩ := hr
    exact ⟨vs, h1, promL_rel cs n vs hn h2⟩
  | .tup cs, n, u, hn, hr => by
    simp only [prom, relV] at hn hr ⊢
    obtain ⟨vs, h1, h2⟩ := hr
    exact ⟨vs, h1, promL_rel cs n vs hn h2⟩
  | .fn f cs, n, u, hn, hr => by
    simp only [prom, relV] at hn hr ⊢
    obtain ⟨vs, h1, h2⟩ := hr
    exact ⟨vs, h1, promL_rel cs n vs hn h2⟩
  | .ptr _ _, _, _, _, hr => by simpa [prom] using hr
  | .row _, _, _, _, hr => by simpa [prom] using hr
  | .rptr _ _ _ _, _, _, _, hr => by simpa [prom] using hr
  | .win _ _ _ _, _, _, _, hr => by simpa [prom] using hr
  | .ub _ _, _, _, _, hr => by simpa [prom] using hr
  | .sub _ _ _ _, _, _, _, hr => by simpa [prom] using hr
theorem promL_rel : ∀ (cs : List V) (n : Nat) (us : List Value), (∀ i, n ≤ i → i < n + (promL cs n).2.length → m i = some .none) → relVL w O m cs us → relVL w O m (promL cs n).1 us
  | [], _, us, _, hr => by simpa [promL] using hr
  | c :: cs, n, us, hn, hr => by
    simp only [promL, relVL, List.length_append] at hn hr ⊢
    obtain ⟨v, r, h1, h2, h3⟩ := hr
    exact ⟨v, r, h1, prom_rel c n v (fun i h4 h5 => hn i h4 (by omega)) h2, promL_rel cs _ r (fun i h4 h5 => hn i (by omega) (by omega)) h3⟩
end

theorem promO_ok : ∀ (l : List Abs.Obj) (n : Nat), AllNil (promO l n).2 ∧ (promO l n).1.length = l.length ∧
    ((∀ i, n ≤ i → i < n + (promO l n).2.length → m i = some .none) → ∀ (i : Nat) (o' : Abs.Obj), (promO l n).1[i]? = some o' → ∃ o, l[i]? = some o ∧ (o' = o ∨ ∃ cs cs', o = Abs.Obj.box cs ∧ o' = Abs.Obj.box cs' ∧ ∀ us, relVL w O m cs us → relVL w O m cs' us))
  | [], n => ⟨by intro o h; simp [promO] at h, rfl, by simp [promO]⟩
  | o :: l, n => by
    have gen : ∀ o : Abs.Obj, promO (o :: l) n = (o :: (promO l n).1, (promO l n).2) → AllNil (promO (o :: l) n).2 ∧ (promO (o :: l) n).1.length = (o :: l).length ∧
        ((∀ i, n ≤ i → i < n + (promO (o :: l) n).2.length → m i = some .none) → ∀ (i : Nat) (o' : Abs.Obj), (promO (o :: l) n).1[i]? = some o' → ∃ o'', (o :: l)[i]? = some o'' ∧ (o' = o'' ∨ ∃ cs cs', o'' = Abs.Obj.box cs ∧ o' = Abs.Obj.box cs' ∧ ∀ us, relVL w O m cs us → relVL w O m cs' us)) := by
      intro o e
      obtain ⟨h1, h2, h3⟩ := promO_ok l n
      rw [e]
      refine ⟨h1, by simp [h2], fun hn i o' hi => ?_⟩
      cases i with
      | zero => simp at hi; subst hi; exact ⟨_, rfl, Or.inl rfl⟩
      | succ i => simpa using h3 hn i o' (by simpa using hi)
    cases o with
    | box cs =>
      obtain ⟨h1, h2, h3⟩ := promO_ok l (n + (promL cs n).2.length)
      simp only [promO, List.length_append]
      refine ⟨?_, by simp [h2], fun hn i o' hi => ?_⟩
      · intro o h
        rcases List.mem_append.mp h with h | h
        · exact promL_nil cs n o h
        · exact h1 o h
      · cases i with
        | zero =>
          simp at hi; subst hi
          exact ⟨_, rfl, Or.inr ⟨cs, _, rfl, rfl, fun us hus => promL_rel cs n us (fun i h4 h5 => hn i h4 (by omega)) hus⟩⟩
        | succ i =>
          simpa using h3 (fun i h4 h5 => hn i (by omega) (by omega)) i o' (by simpa using hi)
    | dead => exact gen _ rfl
    | gone => exact gen _ rfl
    | row k xs => exact gen _ rfl
    | fro k xs => exact gen _ rfl
    | tre f k xs => exact gen _ rfl
    | map xs => exact gen _ rfl
end

theorem renO_alive {ids : List Nat} {o : Abs.Obj} : (renO ids o).alive = o.alive := by cases o <;> rfl


def stOf (objs : List Abs.Obj) : Stor := fun i => objs.getD i .dead

theorem stOf_some {objs : List Abs.Obj} {i : Nat} {o : Abs.Obj} (h : objs[i]? = some o) : stOf objs i = o := by
  simp [stOf, List.getD_eq_getElem?_getD, h]
theorem stOf_none {objs : List Abs.Obj} {i : Nat} (h : objs.length ≤ i) : stOf objs i = .dead := by
  simp [stOf, List.getD_eq_getElem?_getD, List.getElem?_eq_none h]

theorem AllNil.get {os : List Abs.Obj} (h : AllNil os) {i : Nat} {o : Abs.Obj} (hi : os[i]? = some o) : ∃ k, o = .row k [] := h o (List.mem_of_getElem? hi)
theorem AllNil.append {a b : List Abs.Obj} (h : AllNil a) (k : AllNil b) : AllNil (a ++ b) := fun o ho => (List.mem_append.mp ho).elim (h o) (k o)

/-- The objects of a call or a loop's head, one by one. -/
theorem promObjs (w : World) (O : Nat → Prop) (m : Asg) {ids : List Nat} {st : Stor} {os1 ob os3 : List Abs.Obj} (n1 : AllNil os1) (e3 : promO (ids.map fun id => renO ids (st id)) (ids.length + os1.length) = (ob, os3))
    (hm : ∀ q, ids.length ≤ q → q < ids.length + os1.length + os3.length → m q = some .none) :
    ob.length = ids.length ∧
    (∀ i id, ids[i]? = some id → stOf (ob ++ os1 ++ os3) i = renO ids (st id) ∨ ∃ cs cs', st id = .box cs ∧ stOf (ob ++ os1 ++ os3) i = .box cs' ∧ ∀ us, relVL w O m (renL ids cs) us → relVL w O m cs' us) ∧
    (∀ i, ids.length ≤ i → i < ids.length + os1.length + os3.length → ∃ k, stOf (ob ++ os1 ++ os3) i = .row k []) ∧ (∀ i, ids.length + os1.length + os3.length ≤ i → stOf (ob ++ os1 ++ os3) i = .dead) := by
  obtain ⟨n3, l3, p3⟩ := promO_ok (w := w) (O := O) (m := m) (ids.map fun id => renO ids (st id)) (ids.length + os1.length)
  rw [e3] at n3 l3 p3
  simp only [List.length_map] at l3
  have p3 := p3 fun i h1 h2 => hm i (by omega) h2
  refine ⟨l3, ?_, ?_, ?_⟩
  · intro i id hi
    have hlt := (List.getElem?_eq_some_iff.mp hi).1
    have hob : ob[i]? = some ob[i] := List.getElem?_eq_getElem (by omega)
    have hst : stOf (ob ++ os1 ++ os3) i = ob[i] := stOf_some (by rw [List.append_assoc, List.getElem?_append_left (by omega), hob])
    obtain ⟨o, h3, h4⟩ := p3 i _ hob
    rw [List.getElem?_map, hi] at h3
    cases h3
    rcases h4 with h4 | ⟨cs, cs', h4, h5, h6⟩
    · exact Or.inl (by rw [hst, h4])
    · right
      dsimp only at h4
      cases ho : st id with
      | box cs0 =>
        rw [ho] at h4
        cases h4
        exact ⟨cs0, cs', rfl, by rw [hst, h5], h6⟩
      | dead => rw [ho] at h4; cases h4
      | gone => rw [ho] at h4; cases h4
      | row k xs => rw [ho] at h4; cases h4
      | fro k xs => rw [ho] at h4; cases h4
      | tre f k xs => rw [ho] at h4; cases h4
      | map xs => rw [ho] at h4; cases h4
  · intro i h1 h2
    have hlt : i - ob.length < (os1 ++ os3).length := by simp; omega
    obtain ⟨k, hk⟩ := (n1.append n3).get (List.getElem?_eq_getElem hlt)
    refine ⟨k, ?_⟩
    rw [← hk]
    exact stOf_some (by rw [List.append_assoc, List.getElem?_append_right (by omega), List.getElem?_eq_getElem hlt])
  · intro i h1
    exact stOf_none (by simp; omega)

/-- Objects under other numbers: what lies in memory for them still does. -/
theorem Sto.pick {X : Ctx} {w : World} {O0 O0' : Nat → Prop} {m m' : Asg} {st st' : Stor} (hs : Sto X w O0 m st) (hN : ∀ b, X.N b → O0' b) (hO : ∀ b, O0' b → Ow O0 m st b)
    (src : Nat → Option Nat)
    (h : ∀ i, (st' i = .dead ∧ m' i = none) ∨ st' i = .gone ∨ ((∃ k, st' i = .row k [] ∨ st' i = .tre true k []) ∧ m' i = some .none) ∨
      (∃ id, src i = some id ∧ m' i = m id ∧ (((∃ k xs, st' i = .row k xs ∨ st' i = .fro k xs ∨ (∃ f, st' i = .tre f k xs) ∨ st' i = .map xs) ∧ st id = st' i) ∨ ∃ cs cs', st id = .box cs ∧ st' i = .box cs' ∧ ((∀ b, Ow O0' m' st' b → Ow O0 m st b) → (∀ b, Mz m' st' b → ∃ i id hd, src i = some id ∧ (st id).alive = true ∧ m id = some hd ∧ b ∈ hd.blocks) → ∀ us, relVL w (Ow O0 m st) m cs us → relVL w (Ow O0' m' st') m' cs' us))))
    (hinj : ∀ i i' id, src i = some id → src i' = some id → (st' i).alive = true → (st' i').alive = true → i = i')
    (hdis : ∀ i id hd b, src i = some id → (st' i).alive = true → m id = some hd → b ∈ hd.blocks → ¬ O0' b) :
    Sto X w O0' m' st' ∧ (∀ b, Mz m' st' b → Mz m st b) := by
  have blk : ∀ i hd b, (st' i).alive = true → m' i = some hd → b ∈ hd.blocks → ∃ id, src i = some id ∧ (st id).alive = true ∧ m id = some hd := by
    intro i hd b ha hm hb
    rcases h i with ⟨h1, _⟩ | h1 | ⟨_, h2⟩ | ⟨id, h1, h2, h3⟩
    · rw [h1] at ha; cases ha
    · rw [h1] at ha; cases ha
    · rw [h2] at hm; cases hm; simp [Hd.blocks] at hb
    · refine ⟨id, h1, ?_, by rw [← h2]; exact hm⟩
      rcases h3 with ⟨_, h4⟩ | ⟨cs, cs', h4, _⟩
      · rw [h4]; exact ha
      · rw [h4]; rfl
  have hmz : ∀ b, Mz m' st' b → Mz m st b := by
    rintro b ⟨i, hd, ha, hm, hb⟩
    obtain ⟨id, _, h2, h3⟩ := blk i hd b ha hm hb
    exact ⟨id, hd, h2, h3, hb⟩
  have hmi : ∀ b, Mz m' st' b → ∃ i id hd, src i = some id ∧ (st id).alive = true ∧ m id = some hd ∧ b ∈ hd.blocks := by
    rintro b ⟨i, hd, ha, hm, hb⟩
    obtain ⟨id, h1, h2, h3⟩ := blk i hd b ha hm hb
    exact ⟨i, id, hd, h1, h2, h3, hb⟩
  have hsub : ∀ b, Ow O0' m' st' b → Ow O0 m st b := fun b hb => hb.elim (hO b) fun hb => Or.inr (hmz b hb)
  have mono := MonoW.sub (w := w) hsub
  refine ⟨⟨hs.j, hN, ?_, ?_, ?_, ?_, ?_⟩, hmz⟩
  · intro i hd
    rcases h i with ⟨_, h2⟩ | h1 | ⟨⟨k, h1 | h1⟩, _⟩ | ⟨id, h1, h2, h3⟩
    · exact h2
    · rw [h1] at hd; cases hd
    · rw [h1] at hd; cases hd
    · rw [h1] at hd; cases hd
    · rcases h3 with ⟨⟨k, xs, h4 | h4 | ⟨f, h4⟩ | h4⟩, _⟩ | ⟨cs, cs', _, h4, _⟩ <;> rw [h4] at hd <;> cases hd
  · intro b hb
    rcases hO b hb with hb | ⟨id, hd, ha, hm, hi⟩
    · exact hs.old b hb
    · exact (hs.blk id hd b ha hm hi).1
  · intro i hd b ha hm hi
    obtain ⟨id, h1, h2, h3⟩ := blk i hd b ha hm hi
    exact ⟨(hs.blk id hd b h2 h3 hi).1, hdis i id hd b h1 ha h3 hi⟩
  · intro i i' hd hd' b ha ha' hm hm' hi hi'
    obtain ⟨id, g1, g2, g3⟩ := blk i hd b ha hm hi
    obtain ⟨id', g1', g2', g3'⟩ := blk i' hd' b ha' hm' hi'
    have := hs.inj id id' hd hd' b g2 g2' g3 g3' hi hi'
    subst this
    exact hinj i i' id g1 g1' ha ha'
  · intro i
    rcases h i with ⟨h1, _⟩ | h1 | ⟨⟨k, h1 | h1⟩, h2⟩ | ⟨id, h1, h2, h3⟩
    · rw [h1]; trivial
    · rw [h1]; trivial
    · rw [h1, h2]; exact ⟨.none, rfl, rfl⟩
    · rw [h1, h2]; exact ⟨.none, rfl, by simp [treOk], by simp [Hd.blocks]⟩
    · rw [h2]
      have ho := hs.obj id
      rcases h3 with ⟨h5, h4⟩ | ⟨cs, cs', h4, h5, h6⟩
      · rw [h4] at ho
        obtain ⟨k, xs, h5⟩ := h5
        rcases h5 with h5 | h5 | ⟨f, h5⟩ | h5
        · rw [h5] at ho ⊢
          obtain ⟨hd, g1, g2⟩ := ho
          exact ⟨hd, g1, rowOk_mono mono (fun _ _ _ _ => rfl) g2⟩
        · rw [h5] at ho ⊢
          obtain ⟨hd, g1, g0, g2⟩ := ho
          exact ⟨hd, g1, g0, fun v hv => rel_mono mono _ _ (g2 v hv)⟩
        · rw [h5] at ho ⊢
          exact ho
        · rw [h5] at ho ⊢
          obtain ⟨hd, g1, g2⟩ := ho
          exact ⟨hd, g1, mapOk_mono mono (fun _ _ => rfl) g2⟩
      · rw [h4] at ho
        rw [h5]
        obtain ⟨hd, g1, g2⟩ := ho
        refine ⟨hd, g1, ?_⟩
        cases hd with
        | none => exact g2
        | tre => exact g2.elim
        | mp => exact g2.elim
        | blk b c n =>
          obtain ⟨cc, T, k1, k2, k3⟩ := g2
          exact ⟨cc, T, k1, k2, h6 hsub hmi _ k3⟩

/-! ### What comes back -/
mutual
def Sh.toV (as : List A) : Sh → V
  | .d i => .d (as.getD i .top)
  | .row o => .row o
  | .ptr o off => .ptr o off
  | .agg l => .agg (Sh.toVL as l)
  | .tup l => .tup (Sh.toVL as l)
def Sh.toVL (as : List A) : List Sh → List V
  | [] => []
  | s :: l => Sh.toV as s :: Sh.toVL as l
end

/-- A row's kind: its width; 64 and more stand for rows with all that their cells lead to. -/
def mkRow (k : Nat) (xs : List (List A)) : Abs.Obj := bif Nat.blt k 64 then .row k xs else bif Nat.beq k 128 then .map xs else .tre true (k - 64) xs
theorem mkRow_cases (k : Nat) (xs : List (List A)) : mkRow k xs = .row k xs ∨ mkRow k xs = .tre true (k - 64) xs ∨ mkRow k xs = .map xs := by
  unfold mkRow
  cases Nat.blt k 64
  · cases Nat.beq k 128
    · exact Or.inr (Or.inl rfl)
    · exact Or.inr (Or.inr rfl)
  · exact Or.inl rfl
theorem mkRow_alive (k : Nat) (xs : List (List A)) : (mkRow k xs).alive = true := by
  rcases mkRow_cases k xs with h | h | h <;> rw [h] <;> rfl
/-- Kinds of 256 and more: a row of the kind below, if a datum says so; else given up. -/
def kdK (k : Nat) : Nat := bif Nat.blt k 256 then k else k % 256
def isTrueA (a : A) : Bool := match a with | .val (.bool b) => b | _ => false
def condI : List Nat → Option Nat
  | [] => none
  | k :: ks => bif Nat.blt k 256 then condI ks else some (k / 256 - 1)
def condA (ks : List Nat) (as : List A) : A := match condI ks with | none => .val (.bool true) | some i => as.getD i .top
def rowK (b : Bool) (k : Nat) (xs : List (List A)) : Abs.Obj := bif Nat.blt k 256 then mkRow k xs else bif b then mkRow (k % 256) xs else .gone
theorem rowK_cases (b : Bool) (k : Nat) (xs : List (List A)) : rowK b k xs = .gone ∨ ∃ k', rowK b k xs = mkRow k' xs ∧ k' = kdK k := by
  unfold rowK kdK
  cases Nat.blt k 256
  · cases b
    · exact Or.inl rfl
    · exact Or.inr ⟨_, rfl, rfl⟩
  · exact Or.inr ⟨_, rfl, rfl⟩
theorem rowK_ne (b : Bool) (k : Nat) (xs : List (List A)) : rowK b k xs ≠ .dead := by
  rcases rowK_cases b k xs with h | ⟨k', h, _⟩
  · rw [h]; intro e; cases e
  · rw [h]; intro e; have := mkRow_alive k' xs; rw [e] at this; cases this
def rowO (b : Bool) (ks : List Nat) (rs : List (List (List A))) (j : Nat) : Abs.Obj := rowK b (ks.getD j 0) (rs.getD j [])

def OW.toO (b : Bool) (ks : List Nat) (as : List A) (rs : List (List (List A))) : OW → Abs.Obj
  | .cons => .gone
  | .io j => rowO b ks rs j
  | .box l => .box (Sh.toVL as l)

def SigA.objsB (b : Bool) (sg : SigA) (as : List A) (rs : List (List (List A))) : List Abs.Obj := sg.ws.map (OW.toO b sg.ks as rs) ++ sg.nw.map (rowO b sg.ks rs)
def SigA.objs (sg : SigA) (as : List A) (rs : List (List (List A))) : List Abs.Obj := sg.objsB (isTrueA (condA sg.ks as)) as rs

def hD (o : Out) (i : Nat) : Option A := o.2[i]?
def hR (k : Nat) (o : Out) (i : Nat) : Option (List (List A)) := match o.2[i]? with | some (.sl k' xs) => if k' = k then some xs else none | _ => none

structure HolesOk (sg : SigA) (o : Out) (as : List A) (rs : List (List (List A))) : Prop where
  la : as.length = sg.nd
  da : ∀ i a, as[i]? = some a → hD o i = some a
  lr : rs.length = sg.ks.length
  dr : ∀ j r k, rs[j]? = some r → sg.ks[j]? = some k → hR k o (sg.nd + j) = some r

/-- Back to the numbers of the caller. -/
def bkI (l : List Nat) (i : Nat) (f : Nat → V) : V := match l[i]? with | some j => f j | none => .top
mutual
def bk (l : List Nat) : V → V
  | .ptr id off => bkI l id fun j => .ptr j off
  | .row id => bkI l id .row
  | .rptr _ _ _ _ => .top
  | .win _ _ _ _ => .top
  | .sub _ _ _ _ => .top
  | .agg cs => .agg (bkL l cs)
  | .tup cs => .tup (bkL l cs)
  | .fn f cs => .fn f (bkL l cs)
  | v => v
def bkL (l : List Nat) : List V → List V
  | [] => []
  | c :: cs => bk l c :: bkL l cs
end
def bkO (l : List Nat) : Abs.Obj → Abs.Obj
  | .box cs => .box (bkL l cs)
  | o => o

section
variable {w : World} {O O' : Nat → Prop} {m m' : Asg} {l : List Nat}
mutual
theorem bk_rel (h : MonoW w O w O') (hm : ∀ q id, l[q]? = some id → ∀ hd, m q = some hd → m' id = some hd) : ∀ (v : V) (u : Value), relV w O m v u → relV w O' m' (bk l v) u
  | .top, _, _ => by simp [bk, relV]
  | .nil _, v, hr => by simpa [bk, relV] using hr
  | .d a, v, hr => by simp only [bk, relV] at hr ⊢; exact rel_mono h a v hr
  | .agg cs, v, hr => by
    simp only [bk, relV] at hr ⊢
    obtain ⟨vs, h1, h2⟩ := hr
    exact ⟨vs, h1, bkL_rel h hm cs vs h2⟩
  | .tup cs, v, hr => by
    simp only [bk, relV] at hr ⊢
    obtain ⟨vs, h1, h2⟩ := hr
    exact ⟨vs, h1, bkL_rel h hm cs vs h2⟩
  | .fn f cs, v, hr => by
    simp only [bk, relV] at hr ⊢
    obtain ⟨vs, h1, h2⟩ := hr
    exact ⟨vs, h1, bkL_rel h hm cs vs h2⟩
  | .ptr id off, v, hr => by
    simp only [bk, bkI, relV] at hr ⊢
    obtain ⟨b, c, n, h1, h2⟩ := hr
    cases hi : l[id]? with
    | none => simp [relV]
    | some j => simp only [relV]; exact ⟨b, c, n, hm _ _ hi _ h1, h2⟩
  | .row id, v, hr => by
    simp only [bk, bkI, relV] at hr ⊢
    obtain ⟨hd, h1, h2⟩ := hr
    cases hi : l[id]? with
    | none => simp [relV]
    | some j => simp only [relV]; exact ⟨hd, hm _ _ hi _ h1, h2⟩
  | .rptr _ _ _ _, v, hr => by simp [bk, relV]
  | .win _ _ _ _, v, hr => by simp [bk, relV]
  | .sub _ _ _ _, v, hr => by simp [bk, relV]
  | .ub _ _, v, hr => by simpa [bk, relV] using hr
theorem bkL_rel (h : MonoW w O w O') (hm : ∀ q id, l[q]? = some id → ∀ hd, m q = some hd → m' id = some hd) : ∀ (cs : List V) (vs : List Value), relVL w O m cs vs → relVL w O' m' (bkL l cs) vs
  | [], vs, hr => by simpa [bkL, relVL] using hr
  | c :: cs, vs, hr => by
    simp only [bkL, relVL] at hr ⊢
    obtain ⟨v, r, h1, h2, h3⟩ := hr
    exact ⟨v, r, h1, bk_rel h hm c v h2, bkL_rel h hm cs r h3⟩
end
end

theorem bkO_alive {l : List Nat} {o : Abs.Obj} : (bkO l o).alive = o.alive := by cases o <;> rfl

/-- A call that is handed objects. -/
def SOk (X : Ctx) (P : Program) (f : FuncId) (args : List V) (objs : List Abs.Obj) (sg : SigA) (out : Out) : Prop := Enters P f ∧
  ∀ (w : World) (O : Nat → Prop) (m : Asg) (vs : List Value), Sto X w O m (stOf objs) → (∀ i, i < objs.length → ∃ h, m i = some h ∧ h.fixed = true) → relVL w (Ow O m (stOf objs)) m args vs →
    Calls P f vs.toArray w fun e w' => ∃ v, e = .returned v ∧ ∃ as rs m', HolesOk sg out as rs ∧ (w'.os = w.os ∧ w'.tape = w.tape ∧ Quiet w w' ∧ w.heap.size ≤ w'.heap.size) ∧
      (∀ b, b < w.heap.size → ¬ Mz m (stOf objs) b → w'.heap[b]? = w.heap[b]?) ∧ (∀ b, Mz m' (stOf (sg.objs as rs)) b → Mz m (stOf objs) b ∨ w.heap.size ≤ b) ∧ (∀ i, i < objs.length → m' i = m i) ∧
      Sto X w' O m' (stOf (sg.objs as rs)) ∧ relV w' (Ow O m' (stOf (sg.objs as rs))) m' (sg.r.toV as) v

def StM (X : Ctx) (C : Cfg) (M : Node → Option Out) : Prop := ∀ f args objs sgs sg out, C.sig f = some sgs → altOf objs.length sgs = some sg → M (.callv f args objs) = some out → SOk X C.P f args objs sg out

/-- Empty slices among the arguments stay what they are, or become rows. -/
def promK (keep : Bool) (cs : List V) (n : Nat) : List V × List Abs.Obj := if keep then (cs, []) else promL cs n
theorem promK_nil (keep : Bool) (cs : List V) (n : Nat) : AllNil (promK keep cs n).2 := by
  unfold promK
  split
  · intro o h; simp at h
  · exact promL_nil cs n
theorem promK_rel {w : World} {O : Nat → Prop} {m : Asg} (keep : Bool) (cs : List V) (n : Nat) (us : List Value) (h : ∀ i, n ≤ i → i < n + (promK keep cs n).2.length → m i = some .none) (hr : relVL w O m cs us) : relVL w O m (promK keep cs n).1 us := by
  unfold promK at h ⊢
  split at h
  · rename_i hk; simp only [hk]; exact hr
  · rename_i hk; simp only [hk]; exact promL_rel cs n us h hr

def prepCall (keep : Bool) (st : Stor) (vs : List V) : Option (List Nat × List V × List Abs.Obj × Nat) :=
  let ids := reach st 400 (refsL vs) []
  if nodupN ids then
    match promK keep (renL ids vs) ids.length with
    | (vs2, os1) => (match promO (ids.map fun id => renO ids (st id)) (ids.length + os1.length) with
      | (ob, os3) => some (ids, vs2, ob ++ os1 ++ os3, os1.length + os3.length))
  else none

def liveO : Abs.Obj → Bool
  | .dead => false
  | .gone => false
  | .tre f _ _ => f
  | _ => true

/-- Blocks that are handed on. -/
def Hb (ids : List Nat) (m : Asg) (st : Stor) (b : Nat) : Prop := ∃ id hd, id ∈ ids ∧ (st id).alive = true ∧ m id = some hd ∧ b ∈ hd.blocks

def mCal (ids : List Nat) (p : Nat) (m : Asg) : Asg := fun q => if q < ids.length then (ids[q]?).bind m else if q < ids.length + p then some .none else none

theorem mCal_at {ids : List Nat} {p : Nat} {m : Asg} {q id : Nat} (h : ids[q]? = some id) : mCal ids p m q = m id := by
  have := (List.getElem?_eq_some_iff.mp h).1
  unfold mCal
  rw [if_pos this, h]
  rfl

theorem prep_ok {X : Ctx} {w : World} {O0 : Nat → Prop} {m : Asg} {st0 st : Stor} {vs : List V} {ids : List Nat} {vs2 : List V} {objs : List Abs.Obj} {p : Nat} {keep : Bool} (h : prepCall keep st0 vs = some (ids, vs2, objs, p)) (hlive : objs.all liveO = true)
    (hs : Sto X w O0 m st) (hag : ∀ id ∈ ids, st id = st0 id) {us : List Value} (hr : relVL w (Ow O0 m st) m vs us) :
    ids.Nodup ∧ objs.length = ids.length + p ∧ (∀ i, i < objs.length → ∃ h, mCal ids p m i = some h ∧ h.fixed = true) ∧ (∀ id ∈ ids, ∃ h, m id = some h) ∧ (∀ b, Mz (mCal ids p m) (stOf objs) b ↔ Hb ids m st b) ∧
      Sto X w (fun b => Ow O0 m st b ∧ ¬ Hb ids m st b) (mCal ids p m) (stOf objs) ∧ relVL w (Ow (fun b => Ow O0 m st b ∧ ¬ Hb ids m st b) (mCal ids p m) (stOf objs)) (mCal ids p m) vs2 us := by
  unfold prepCall at h
  dsimp only at h
  split at h
  rotate_left
  · cases h
  rename_i hnd
  generalize reach st0 400 (refsL vs) [] = ids' at h hnd
  have hnd := nodupN_ok hnd
  generalize e1 : promK keep (renL ids' vs) ids'.length = q1 at h
  obtain ⟨vs2', os1⟩ := q1
  dsimp only at h
  generalize e3 : promO (ids'.map fun id => renO ids' (st0 id)) (ids'.length + os1.length) = q3 at h
  obtain ⟨ob, os3⟩ := q3
  simp only [Option.some.injEq, Prod.mk.injEq] at h
  obtain ⟨k1, k2, k3, k4⟩ := h
  have k1 := k1.symm
  subst k1
  subst k2 k3 k4
  have n1 : AllNil os1 := by have := promK_nil keep (renL ids vs) ids.length; rw [e1] at this; exact this
  generalize hmc : mCal ids (os1.length + os3.length) m = mc
  have m1 : ∀ q id, ids[q]? = some id → mc q = m id := fun q id hq => by rw [← hmc]; exact mCal_at hq
  have m2 : ∀ q, ids.length ≤ q → q < ids.length + os1.length + os3.length → mc q = some .none := fun q h1 h2 => by
    rw [← hmc]; simp only [mCal]; rw [if_neg (by omega), if_pos (by omega)]
  have m3 : ∀ q, ids.length + os1.length + os3.length ≤ q → mc q = none := fun q h1 => by
    rw [← hmc]; simp only [mCal]; rw [if_neg (by omega), if_neg (by omega)]
  generalize hst' : stOf (ob ++ os1 ++ os3) = st'
  generalize hO' : (fun b => Ow O0 m st b ∧ ¬ Hb ids m st b) = O0'
  obtain ⟨l3, t1, t2, t3⟩ := promObjs w (Ow O0' mc st') mc n1 e3 m2
  rw [hst'] at t1 t2 t3
  have hlen : (ob ++ os1 ++ os3).length = ids.length + (os1.length + os3.length) := by simp; omega
  have hal : ∀ i, i < ids.length + os1.length + os3.length → liveO (st' i) = true := fun i hi => by
    rw [← hst']
    have : (ob ++ os1 ++ os3)[i]? = some (ob ++ os1 ++ os3)[i] := List.getElem?_eq_getElem (by omega)
    rw [stOf_some this]
    exact List.all_eq_true.mp hlive _ (List.getElem_mem _)
  have hst0 : ∀ i id, ids[i]? = some id → liveO (st id) = true ∧ (st' i).alive = (st id).alive := fun i id hi => by
    have hl := hal i (by have := (List.getElem?_eq_some_iff.mp hi).1; omega)
    rw [hag id (List.mem_of_getElem? hi)]
    rcases t1 i id hi with h1 | ⟨cs, cs', h1, h2, _⟩
    · rw [h1] at hl ⊢
      refine ⟨?_, renO_alive⟩
      cases ho : st0 id <;> rw [ho] at hl <;> simp [renO, liveO] at hl ⊢ <;> exact hl
    · rw [h1, h2]; exact ⟨rfl, rfl⟩
  have hmid : ∀ id ∈ ids, ∃ h, m id = some h := fun id hid => by
    obtain ⟨i, hi⟩ := List.mem_iff_getElem?.mp hid
    have hl := (hst0 i id hi).1
    have ho := hs.obj id
    cases hc : st id <;> rw [hc] at hl ho
    · cases hl
    · cases hl
    all_goals (obtain ⟨hd, h1, _⟩ := ho; exact ⟨hd, h1⟩)
  have hmz : ∀ b, Mz mc st' b ↔ Hb ids m st b := fun b => by
    constructor
    · rintro ⟨i, hd, ha, hm, hb⟩
      by_cases hi : i < ids.length
      · have hg : ids[i]? = some ids[i] := List.getElem?_eq_getElem hi
        exact ⟨ids[i], hd, List.getElem_mem _, by rw [← (hst0 i _ hg).2]; exact ha, by rw [← m1 i _ hg]; exact hm, hb⟩
      · by_cases hi' : i < ids.length + os1.length + os3.length
        · rw [m2 i (by omega) hi'] at hm; cases hm; simp [Hd.blocks] at hb
        · rw [m3 i (by omega)] at hm; cases hm
    · rintro ⟨id, hd, hid, ha, hm, hb⟩
      obtain ⟨i, hi⟩ := List.mem_iff_getElem?.mp hid
      exact ⟨i, hd, by rw [(hst0 i id hi).2]; exact ha, by rw [m1 i id hi]; exact hm, hb⟩
  have hpick := Sto.pick (X := X) (w := w) (O0' := O0') (m' := mc) (st' := st') hs (fun b hb => by
      rw [← hO']
      exact ⟨Or.inl (hs.jn b hb), fun ⟨id, hd, _, ha, hm, hi⟩ => (hs.blk id hd b ha hm hi).2 (hs.jn b hb)⟩) (fun b hb => by rw [← hO'] at hb; exact hb.1) (fun i => ids[i]?) (fun i => ?_)
      (fun i i' id h1 h2 _ _ => (List.getElem?_inj (List.getElem?_eq_some_iff.mp h1).1 hnd).mp (h1.trans h2.symm))
      (fun i id hd b h1 h2 h3 h4 hb => by
        rw [← hO'] at hb
        exact hb.2 ⟨id, hd, List.mem_of_getElem? h1, by rw [← (hst0 i id h1).2]; exact h2, h3, h4⟩)
  rotate_left
  · by_cases hi : i < ids.length
    · have hg : ids[i]? = some ids[i] := List.getElem?_eq_getElem hi
      have hag' := hag ids[i] (List.getElem_mem _)
      have hl := (hst0 i _ hg).1
      right; right; right
      refine ⟨ids[i], hg, m1 i _ hg, ?_⟩
      rcases t1 i _ hg with h1 | ⟨cs, cs', h1, h2, h3⟩
      · cases hc : st ids[i] with
        | dead => rw [hc] at hl; cases hl
        | gone => rw [hc] at hl; cases hl
        | box cs =>
          rw [← hag', hc] at h1
          refine Or.inr ⟨cs, _, rfl, h1, fun hsub _ us hus => renL_rel (MonoW.sub hsub) (fun q id hq hd h => by rw [m1 q id hq]; exact h) _ _ hus⟩
        | row k xs => rw [← hag', hc] at h1; exact Or.inl ⟨⟨k, xs, Or.inl h1⟩, h1.symm⟩
        | fro k xs => rw [← hag', hc] at h1; exact Or.inl ⟨⟨k, xs, Or.inr (Or.inl h1)⟩, h1.symm⟩
        | tre f k xs => rw [← hag', hc] at h1; exact Or.inl ⟨⟨k, xs, Or.inr (Or.inr (Or.inl ⟨f, h1⟩))⟩, h1.symm⟩
        | map xs => rw [← hag', hc] at h1; exact Or.inl ⟨⟨0, xs, Or.inr (Or.inr (Or.inr h1))⟩, h1.symm⟩
      · refine Or.inr ⟨cs, cs', by rw [hag', h1], h2, fun hsub _ us hus => h3 us (renL_rel (MonoW.sub hsub) (fun q id hq hd h => by rw [m1 q id hq]; exact h) _ _ hus)⟩
    · by_cases hi' : i < ids.length + os1.length + os3.length
      · obtain ⟨k, hk⟩ := t2 i (by omega) hi'
        exact Or.inr (Or.inr (Or.inl ⟨⟨k, Or.inl hk⟩, m2 i (by omega) hi'⟩))
      · exact Or.inl ⟨t3 i (by omega), m3 i (by omega)⟩
  refine ⟨hnd, hlen, ?_, hmid, hmz, hpick.1, ?_⟩
  · intro i hi
    by_cases hi' : i < ids.length
    · have hg : ids[i]? = some ids[i] := List.getElem?_eq_getElem hi'
      rw [m1 i _ hg]
      obtain ⟨h, hh⟩ := hmid _ (List.getElem_mem hi')
      have hl := (hst0 i _ hg).1
      refine ⟨h, hh, hs.fixed hh (fun k xs e => ?_) fun e => ?_⟩
      · rw [e] at hl; cases hl
      · rw [e] at hl; cases hl
    · exact ⟨.none, m2 i (by omega) (by omega), rfl⟩
  · have hsub : ∀ b, Ow O0' mc st' b → Ow O0 m st b := fun b hb => hb.elim (fun h => by rw [← hO'] at h; exact h.1) fun hb => Or.inr (hpick.2 b hb)
    have g := promK_rel keep _ ids.length _ (fun i h1 h2 => m2 i h1 (by rw [e1] at h2; dsimp only at h2; omega)) (renL_rel (MonoW.sub hsub) (fun q id hq hd h => by rw [m1 q id hq]; exact h) _ _ hr)
    rw [e1] at g
    exact g
end
end Go.Proofs.YtnbjmmldjggkfaaGreat.Abs
