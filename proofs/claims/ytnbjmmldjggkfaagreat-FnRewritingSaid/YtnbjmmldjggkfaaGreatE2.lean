/- THE STORE: how the objects lie in memory, and what a step of the program may change. -/
import Derived.Test.YtnbjmmldjggkfaaGreatE1
import Derived.LoopN
namespace Go.Proofs.YtnbjmmldjggkfaaGreat.Abs
open Go Go.RowKit

abbrev Asg := Nat → Option Hd

/-- Where objects lie is told once and for all (a tree in the making may go on). -/
def MLe (m m' : Asg) : Prop := ∀ id h, m id = some h → ∃ h', m' id = some h' ∧ h.le h'
theorem MLe.refl (m : Asg) : MLe m m := fun _ h e => ⟨h, e, h.le_refl⟩
theorem MLe.of {m m' : Asg} (h : ∀ id h, m id = some h → m' id = some h) : MLe m m' := fun id hd e => ⟨hd, h id hd e, hd.le_refl⟩
theorem MLe.trans {a b c : Asg} (h : MLe a b) (k : MLe b c) : MLe a c := fun id hd e => by
  obtain ⟨h1, e1, l1⟩ := h id hd e
  obtain ⟨h2, e2, l2⟩ := k id h1 e1
  exact ⟨h2, e2, l1.trans l2⟩
theorem MLe.blk {m m' : Asg} (h : MLe m m') {id b c n : Nat} (e : m id = some (.blk b c n)) : m' id = some (.blk b c n) := by
  obtain ⟨h1, e1, l1⟩ := h id _ e
  rw [e1, l1.blk]

/-- A window on a row: n elements from number off on. -/
def winV (k off n : Nat) : Hd → Value → Prop
  | .none, v => off = 0 ∧ n = 0 ∧ ∃ a, v = .slice a 0 0
  | .blk b c l, v => off + n ≤ l ∧ ∃ q, v = .slice (some ⟨b, q, Option.none⟩) n (c - off) ∧ (off < c → q = off * k)
  | .tre _ _ _ _ _, _ => False
  | .mp _, _ => False

/-- The slice in a tree's cell. -/
def subV (i j k : Nat) : Hd → Value → Prop
  | .tre true _ _ _ ks, v => ∃ h, ks[i * k + j]? = some h ∧ hdr h v ∧ h.isSl = true
  | _, _ => False
theorem hdr_slice {h : Hd} {v : Value} (hs : h.isSl = true) (e : hdr h v) : ∃ a n c, v = .slice a n c := by
  cases h with
  | none => obtain ⟨a, rfl⟩ := e; exact ⟨a, 0, 0, rfl⟩
  | blk b c n => exact ⟨_, _, _, e⟩
  | tre f b c n ks => exact ⟨_, _, _, e⟩
  | mp => cases hs
theorem subV_slice {i j k : Nat} {h : Hd} {v : Value} (s : subV i j k h v) : ∃ a n c, v = .slice a n c := by
  cases h with
  | none => exact s.elim
  | blk => exact s.elim
  | mp => exact s.elim
  | tre f b c n ks =>
    cases f with
    | false => exact s.elim
    | true => obtain ⟨kid, _, e, e'⟩ := s; exact hdr_slice e' e
theorem Hd.le.sub {h h' : Hd} (l : h.le h') {i j k : Nat} {v : Value} (s : subV i j k h v) : subV i j k h' v := by
  rcases l with rfl | ⟨b0, c0, n, ks, f, ks', rfl, rfl⟩
  · exact s
  · exact s.elim
theorem Hd.le.win {h h' : Hd} (l : h.le h') {k off n : Nat} {v : Value} (s : winV k off n h v) : winV k off n h' v := by
  rcases l with rfl | ⟨b0, c0, n, ks, f, ks', rfl, rfl⟩
  · exact s
  · exact s.elim

section
variable (w : World) (O : Nat → Prop) (m : Asg)
mutual
def relV : V → Value → Prop
  | .top, _ => True
  | .nil _, v => ∃ a, v = .slice a 0 0
  | .d a, v => rel w O a v
  | .agg cs, v => ∃ vs : List Value, v = .agg vs.toArray ∧ relVL cs vs
  | .tup cs, v => ∃ vs : List Value, v = .tuple vs.toArray ∧ relVL cs vs
  | .fn f caps, v => ∃ vs : List Value, v = .func (.func f) #[] vs.toArray ∧ relVL caps vs
  | .ptr id off, v => ∃ b c n, m id = some (.blk b c n) ∧ v = .pointer (some ⟨b, off, none⟩)
  | .row id, v => ∃ h, m id = some h ∧ hdr h v
  | .rptr id i k j, v => ∃ h b, m id = some h ∧ h.root = some b ∧ v = .pointer (some ⟨b, i * k + j, none⟩)
  | .win id k off n, v => ∃ h, m id = some h ∧ winV k off n h v
  | .sub id i k j, v => ∃ h, m id = some h ∧ subV i j k h v
  | .ub n neg, v => ∃ b : Bool, v = .bool (b != neg) ∧ (n ≠ 0 → b = false)
def relVL : List V → List Value → Prop
  | [], vs => vs = []
  | c :: cs, vs => ∃ v r, vs = v :: r ∧ relV c v ∧ relVL cs r
end
end

section
variable {w w' : World} {O O' : Nat → Prop} {m m' : Asg}
mutual
theorem relV_mono (h : MonoW w O w' O') (hm : MLe m m') : ∀ (a : V) (v : Value), relV w O m a v → relV w' O' m' a v
  | .top, _, _ => by simp [relV]
  | .nil _, v, hr => by simpa [relV] using hr
  | .d a, v, hr => by simp only [relV] at hr ⊢; exact rel_mono h a v hr
  | .agg cs, v, hr => by
    simp only [relV] at hr ⊢
    obtain ⟨vs, h1, h2⟩ := hr
    exact ⟨vs, h1, relVL_mono h hm cs vs h2⟩
  | .tup cs, v, hr => by
    simp only [relV] at hr ⊢
    obtain ⟨vs, h1, h2⟩ := hr
    exact ⟨vs, h1, relVL_mono h hm cs vs h2⟩
  | .fn f cs, v, hr => by
    simp only [relV] at hr ⊢
    obtain ⟨vs, h1, h2⟩ := hr
    exact ⟨vs, h1, relVL_mono h hm cs vs h2⟩
  | .ptr id off, v, hr => by
    simp only [relV] at hr ⊢
    obtain ⟨b, c, n, h1, h2⟩ := hr
    exact ⟨b, c, n, hm.blk h1, h2⟩
  | .row id, v, hr => by
    simp only [relV] at hr ⊢
    obtain ⟨hd, h1, h2⟩ := hr
    obtain ⟨hd', h3, l⟩ := hm _ _ h1
    exact ⟨hd', h3, l.hdr h2⟩
  | .rptr id i k j, v, hr => by
    simp only [relV] at hr ⊢
    obtain ⟨hd, b, h1, h2, h4⟩ := hr
    obtain ⟨hd', h3, l⟩ := hm _ _ h1
    exact ⟨hd', b, h3, l.root.trans h2, h4⟩
  | .win id k off n, v, hr => by
    simp only [relV] at hr ⊢
    obtain ⟨hd, h1, h2⟩ := hr
    obtain ⟨hd', h3, l⟩ := hm _ _ h1
    exact ⟨hd', h3, l.win h2⟩
  | .sub id i k j, v, hr => by
    simp only [relV] at hr ⊢
    obtain ⟨hd, h1, h2⟩ := hr
    obtain ⟨hd', h3, l⟩ := hm _ _ h1
    exact ⟨hd', h3, l.sub h2⟩
  | .ub _ _, v, hr => by simpa [relV] using hr
theorem relVL_mono (h : MonoW w O w' O') (hm : MLe m m') : ∀ (cs : List V) (vs : List Value), relVL w O m cs vs → relVL w' O' m' cs vs
  | [], vs, hr => by simpa [relVL] using hr
  | c :: cs, vs, hr => by
    simp only [relVL] at hr ⊢
    obtain ⟨v, r, h1, h2, h3⟩ := hr
    exact ⟨v, r, h1, relV_mono h hm c v h2, relVL_mono h hm cs r h3⟩
end

theorem relVL_get : ∀ {cs : List V} {vs : List Value} {i : Nat} {c : V}, relVL w O m cs vs → cs[i]? = some c → ∃ v, vs[i]? = some v ∧ relV w O m c v
  | [], _, _, _, _, h => by simp at h
  | x :: cs, vs, i, c, hr, h => by
    simp only [relVL] at hr
    obtain ⟨v, r, rfl, h2, h3⟩ := hr
    cases i with
    | zero => simp at h; subst h; exact ⟨v, by simp, h2⟩
    | succ i => simp at h; obtain ⟨u, h4, h5⟩ := relVL_get h3 h; exact ⟨u, by simpa using h4, h5⟩

theorem relVL_length : ∀ {cs : List V} {vs : List Value}, relVL w O m cs vs → vs.length = cs.length
  | [], _, h => by simp only [relVL] at h; simp [h]
  | x :: cs, vs, hr => by
    simp only [relVL] at hr
    obtain ⟨v, r, rfl, _, h3⟩ := hr
    simp [relVL_length h3]

theorem relVL_append : ∀ {cs : List V} {vs : List Value} {ds : List V} {us : List Value}, relVL w O m cs vs → relVL w O m ds us → relVL w O m (cs ++ ds) (vs ++ us)
  | [], vs, ds, us, h, k => by simp only [relVL] at h; simpa [h] using k
  | c :: cs, vs, ds, us, h, k => by
    simp only [relVL] at h
    obtain ⟨v, r, rfl, h2, h3⟩ := h
    simp only [List.cons_append, relVL]
    exact ⟨v, r ++ us, rfl, h2, relVL_append h3 k⟩

theorem relVL_drop : ∀ {cs : List V} {vs : List Value} (n : Nat), relVL w O m cs vs → relVL w O m (cs.drop n) (vs.drop n)
  | cs, vs, 0, h => by simpa using h
  | [], vs, n + 1, h => by simp only [relVL] at h; subst h; simp [relVL]
  | c :: cs, vs, n + 1, h => by
    simp only [relVL] at h
    obtain ⟨v, r, rfl, _, h3⟩ := h
    simpa using relVL_drop n h3

theorem relVL_take : ∀ {cs : List V} {vs : List Value} (n : Nat), relVL w O m cs vs → relVL w O m (cs.take n) (vs.take n)
  | cs, vs, 0, h => by simp [relVL]
  | [], vs, n + 1, h => by simp only [relVL] at h; subst h; simp [relVL]
  | c :: cs, vs, n + 1, h => by
    simp only [relVL] at h
    obtain ⟨v, r, rfl, h2, h3⟩ := h
    simp only [List.take_succ_cons, relVL]
    exact ⟨v, _, rfl, h2, relVL_take n h3⟩

theorem relVL_over {cs ds : List V} {vs us : List Value} {off : Nat} (h : relVL w O m cs vs) (k : relVL w O m ds us) : relVL w O m (over cs off ds) (over vs off us) := by
  unfold over
  rw [← relVL_length k]
  exact relVL_append (relVL_append (relVL_take off h) k) (relVL_drop _ h)

theorem relVL_set : ∀ {cs : List V} {vs : List Value} (i : Nat) {c : V} {v : Value}, relVL w O m cs vs → relV w O m c v → relVL w O m (cs.set i c) (vs.set i v)
  | [], vs, i, c, v, h, _ => by simp only [relVL] at h; subst h; simp [relVL]
  | x :: cs, vs, i, c, v, h, hv => by
    simp only [relVL] at h
    obtain ⟨u, r, rfl, h2, h3⟩ := h
    cases i with
    | zero => simp only [List.set_cons_zero, relVL]; exact ⟨v, r, rfl, hv, h3⟩
    | succ i => simp only [List.set_cons_succ, relVL]; exact ⟨u, _, rfl, h2, relVL_set i h3 hv⟩
end

/-! ### Objects -/
def Obj.alive : Obj → Bool
  | .box _ => true
  | .row _ _ => true
  | .tre _ _ _ => true
  | .map _ => true
  | _ => false

abbrev Stor := Nat → Obj

/-- The blocks that the call may turn. -/
def Mz (m : Asg) (st : Stor) : Nat → Prop := fun b => ∃ id hd, (st id).alive = true ∧ m id = some hd ∧ b ∈ hd.blocks

def Ow (O0 : Nat → Prop) (m : Asg) (st : Stor) : Nat → Prop := fun b => O0 b ∨ Mz m st b

mutual
/-- A row with all that its cells lead to. -/
def treOk (w : World) (f : Bool) (k : Nat) (xs : List (List A)) : Hd → Prop
  | .none => xs = []
  | .blk _ _ _ => False
  | .mp _ => False
  | .tre f' b cap n ks => f' = f ∧ n = xs.length ∧ xs.length ≤ cap ∧ cap ≤ 9223372036854775807 ∧ (∀ x ∈ xs, x.length = k) ∧ ∃ c T, w.heap[b]? = some (.cells c T (0, 0)) ∧ c.size = cap * k ∧
      OneCells (c.toList.take (xs.length * k)) ∧ treL w xs.flatten (c.toList.take (xs.length * k)) ks
def treL (w : World) (as : List A) (vs : List Value) : List Hd → Prop
  | [] => as = [] ∧ vs = []
  | h :: hs => ∃ a as' v vs', as = a :: as' ∧ vs = v :: vs' ∧ (match a with
      | .val x => h = .none ∧ v = x
      | .sl k xs => hdr h v ∧ treOk w true k xs h
      | .top => h = .none
      | _ => False) ∧ treL w as' vs' hs
end

def rowOk (w : World) (O : Nat → Prop) (k : Nat) (xs : List (List A)) : Hd → Prop
  | .none => xs = []
  | .tre _ _ _ _ _ => False
  | .mp _ => False
  | .blk b cap n => n = xs.length ∧ xs.length ≤ cap ∧ cap ≤ 9223372036854775807 ∧ (∀ x ∈ xs, x.length = k) ∧ ∃ c T, w.heap[b]? = some (.cells c T (0, 0)) ∧ c.size = cap * k ∧
      OneCells (c.toList.take (xs.length * k)) ∧ relL w O xs.flatten (c.toList.take (xs.length * k))

def boxOk (w : World) (O : Nat → Prop) (m : Asg) (cs : List V) : Hd → Prop
  | .none => False
  | .tre _ _ _ _ _ => False
  | .mp _ => False
  | .blk b _ _ => ∃ c T, w.heap[b]? = some (.cells c T (0, 0)) ∧ OneCells c.toList ∧ relVL w O m cs c.toList

def mapOk (w : World) (O : Nat → Prop) (xs : List (List A)) : Hd → Prop
  | .mp b => ∃ es clock, w.heap[b]? = some (.map es clock) ∧ relEs w O xs es.toList
  | _ => False

def ObjOk (w : World) (O : Nat → Prop) (m : Asg) : Obj → Option Hd → Prop
  | .dead, _ => True
  | .gone, _ => True
  | .box cs, h => ∃ hd, h = some hd ∧ boxOk w O m cs hd
  | .row k xs, h => ∃ hd, h = some hd ∧ rowOk w O k xs hd
  | .fro k xs, h => ∃ hd, h = some hd ∧ hd.fixed = true ∧ ∀ v, hdr hd v → rel w O (.sl k xs) v
  | .tre f k xs, h => ∃ hd, h = some hd ∧ treOk w f k xs hd ∧ hd.blocks.Nodup
  | .map xs, h => ∃ hd, h = some hd ∧ mapOk w O xs hd

/-- What the surroundings promise of memory that nobody here turns. -/
structure Ctx where
  J : World → Prop
  N : Nat → Prop
  stable : ∀ w w' : World, (∀ b, N b → w'.heap[b]? = w.heap[b]?) → J w → J w'

structure Sto (X : Ctx) (w : World) (O0 : Nat → Prop) (m : Asg) (st : Stor) : Prop where
  j : X.J w
  jn : ∀ b, X.N b → O0 b
  fresh : ∀ id, st id = .dead → m id = none
  old : ∀ b, O0 b → b < w.heap.size
  blk : ∀ id hd b, (st id).alive = true → m id = some hd → b ∈ hd.blocks → b < w.heap.size ∧ ¬ O0 b
  inj : ∀ id id' hd hd' b, (st id).alive = true → (st id').alive = true → m id = some hd → m id' = some hd' → b ∈ hd.blocks → b ∈ hd'.blocks → id = id'
  obj : ∀ id, ObjOk w (Ow O0 m st) m (st id) (m id)

/-- What a step does to the world, seen from the objects before it. -/
structure Chg (w : World) (m : Asg) (st : Stor) (w' : World) (m' : Asg) (st' : Stor) : Prop where
  os : w'.os = w.os
  tape : w'.tape = w.tape
  output : Quiet w w'
  size : w.heap.size ≤ w'.heap.size
  keep : ∀ b : Nat, b < w.heap.size → ¬ Mz m st b → w'.heap[b]? = w.heap[b]?
  mext : MLe m m'
  new : ∀ b, Mz m' st' b → Mz m st b ∨ w.heap.size ≤ b

theorem Chg.refl (w : World) (m : Asg) (st : Stor) : Chg w m st w m st := ⟨rfl, rfl, Quiet.refl w, Nat.le_refl _, fun _ _ _ => rfl, MLe.refl m, fun _ h => Or.inl h⟩

theorem Chg.trans {w1 w2 w3 : World} {m1 m2 m3 : Asg} {s1 s2 s3 : Stor} (h : Chg w1 m1 s1 w2 m2 s2) (k : Chg w2 m2 s2 w3 m3 s3) : Chg w1 m1 s1 w3 m3 s3 where
  os := k.os.trans h.os
  tape := k.tape.trans h.tape
  output := k.output.trans h.output
  size := Nat.le_trans h.size k.size
  keep := fun b hb hn => by
    have h2 : ¬ Mz m2 s2 b := fun hm => by
      rcases h.new b hm with h3 | h3
      · exact hn h3
      · omega
    exact (k.keep b (Nat.lt_of_lt_of_le hb h.size) h2).trans (h.keep b hb hn)
  mext := h.mext.trans k.mext
  new := fun b hb => by
    rcases k.new b hb with h1 | h1
    · exact h.new b h1
    · exact Or.inr (Nat.le_trans h.size h1)

theorem Chg.monoW {w w' : World} {m m' : Asg} {st st' : Stor} (h : Chg w m st w' m' st') (O0 : Nat → Prop) : MonoW w (Ow O0 m st) w' (Ow O0 m' st') where
  size := h.size
  keep := fun b hb hn => h.keep b hb fun hm => hn (Or.inr hm)
  own := fun b hb hn ho => by
    rcases ho with ho | ho
    · exact hn (Or.inl ho)
    · rcases h.new b ho with h1 | h1
      · exact hn (Or.inr h1)
      · omega

theorem Chg.relV {w w' : World} {m m' : Asg} {st st' : Stor} (h : Chg w m st w' m' st') {O0 : Nat → Prop} {a : V} {v : Value} (hr : relV w (Ow O0 m st) m a v) : relV w' (Ow O0 m' st') m' a v :=
  relV_mono (h.monoW O0) h.mext a v hr

theorem Mz_of {m : Asg} {st : Stor} {id b c n : Nat} (ha : (st id).alive = true) (h : m id = some (.blk b c n)) : Mz m st b := ⟨id, _, ha, h, by simp [Hd.blocks]⟩

mutual
theorem treOk_congr {w w' : World} : ∀ (hd : Hd) {f : Bool} {k : Nat} {xs : List (List A)}, (∀ b ∈ hd.blocks, w'.heap[b]? = w.heap[b]?) → treOk w f k xs hd → treOk w' f k xs hd
  | .none, _, _, _, _, h => by simpa [treOk] using h
  | .blk _ _ _, _, _, _, _, h => by simp [treOk] at h
  | .mp _, _, _, _, _, h => by simp [treOk] at h
  | .tre f' b cap n ks, f, k, xs, hb, h => by
    simp only [treOk] at h ⊢
    obtain ⟨h1, h2, h3, h4, h5, c, T, h6, h7, h8, h9⟩ := h
    exact ⟨h1, h2, h3, h4, h5, c, T, by rw [hb b (by simp [Hd.blocks])]; exact h6, h7, h8, treL_congr ks (fun x hx => hb x (by simp [Hd.blocks, hx])) h9⟩
theorem treL_congr {w w' : World} : ∀ (ks : List Hd) {as : List A} {vs : List Value}, (∀ b ∈ Hd.blocksL ks, w'.heap[b]? = w.heap[b]?) → treL w as vs ks → treL w' as vs ks
  | [], _, _, _, h => by simpa [treL] using h
  | h :: hs, as, vs, hb, hr => by
    simp only [treL] at hr ⊢
    obtain ⟨a, as', v, vs', e1, e2, h3, h4⟩ := hr
    refine ⟨a, as', v, vs', e1, e2, ?_, treL_congr hs (fun x hx => hb x (by simp [Hd.blocksL, hx])) h4⟩
    cases a with
    | val x => exact h3
    | sl k xs => exact ⟨h3.1, treOk_congr h (fun x hx => hb x (by simp [Hd.blocksL, hx])) h3.2⟩
    | top => exact h3
    | _ => exact h3.elim
end

/-! A tree as data, for those who may read all its blocks. -/
mutual
theorem tre_rel {w : World} {O : Nat → Prop} : ∀ (hd : Hd) {f : Bool} {k : Nat} {xs : List (List A)} {v : Value}, (∀ b ∈ hd.blocks, ¬ O b) → treOk w f k xs hd → hdr hd v → rel w O (.sl k xs) v
  | .none, f, k, xs, v, _, h, hv => by
    simp only [treOk] at h
    simp only [hdr] at hv
    subst h
    obtain ⟨a, rfl⟩ := hv
    simp only [rel]
    exact ⟨a, 0, rfl, by simp, by omega, Or.inl trivial⟩
  | .blk _ _ _, _, _, _, _, _, h, _ => by simp [treOk] at h
  | .mp _, _, _, _, _, _, h, _ => by simp [treOk] at h
  | .tre f' b cap n ks, f, k, xs, v, hb, h, hv => by
    simp only [treOk] at h
    simp only [hdr] at hv
    obtain ⟨h1, rfl, h3, h4, h5, c, T, h6, h7, h8, h9⟩ := h
    subst hv
    simp only [rel]
    refine ⟨_, cap, rfl, h3, h4, Or.inr ⟨b, 0, rfl, (Array.getElem?_eq_some_iff.1 h6).1, hb b (by simp [Hd.blocks]), ?_⟩⟩
    exact rows_of_flat h5 (treL_rel ks (fun x hx => hb x (by simp [Hd.blocks, hx])) h9) ((Reads.block h6).take _) h8
theorem treL_rel {w : World} {O : Nat → Prop} : ∀ (ks : List Hd) {as : List A} {vs : List Value}, (∀ b ∈ Hd.blocksL ks, ¬ O b) → treL w as vs ks → relL w O as vs
  | [], _, _, _, h => by simp only [treL] at h; obtain ⟨rfl, rfl⟩ := h; simp [relL]
  | h :: hs, as, vs, hb, hr => by
    simp only [treL] at hr
    obtain ⟨a, as', v, vs', rfl, rfl, h3, h4⟩ := hr
    simp only [relL]
    refine ⟨v, vs', rfl, ?_, treL_rel hs (fun x hx => hb x (by simp [Hd.blocksL, hx])) h4⟩
    cases a with
    | val x => simp only [rel]; exact h3.2
    | sl k xs => exact tre_rel h (fun x hx => hb x (by simp [Hd.blocksL, hx])) h3.2 h3.1
    | top => simp only [rel]
    | _ => exact h3.elim
end

theorem rowOk_mono {w w' : World} {O O' : Nat → Prop} (h : MonoW w O w' O') {k : Nat} {xs : List (List A)} : ∀ {hd : Hd}, (∀ b c n, hd = .blk b c n → w'.heap[b]? = w.heap[b]?) → rowOk w O k xs hd → rowOk w' O' k xs hd
  | .none, _, hr => hr
  | .tre _ _ _ _ _, _, hr => hr.elim
  | .mp _, _, hr => hr.elim
  | .blk b cap n, hb, hr => by
    obtain ⟨h0, h1, h2, h3, c, T, h4, h5, h7, h6⟩ := hr
    exact ⟨h0, h1, h2, h3, c, T, by rw [hb b cap n rfl]; exact h4, h5, h7, relL_mono h _ _ h6⟩

theorem boxOk_mono {w w' : World} {O O' : Nat → Prop} {m m' : Asg} (h : MonoW w O w' O') (hm : MLe m m') {cs : List V} :
    ∀ {hd : Hd}, (∀ b c n, hd = .blk b c n → w'.heap[b]? = w.heap[b]?) → boxOk w O m cs hd → boxOk w' O' m' cs hd
  | .none, _, hr => hr
  | .tre _ _ _ _ _, _, hr => hr.elim
  | .mp _, _, hr => hr.elim
  | .blk b cap n, hb, hr => by
    obtain ⟨c, T, h4, h7, h6⟩ := hr
    exact ⟨c, T, by rw [hb b cap n rfl]; exact h4, h7, relVL_mono h hm _ _ h6⟩

theorem mapOk_mono {w w' : World} {O O' : Nat → Prop} (h : MonoW w O w' O') {xs : List (List A)} : ∀ {hd : Hd}, (∀ b, hd = .mp b → w'.heap[b]? = w.heap[b]?) → mapOk w O xs hd → mapOk w' O' xs hd
  | .none, _, hr => hr.elim
  | .tre _ _ _ _ _, _, hr => hr.elim
  | .blk _ _ _, _, hr => hr.elim
  | .mp b, hb, hr => by
    obtain ⟨es, c, h4, h6⟩ := hr
    exact ⟨es, c, by rw [hb b rfl]; exact h4, relEs_mono h _ _ h6⟩

theorem ObjOk_mono {w w' : World} {O O' : Nat → Prop} {m m' : Asg} (h : MonoW w O w' O') (hm : MLe m m') {o : Obj} {hd : Option Hd}
    (hb : ∀ h b, o.alive = true → hd = some h → b ∈ h.blocks → w'.heap[b]? = w.heap[b]?) (ho : ObjOk w O m o hd) : ObjOk w' O' m' o hd := by
  cases o with
  | dead => trivial
  | gone => trivial
  | box cs =>
    obtain ⟨h1, rfl, h2⟩ := ho
    exact ⟨h1, rfl, boxOk_mono h hm (fun b c n e => hb _ b rfl rfl (by rw [e]; simp [Hd.blocks])) h2⟩
  | row k xs =>
    obtain ⟨h1, rfl, h2⟩ := ho
    exact ⟨h1, rfl, rowOk_mono h (fun b c n e => hb _ b rfl rfl (by rw [e]; simp [Hd.blocks])) h2⟩
  | fro k xs =>
    obtain ⟨h1, rfl, h0, h2⟩ := ho
    exact ⟨h1, rfl, h0, fun v hv => rel_mono h _ _ (h2 v hv)⟩
  | tre f k xs =>
    obtain ⟨h1, rfl, h2, h3⟩ := ho
    exact ⟨h1, rfl, treOk_congr h1 (fun b e => hb _ b rfl rfl e) h2, h3⟩
  | map xs =>
    obtain ⟨h1, rfl, h2⟩ := ho
    exact ⟨h1, rfl, mapOk_mono h (fun b e => hb _ b rfl rfl (by rw [e]; simp [Hd.blocks])) h2⟩

/-- The store behind a step. -/
theorem Sto.chg {X : Ctx} {w w' : World} {O0 : Nat → Prop} {m m' : Asg} {st st' : Stor} (hs : Sto X w O0 m st) (hc : Chg w m st w' m' st')
    (hfr : ∀ id, st' id = .dead → m' id = none)
    (hblk : ∀ id hd b, (st' id).alive = true → m' id = some hd → b ∈ hd.blocks → ((st id).alive = true ∧ m id = some hd) ∨ (b < w'.heap.size ∧ ¬ O0 b))
    (hinj : ∀ id id' hd hd' b, (st' id).alive = true → (st' id').alive = true → m' id = some hd → m' id' = some hd' → b ∈ hd.blocks → b ∈ hd'.blocks → id = id')
    (hobj : ∀ id, (st' id = st id ∧ m' id = m id ∧ ∀ hd b, (st id).alive = true → m id = some hd → b ∈ hd.blocks → w'.heap[b]? = w.heap[b]?) ∨ ObjOk w' (Ow O0 m' st') m' (st' id) (m' id)) :
    Sto X w' O0 m' st' where
  j := X.stable w w' (fun b hb => hc.keep b (hs.old b (hs.jn b hb)) fun ⟨id, hd, ha, hm, hi⟩ => (hs.blk id hd b ha hm hi).2 (hs.jn b hb)) hs.j
  jn := hs.jn
  fresh := hfr
  old := fun b hb => Nat.lt_of_lt_of_le (hs.old b hb) hc.size
  blk := fun id hd b ha hm hi => by
    rcases hblk id hd b ha hm hi with ⟨h1, h2⟩ | h1
    · have := hs.blk id hd b h1 h2 hi
      exact ⟨Nat.lt_of_lt_of_le this.1 hc.size, this.2⟩
    · exact h1
  inj := hinj
  obj := fun id => by
    rcases hobj id with ⟨h1, h2, h3⟩ | h1
    · rw [h1, h2]
      exact ObjOk_mono (hc.monoW O0) hc.mext (fun hd b ha hm hi => h3 hd b ha hm hi) (hs.obj id)
    · exact h1

/-- Nothing but more memory. -/
theorem Chg.below {w w' : World} {m : Asg} {st : Stor} (h : Below w.heap.size w w') : Chg w m st w' m st where
  os := h.os
  tape := h.tape
  output := h.output
  size := h.size
  keep := fun b hb _ => h.block b hb
  mext := MLe.refl m
  new := fun _ h => Or.inl h

theorem Sto.below {X : Ctx} {w w' : World} {O0 : Nat → Prop} {m : Asg} {st : Stor} (hs : Sto X w O0 m st) (h : Below w.heap.size w w') : Sto X w' O0 m st :=
  hs.chg (Chg.below h) hs.fresh (fun _ _ _ ha hm _ => Or.inl ⟨ha, hm⟩) hs.inj fun id => Or.inl ⟨rfl, rfl, fun hd b ha hm hi => h.block b (hs.blk id hd b ha hm hi).1⟩

def upd {α : Type} (f : Nat → α) (i : Nat) (x : α) : Nat → α := fun j => bif Nat.beq j i then x else f j

theorem upd_self {α : Type} (f : Nat → α) (i : Nat) (x : α) : upd f i x i = x := by simp [upd]
theorem upd_ne {α : Type} (f : Nat → α) {i j : Nat} (x : α) (h : j ≠ i) : upd f i x j = f j := by
  have : Nat.beq j i = false := by
    cases hb : Nat.beq j i with
    | false => rfl
    | true => exact absurd (Nat.eq_of_beq_eq_true hb) h
  simp [upd, this]
theorem upd_comm {α : Type} (f : Nat → α) {i j : Nat} (x y : α) (h : i ≠ j) : upd (upd f i x) j y = upd (upd f j y) i x := by
  funext k
  by_cases h1 : k = i
  · subst h1; rw [upd_ne _ _ h, upd_self, upd_self]
  · by_cases h2 : k = j
    · subst h2; rw [upd_self, upd_ne _ _ h1, upd_self]
    · rw [upd_ne _ _ h2, upd_ne _ _ h1, upd_ne _ _ h1, upd_ne _ _ h2]

/-! ### Ghost steps: an object is given up, or turned no more -/
theorem Mz_upd {m : Asg} {st : Stor} {id : Nat} {o : Obj} (ho : o.alive = true → (st id).alive = true) {b : Nat} (h : Mz m (upd st id o) b) : Mz m st b := by
  obtain ⟨i, hd, ha, hm, hi⟩ := h
  by_cases e : i = id
  · subst e; rw [upd_self] at ha; exact ⟨i, hd, ho ha, hm, hi⟩
  · rw [upd_ne _ _ e] at ha; exact ⟨i, hd, ha, hm, hi⟩

theorem Chg.ghost {w : World} {m : Asg} {st : Stor} {id : Nat} {o : Obj} (ho : o.alive = true → (st id).alive = true) : Chg w m st w m (upd st id o) :=
  ⟨rfl, rfl, Quiet.refl w, Nat.le_refl _, fun _ _ _ => rfl, MLe.refl m, fun _ h => Or.inl (Mz_upd ho h)⟩

theorem Sto.ghost {X : Ctx} {w : World} {O0 : Nat → Prop} {m : Asg} {st : Stor} (hs : Sto X w O0 m st) {id : Nat} {o : Obj} (ho : o.alive = true → (st id).alive = true) (hd : o ≠ .dead)
    (hok : ObjOk w (Ow O0 m (upd st id o)) m o (m id)) : Sto X w O0 m (upd st id o) := by
  have al : ∀ i, (upd st id o i).alive = true → (st i).alive = true := fun i ha => by
    by_cases e : i = id
    · subst e; rw [upd_self] at ha; exact ho ha
    · rwa [upd_ne _ _ e] at ha
  have fr : ∀ i, upd st id o i = .dead → m i = none := fun i h => by
    by_cases e : i = id
    · subst e; rw [upd_self] at h; exact (hd h).elim
    · rw [upd_ne _ _ e] at h; exact hs.fresh i h
  refine hs.chg (Chg.ghost ho) fr (fun i hd b ha hm _ => Or.inl ⟨al i ha, hm⟩) (fun i i' hd hd' b h1 h2 => hs.inj i i' hd hd' b (al i h1) (al i' h2)) fun i => ?_
  by_cases e : i = id
  · subst e; rw [upd_self]; exact Or.inr hok
  · rw [upd_ne _ _ e]; exact Or.inl ⟨rfl, rfl, fun _ _ _ _ _ => rfl⟩

theorem Sto.kill {X : Ctx} {w : World} {O0 : Nat → Prop} {m : Asg} {st : Stor} (hs : Sto X w O0 m st) (id : Nat) : Sto X w O0 m (upd st id .gone) :=
  hs.ghost (fun h => by cases h) (fun h => by cases h) trivial

theorem treL_len {w : World} : ∀ {ks : List Hd} {as : List A} {vs : List Value}, treL w as vs ks → as.length = ks.length ∧ vs.length = ks.length
  | [], _, _, h => by simp only [treL] at h; obtain ⟨rfl, rfl⟩ := h; exact ⟨rfl, rfl⟩
  | h :: hs, _, _, hr => by
    simp only [treL] at hr
    obtain ⟨a, as', v, vs', rfl, rfl, _, h4⟩ := hr
    have := treL_len h4
    simp [this.1, this.2]
/-- A tree's cell and what lies behind it. -/
def treC (w : World) (h : Hd) (a : A) (v : Value) : Prop :=
  match a with
  | .val x => h = .none ∧ v = x
  | .sl k xs => hdr h v ∧ treOk w true k xs h
  | .top => h = .none
  | _ => False
theorem treL_cons {w : World} {h : Hd} {hs : List Hd} {as : List A} {vs : List Value} : treL w as vs (h :: hs) ↔ ∃ a as' v vs', as = a :: as' ∧ vs = v :: vs' ∧ treC w h a v ∧ treL w as' vs' hs := by
  simp only [treL]
  constructor
  · rintro ⟨a, as', v, vs', e1, e2, h3, h4⟩
    exact ⟨a, as', v, vs', e1, e2, by cases a <;> exact h3, h4⟩
  · rintro ⟨a, as', v, vs', e1, e2, h3, h4⟩
    exact ⟨a, as', v, vs', e1, e2, by cases a <;> exact h3, h4⟩
theorem treL_get {w : World} : ∀ {ks : List Hd} {as : List A} {vs : List Value} {p : Nat} {a : A}, treL w as vs ks → as[p]? = some a → ∃ h v, ks[p]? = some h ∧ vs[p]? = some v ∧ treC w h a v
  | [], _, _, _, _, h, e => by simp only [treL] at h; obtain ⟨rfl, rfl⟩ := h; simp at e
  | h :: hs, _, _, p, a, hr, e => by
    obtain ⟨a', as', v, vs', rfl, rfl, h3, h4⟩ := treL_cons.1 hr
    cases p with
    | zero => simp at e; subst e; exact ⟨h, v, rfl, rfl, h3⟩
    | succ p => simp at e; obtain ⟨h', v', e1, e2, e3⟩ := treL_get h4 e; exact ⟨h', v', by simpa using e1, by simpa using e2, e3⟩
theorem flatten_get : ∀ {xs : List (List A)} {k i j : Nat} {x : List A}, (∀ y ∈ xs, y.length = k) → xs[i]? = some x → j < k → xs.flatten[i * k + j]? = x[j]?
  | [], _, _, _, _, _, e, _ => by simp at e
  | y :: xs, k, i, j, x, h, e, hj => by
    have hy : y.length = k := h y (by simp)
    rw [List.flatten_cons]
    cases i with
    | zero => simp at e; subst e; rw [Nat.zero_mul, Nat.zero_add, List.getElem?_append_left (by omega)]
    | succ i =>
      simp at e
      rw [List.getElem?_append_right (by rw [hy, Nat.add_one_mul]; omega), hy]
      have := flatten_get (xs := xs) (j := j) (fun z hz => h z (by simp [hz])) e hj
      rw [← this]
      congr 1
      rw [Nat.add_one_mul]; omega
theorem blocksL_mem {h : Hd} {b : Nat} : ∀ {ks : List Hd} {p : Nat}, ks[p]? = some h → b ∈ h.blocks → b ∈ Hd.blocksL ks
  | [], _, e, _ => by simp at e
  | x :: ks, p, e, hb => by
    cases p with
    | zero => simp at e; subst e; simp [Hd.blocksL, hb]
    | succ p => simp at e; simp [Hd.blocksL, blocksL_mem e hb]

theorem rowOk_fixed {w : World} {O : Nat → Prop} {k : Nat} {xs : List (List A)} : ∀ {hd : Hd}, rowOk w O k xs hd → hd.fixed = true
  | .none, _ => rfl
  | .blk _ _ _, _ => rfl
  | .tre _ _ _ _ _, h => h.elim
  | .mp _, h => h.elim
theorem boxOk_fixed {w : World} {O : Nat → Prop} {m : Asg} {cs : List V} : ∀ {hd : Hd}, boxOk w O m cs hd → hd.fixed = true
  | .none, h => h.elim
  | .blk _ _ _, _ => rfl
  | .tre _ _ _ _ _, h => h.elim
  | .mp _, h => h.elim
theorem treOk_fixed {w : World} {k : Nat} {xs : List (List A)} : ∀ {hd : Hd}, treOk w true k xs hd → hd.fixed = true
  | .none, _ => rfl
  | .blk _ _ _, _ => rfl
  | .tre _ _ _ _ _, h => by simp only [treOk] at h; exact h.1
  | .mp _, _ => rfl
theorem mapOk_fixed {w : World} {O : Nat → Prop} {xs : List (List A)} : ∀ {hd : Hd}, mapOk w O xs hd → hd.fixed = true
  | .none, h => h.elim
  | .blk _ _ _, h => h.elim
  | .tre _ _ _ _ _, h => h.elim
  | .mp _, _ => rfl
theorem treOk_isSl {w : World} {f : Bool} {k : Nat} {xs : List (List A)} : ∀ {hd : Hd}, treOk w f k xs hd → hd.isSl = true
  | .none, _ => rfl
  | .blk _ _ _, _ => rfl
  | .tre _ _ _ _ _, _ => rfl
  | .mp _, h => by simp [treOk] at h
theorem treOk_freeze {w : World} {f : Bool} {k : Nat} {xs : List (List A)} {hd : Hd} (h : treOk w f k xs hd) : treOk w true k xs hd.freeze := by
  cases hd with
  | none => simpa [treOk, Hd.freeze] using h
  | blk => simp [treOk] at h
  | mp => simp [treOk] at h
  | tre f' b c n ks => simp only [treOk, Hd.freeze] at h ⊢; exact ⟨trivial, h.2⟩
/-- A row's first block. -/
theorem row_root {X : Ctx} {w : World} {O0 : Nat → Prop} {m : Asg} {st : Stor} (hs : Sto X w O0 m st) {id k b : Nat} {xs : List (List A)} {hd : Hd} (h : st id = .row k xs) (hm : m id = some hd) (hb : hd.root = some b) : ∃ c n, m id = some (.blk b c n) := by
  have ho := hs.obj id
  rw [h] at ho
  obtain ⟨hd', h1, h2⟩ := ho
  rw [hm] at h1
  cases h1
  cases hd with
  | none => cases hb
  | blk b' c n => cases hb; exact ⟨c, n, hm⟩
  | tre => exact h2.elim
  | mp => exact h2.elim
/-- What a living object's place is, unless it is a tree in the making. -/
theorem Sto.fixed {X : Ctx} {w : World} {O0 : Nat → Prop} {m : Asg} {st : Stor} (hs : Sto X w O0 m st) {id : Nat} {hd : Hd} (hm : m id = some hd) (h : ∀ k xs, st id ≠ .tre false k xs) (hg : st id ≠ .gone) : hd.fixed = true := by
  have ho := hs.obj id
  have hf := hs.fresh id
  cases e : st id with
  | dead => rw [hf e] at hm; cases hm
  | gone => exact absurd e hg
  | box cs => rw [e] at ho; obtain ⟨hd', h1, h2⟩ := ho; rw [hm] at h1; cases h1; exact boxOk_fixed h2
  | row k xs => rw [e] at ho; obtain ⟨hd', h1, h2⟩ := ho; rw [hm] at h1; cases h1; exact rowOk_fixed h2
  | fro k xs => rw [e] at ho; obtain ⟨hd', h1, h2, _⟩ := ho; rw [hm] at h1; cases h1; exact h2
  | tre f k xs =>
    rw [e] at ho; obtain ⟨hd', h1, h2, _⟩ := ho; rw [hm] at h1; cases h1
    cases f with
    | false => exact absurd e (h k xs)
    | true => exact treOk_fixed h2
  | map xs => rw [e] at ho; obtain ⟨hd', h1, h2⟩ := ho; rw [hm] at h1; cases h1; exact mapOk_fixed h2

/-- A row's data, once nobody turns it. -/
theorem row_data {w : World} {O O' : Nat → Prop} {k : Nat} {xs : List (List A)} {hd : Hd} {v : Value} (h : rowOk w O k xs hd) (hv : hdr hd v) (hO : ∀ b, O' b → O b)
    (hb : ∀ b c n, hd = .blk b c n → ¬ O' b) : rel w O' (.sl k xs) v := by
  cases hd with
  | none =>
    simp only [rowOk] at h
    simp only [hdr] at hv
    subst h
    obtain ⟨a, rfl⟩ := hv
    simp only [rel]
    exact ⟨a, 0, rfl, by simp, by omega, Or.inl trivial⟩
  | blk b cap n =>
    obtain ⟨rfl, h1, h2, h3, c, T, h4, h5, h6, h7⟩ := h
    simp only [hdr] at hv
    subst hv
    simp only [rel]
    refine ⟨_, cap, rfl, h1, h2, Or.inr ⟨b, 0, rfl, (Array.getElem?_eq_some_iff.1 h4).1, hb b cap _ rfl, ?_⟩⟩
    exact rows_of_flat h3 (relL_mono (MonoW.sub hO) _ _ h7) ((Reads.block h4).take _) h6
  | tre => exact h.elim
  | mp => exact h.elim
/-- A map's data, once nobody turns it. -/
theorem map_data {w : World} {O O' : Nat → Prop} {xs : List (List A)} {hd : Hd} {v : Value} (h : mapOk w O xs hd) (hv : hdr hd v) (hO : ∀ b, O' b → O b)
    (hb : ∀ b, hd = .mp b → ¬ O' b) : rel w O' (.mp xs) v := by
  cases hd with
  | mp b =>
    obtain ⟨es, c, h1, h2⟩ := h
    simp only [hdr] at hv
    subst hv
    simp only [rel]
    exact Or.inr ⟨b, es, c, rfl, (Array.getElem?_eq_some_iff.1 h1).1, hb b rfl, h1, relEs_mono (MonoW.sub hO) _ _ h2⟩
  | _ => exact h.elim

theorem win_data {w : World} {O O' : Nat → Prop} {k off n : Nat} {xs : List (List A)} {hd : Hd} {v : Value} (h : rowOk w O k xs hd) (hv : winV k off n hd v) (hO : ∀ b, O' b → O b)
    (hb : ∀ b c n, hd = .blk b c n → ¬ O' b) : rel w O' (.sl k ((xs.drop off).take n)) v := by
  cases hd with
  | none =>
    simp only [rowOk] at h
    simp only [winV] at hv
    obtain ⟨rfl, rfl, a, rfl⟩ := hv
    simp only [rel]
    exact ⟨a, 0, by simp, by simp, by omega, Or.inl (by simp)⟩
  | blk b cap l =>
    obtain ⟨rfl, h1, h2, h3, c, T, h4, h5, h6, h7⟩ := h
    simp only [winV] at hv
    obtain ⟨hl, q, rfl, hq⟩ := hv
    have hlen : ((xs.drop off).take n).length = n := by simp; omega
    simp only [rel]
    refine ⟨_, cap - off, by rw [hlen], by omega, by omega, ?_⟩
    by_cases hn : n = 0
    · subst hn; left; simp
    · right
      have hqe := hq (by omega)
      subst hqe
      refine ⟨b, off * k, rfl, (Array.getElem?_eq_some_iff.1 h4).1, hb b cap _ rfl, ?_⟩
      have := rows_of_flat (w := w) (O := O') (b := b) (off := 0) h3 (relL_mono (MonoW.sub hO) _ _ h7) ((Reads.block h4).take _) h6
      have := relRows_take n (relRows_drop off this (by omega))
      simpa using this
  | tre => exact h.elim
  | mp => exact h.elim

theorem Ow_upd {O0 : Nat → Prop} {m : Asg} {st : Stor} {id : Nat} {o : Obj} (ho : o.alive = true → (st id).alive = true) : ∀ b, Ow O0 m (upd st id o) b → Ow O0 m st b :=
  fun _ h => h.imp (fun h => h) (Mz_upd ho)

theorem not_Ow_dead' {X : Ctx} {w : World} {O0 : Nat → Prop} {m : Asg} {st : Stor} (hs : Sto X w O0 m st) {id b : Nat} {hd : Hd} {o : Obj} (ha : (st id).alive = true) (hm : m id = some hd) (hi : b ∈ hd.blocks) (ho : o.alive = false) : ¬ Ow O0 m (upd st id o) b := by
  rintro (h | ⟨i, hd', h1, h2, h3⟩)
  · exact (hs.blk id hd b ha hm hi).2 h
  · by_cases e : i = id
    · subst e; rw [upd_self, ho] at h1; cases h1
    · rw [upd_ne _ _ e] at h1
      exact e (hs.inj i id hd' hd b h1 ha h2 hm h3 hi)
theorem mem_blk {b c n : Nat} : b ∈ (Hd.blk b c n).blocks := by simp [Hd.blocks]
theorem blk_mem {x b c n : Nat} (h : x ∈ (Hd.blk b c n).blocks) : x = b := by simpa [Hd.blocks] using h
theorem not_Ow_dead {X : Ctx} {w : World} {O0 : Nat → Prop} {m : Asg} {st : Stor} (hs : Sto X w O0 m st) {id b c n : Nat} {o : Obj} (ha : (st id).alive = true) (hm : m id = some (.blk b c n)) (ho : o.alive = false) : ¬ Ow O0 m (upd st id o) b :=
  not_Ow_dead' hs ha hm mem_blk ho

theorem Sto.freeze {X : Ctx} {w : World} {O0 : Nat → Prop} {m : Asg} {st : Stor} (hs : Sto X w O0 m st) {id k : Nat} {xs : List (List A)} (h : st id = .row k xs) : Sto X w O0 m (upd st id (.fro k xs)) := by
  refine hs.ghost (fun h => by cases h) (fun h => by cases h) ?_
  have ho := hs.obj id
  rw [h] at ho
  obtain ⟨hd, h1, h2⟩ := ho
  refine ⟨hd, h1, rowOk_fixed h2, fun v hv => row_data h2 hv (Ow_upd fun h => by cases h) fun b c n e => ?_⟩
  subst e
  exact not_Ow_dead hs (by rw [h]; rfl) h1 rfl

/-! ### New objects -/
theorem below_alloc (w : World) (ob : Go.Obj) : Below w.heap.size w (w.alloc ob) := (Below.refl _ w).alloc (Nat.le_refl _) ob
theorem heap_alloc_new (w : World) (ob : Go.Obj) : (w.alloc ob).heap[w.heap.size]? = some ob := by
  show (w.heap.push ob)[w.heap.size]? = some ob
  simp
theorem size_alloc' (w : World) (ob : Go.Obj) : (w.alloc ob).heap.size = w.heap.size + 1 := by
  show (w.heap.push ob).size = _
  simp

/-- An object at a number that was free, in memory that was made now (or without any). -/
theorem new_obj {X : Ctx} {w w' : World} {O0 : Nat → Prop} {m : Asg} {st : Stor} (hs : Sto X w O0 m st) (hb : Below w.heap.size w w') {id : Nat} (hf' : st id = .dead) {hd : Hd} {o : Obj} (hod : o ≠ .dead)
    (hnew : ∀ b ∈ hd.blocks, w.heap.size ≤ b ∧ b < w'.heap.size)
    (hok : ObjOk w' (Ow O0 (upd m id (some hd)) (upd st id o)) (upd m id (some hd)) o (some hd)) :
    Chg w m st w' (upd m id (some hd)) (upd st id o) ∧ Sto X w' O0 (upd m id (some hd)) (upd st id o) := by
  have hf := hs.fresh id hf'
  have hmz : ∀ b, Mz (upd m id (some hd)) (upd st id o) b → Mz m st b ∨ w.heap.size ≤ b := by
    rintro b ⟨i, hd1, ha, hm, hi⟩
    by_cases e : i = id
    · subst e
      rw [upd_self] at hm
      cases hm
      exact Or.inr (hnew b hi).1
    · rw [upd_ne _ _ e] at ha hm
      exact Or.inl ⟨i, hd1, ha, hm, hi⟩
  have hchg : Chg w m st w' (upd m id (some hd)) (upd st id o) :=
    ⟨hb.os, hb.tape, hb.output, hb.size, fun b h _ => hb.block b h, MLe.of fun i h e => by
      have : i ≠ id := fun e' => by subst e'; rw [hf] at e; cases e
      rw [upd_ne _ _ this]; exact e, hmz⟩
  refine ⟨hchg, hs.chg hchg ?_ ?_ ?_ ?_⟩
  · intro i h
    by_cases e : i = id
    · subst e; rw [upd_self] at h; exact (hod h).elim
    · rw [upd_ne _ _ e] at h ⊢; exact hs.fresh i h
  · intro i hd1 b ha hm hi
    by_cases e : i = id
    · subst e
      rw [upd_self] at hm
      cases hm
      have := hnew b hi
      exact Or.inr ⟨this.2, fun h => by have := hs.old b h; omega⟩
    · rw [upd_ne _ _ e] at ha hm
      exact Or.inl ⟨ha, hm⟩
  · intro i i' hd1 hd2 b h1 h2 h3 h4 h5 h6
    by_cases e : i = id
    · by_cases e' : i' = id
      · rw [e, e']
      · subst e
        rw [upd_self] at h3
        rw [upd_ne _ _ e'] at h2 h4
        cases h3
        have g1 := hnew b h5
        have g2 := hs.blk i' hd2 b h2 h4 h6
        omega
    · by_cases e' : i' = id
      · subst e'
        rw [upd_self] at h4
        rw [upd_ne _ _ e] at h1 h3
        cases h4
        have g1 := hnew b h6
        have g2 := hs.blk i hd1 b h1 h3 h5
        omega
      · rw [upd_ne _ _ e] at h1 h3
        rw [upd_ne _ _ e'] at h2 h4
        exact hs.inj i i' hd1 hd2 b h1 h2 h3 h4 h5 h6
  · intro i
    by_cases e : i = id
    · subst e; rw [upd_self, upd_self]; exact Or.inr hok
    · rw [upd_ne _ _ e, upd_ne _ _ e]
      exact Or.inl ⟨rfl, rfl, fun hd1 b ha hm hi => hb.block b (hs.blk i hd1 b ha hm hi).1⟩
end Go.Proofs.YtnbjmmldjggkfaaGreat.Abs
