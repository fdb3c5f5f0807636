/- OPERATIONS THAT LOOK AND RECKON, over slots: what they come to, and that it is so. -/
import Derived.Test.YtnbjmmldjggkfaaGreatE4
namespace Go.Proofs.YtnbjmmldjggkfaaGreat.Abs
open Go Go.RowKit
noncomputable section

abbrev Out := A × List A

/-- A number as data. -/
def nA (n : Nat) : A := vi n

def pLenL (a : A) : Option A := match a with | .sl _ xs => some (vi xs.length) | _ => none
def pLenS (a : A) : Option A := match a with | .val (.string s) => some (vi (bs s).length) | _ => none
def rLen (xs : List (List A)) : A := vi xs.length
def rGetD (xs : List (List A)) (i : Nat) : List A := xs.getD i []
def pRowP (xs : List (List A)) (i j : Nat) : Option A := (xs[i]?).bind (·[j]?)
def pRowN (xs : List (List A)) (i j n : Nat) : Option A := (xs[i]?).map fun cs => .agg ((cs.drop j).take n)

/-! ### Maps, as data -/
def keyK : TK → Option (Option IntKind)
  | .str => some none
  | .int k => some (some k)
  | _ => none
def keyOk : Option IntKind → A → Bool
  | none, .val (.string _) => true
  | some k, .val (.int k' _) => decide (k' = k)
  | _, _ => false
def eqK : Option IntKind → A → A → Option Bool
  | none, .val (.string a), .val (.string b) => some (decide (bs a = bs b))
  | some _, .val (.int k a), .val (.int k' b) => if k = k' then some (decide (a = b)) else none
  | _, _, _ => none
def mFind (ks : Option IntKind) (k : A) : List (List A) → Nat → Option (Option (Nat × A))
  | [], _ => some none
  | [k', v] :: xs, i => (match eqK ks k k' with
    | some true => some (some (i, v))
    | some false => mFind ks k xs (i + 1)
    | none => none)
  | _ :: _, _ => none
def mapA : A → Option (List (List A))
  | .mp xs => some xs
  | .val (.map none) => some []
  | _ => none
def zA (plain : Bool) (z : List A) : A := if plain then z.headD .top else .agg z
def zOk (i : TI) : Bool := match i.zero with | .agg _ => !i.kind.plain | _ => i.kind.plain
def lookV (c : Bool) (v : A) (b : Bool) : A := if c then .tup [v, vb b] else v
def lookR (c plain : Bool) (z : List A) : Option (Nat × A) → A
  | some (_, v) => lookV c v true
  | none => lookV c (zA plain z) false
/-- What a map holds at a key. -/
def pLook (ks : Option IntKind) (c plain : Bool) (z : List A) (a k : A) : Option A :=
  if keyOk ks k then (mapA a).bind fun xs => (mFind ks k xs 0).map (lookR c plain z) else none
/-- A map with a key's value put in. -/
def pPut (ks : Option IntKind) (xs : List (List A)) (k v : A) : Option (List (List A)) :=
  if keyOk ks k then (mFind ks k xs 0).map fun r => match r with
    | some (i, _) => xs.set i [k, v]
    | none => xs ++ [[k, v]]
  else none

/-! ### A slot's value as plain data: the objects behind it are read off -/
mutual
def toA (st : Stor) : Nat → V → Option (A × List Rd)
  | _, .d a => some (a, [])
  | _, .nil k => some (.sl k [], [])
  | _, .row id => (match st id with
    | .row k xs => some (.sl k xs, [.obj id (.row k xs)])
    | .fro k xs => some (.sl k xs, [.obj id (.fro k xs)])
    | .tre f k xs => some (.sl k xs, [.obj id (.tre f k xs)])
    | .map xs => some (.mp xs, [.obj id (.map xs)])
    | _ => none)
  | _, .sub id i k j => (match st id with
    | .tre true k' xs => if k' = k ∧ j < k then (match (xs[i]?).bind (·[j]?) with | some (.sl l ys) => some (.sl l ys, [.obj id (.tre true k' xs)]) | _ => none) else none
    | _ => none)
  | _, .win id k off n => (match st id with
    | .row k' xs => if k' = k then some (.sl k ((xs.drop off).take n), [.obj id (.row k' xs)]) else none
    | _ => none)
  | n + 1, .agg cs => (match toAL st n cs with | some (as, r) => some (.agg as, r) | none => none)
  | n + 1, .tup cs => (match toAL st n cs with | some (as, r) => some (.tup as, r) | none => none)
  | n + 1, .fn f cs => (match toAL st n cs with | some (as, r) => some (.fn f as, r) | none => none)
  | n + 1, .ptr id off => (match st id with
    | .box cs => (match toAL st n cs with | some (as, r) => some (.elt as off, .obj id (.box cs) :: r) | none => none)
    | _ => none)
  | _, _ => none
def toAL (st : Stor) : Nat → List V → Option (List A × List Rd)
  | _, [] => some ([], [])
  | n + 1, c :: cs => (match toA st n c with
    | some (a, r) => (match toAL st n cs with | some (as, r') => some (a :: as, r ++ r') | none => none)
    | none => none)
  | 0, _ :: _ => none
end

/-- The blocks of living objects that were read. -/
def RB (m : Asg) (rds : List Rd) (b : Nat) : Prop := ∃ id o hd, Rd.obj id o ∈ rds ∧ o.alive = true ∧ m id = some hd ∧ b ∈ hd.blocks

def aliveR : List Rd → Bool
  | [] => false
  | .obj _ o :: r => o.alive || aliveR r
  | _ :: r => aliveR r

theorem RB_none {m : Asg} : ∀ {rds : List Rd}, aliveR rds = false → ∀ b, ¬ RB m rds b
  | [], _, b => fun ⟨_, _, _, h, _⟩ => by cases h
  | r :: rds, h, b => by
    rintro ⟨id, o, hd, h1, h2, h3⟩
    rcases List.mem_cons.1 h1 with rfl | h1
    · simp only [aliveR, Bool.or_eq_false_iff] at h
      rw [h2] at h; cases h.1
    · have h' : aliveR rds = false := by
        cases r <;> simp only [aliveR, Bool.or_eq_false_iff] at h <;> first | exact h | exact h.2
      exact RB_none h' b ⟨id, o, hd, h1, h2, h3⟩

section
variable {X : Ctx} {w : World} {O0 : Nat → Prop} {m : Asg} {st : Stor}

mutual
theorem toA_agr {st' : Stor} : ∀ (n : Nat) (v : V) {a : A} {rds : List Rd}, toA st n v = some (a, rds) → (∀ r ∈ rds, agr st' r) → toA st' n v = some (a, rds)
  | _, .d a, _, _, h, _ => by simpa [toA] using h
  | _, .nil k, _, _, h, _ => by simpa [toA] using h
  | _, .top, _, _, h, _ => by simp [toA] at h
  | _, .rptr _ _ _ _, _, _, h, _ => by simp [toA] at h
  | _, .ub _ _, _, _, h, _ => by simp [toA] at h
  | _, .win id k off n, a, rds, h, hg => by
    simp only [toA] at h
    split at h
    · rename_i k' xs _
      split at h
      · rename_i hk
        cases h
        have : st' id = .row k' xs := hg (.obj id (.row k' xs)) (by simp)
        simp [toA, this, hk]
      · cases h
    · cases h
  | _, .row id, a, rds, h, hg => by
    simp only [toA] at h
    split at h
    · rename_i k xs _
      cases h
      have : st' id = .row k xs := hg (.obj id (.row k xs)) (by simp)
      simp [toA, this]
    · rename_i k xs _
      cases h
      have : st' id = .fro k xs := hg (.obj id (.fro k xs)) (by simp)
      simp [toA, this]
    · rename_i f k xs _
      cases h
      have : st' id = .tre f k xs := hg (.obj id (.tre f k xs)) (by simp)
      simp [toA, this]
    · rename_i xs _
      cases h
      have : st' id = .map xs := hg (.obj id (.map xs)) (by simp)
      simp [toA, this]
    · cases h
  | _, .sub id i k j, a, rds, h, hg => by
    simp only [toA] at h
    split at h
    · rename_i k' xs _
      split at h
      · rename_i hk
        split at h
        · rename_i l ys hx
          cases h
          have : st' id = .tre true k' xs := hg (.obj id (.tre true k' xs)) (by simp)
          simp [toA, this, hk, hx]
        · cases h
      · cases h
    · cases h
  | 0, .agg _, _, _, h, _ => by simp [toA] at h
  | 0, .tup _, _, _, h, _ => by simp [toA] at h
  | 0, .fn _ _, _, _, h, _ => by simp [toA] at h
  | 0, .ptr _ _, _, _, h, _ => by simp [toA] at h
  | n + 1, .agg cs, a, rds, h, hg => by
    simp only [toA] at h
    split at h
    · rename_i as r he; cases h
      simp [toA, toAL_agr n cs he hg]
    · cases h
  | n + 1, .tup cs, a, rds, h, hg => by
    simp only [toA] at h
    split at h
    · rename_i as r he; cases h
      simp [toA, toAL_agr n cs he hg]
    · cases h
  | n + 1, .fn f cs, a, rds, h, hg => by
    simp only [toA] at h
    split at h
    · rename_i as r he; cases h
      simp [toA, toAL_agr n cs he hg]
    · cases h
  | n + 1, .ptr id off, a, rds, h, hg => by
    simp only [toA] at h
    split at h
    · split at h
      · rename_i cs _ _ as r he; cases h
        have h1 : st' id = .box cs := hg (.obj id (.box cs)) (by simp)
        have h2 := toAL_agr n cs he fun r hr => hg r (by simp [hr])
        simp [toA, h1, h2]
      · cases h
    · cases h
theorem toAL_agr {st' : Stor} : ∀ (n : Nat) (cs : List V) {as : List A} {rds : List Rd}, toAL st n cs = some (as, rds) → (∀ r ∈ rds, agr st' r) → toAL st' n cs = some (as, rds)
  | _, [], _, _, h, _ => by simpa [toAL] using h
  | 0, _ :: _, _, _, h, _ => by simp [toAL] at h
  | n + 1, c :: cs, as, rds, h, hg => by
    simp only [toAL] at h
    split at h
    · split at h
      · rename_i a r h1 _ as' r' h2
        cases h
        have g1 := toA_agr n c h1 fun x hx => hg x (by simp [hx])
        have g2 := toAL_agr n cs h2 fun x hx => hg x (by simp [hx])
        simp [toAL, g1, g2]
      · cases h
    · cases h
end

mutual
theorem toA_rds : ∀ (n : Nat) (v : V) {a : A} {rds : List Rd}, toA st n v = some (a, rds) → ∀ r ∈ rds, agr st r
  | _, .d a, _, _, h => by simp only [toA, Option.some.injEq, Prod.mk.injEq] at h; obtain ⟨_, rfl⟩ := h; simp
  | _, .nil k, _, _, h => by simp only [toA, Option.some.injEq, Prod.mk.injEq] at h; obtain ⟨_, rfl⟩ := h; simp
  | _, .top, _, _, h => by simp [toA] at h
  | _, .rptr _ _ _ _, _, _, h => by simp [toA] at h
  | _, .ub _ _, _, _, h => by simp [toA] at h
  | _, .win id k off n, a, rds, h => by
    simp only [toA] at h
    split at h
    · rename_i he
      split at h
      · cases h; simpa [agr] using he
      · cases h
    · cases h
  | _, .row id, a, rds, h => by
    simp only [toA] at h
    split at h
    · rename_i he; cases h; simpa [agr] using he
    · rename_i he; cases h; simpa [agr] using he
    · rename_i he; cases h; simpa [agr] using he
    · rename_i he; cases h; simpa [agr] using he
    · cases h
  | _, .sub id i k j, a, rds, h => by
    simp only [toA] at h
    split at h
    · rename_i he
      split at h
      · split at h
        · cases h; simpa [agr] using he
        · cases h
      · cases h
    · cases h
  | 0, .agg _, _, _, h => by simp [toA] at h
  | 0, .tup _, _, _, h => by simp [toA] at h
  | 0, .fn _ _, _, _, h => by simp [toA] at h
  | 0, .ptr _ _, _, _, h => by simp [toA] at h
  | n + 1, .agg cs, a, rds, h => by
    simp only [toA] at h
    split at h
    · rename_i as r he; cases h; exact toAL_rds n cs he
    · cases h
  | n + 1, .tup cs, a, rds, h => by
    simp only [toA] at h
    split at h
    · rename_i as r he; cases h; exact toAL_rds n cs he
    · cases h
  | n + 1, .fn f cs, a, rds, h => by
    simp only [toA] at h
    split at h
    · rename_i as r he; cases h; exact toAL_rds n cs he
    · cases h
  | n + 1, .ptr id off, a, rds, h => by
    simp only [toA] at h
    split at h
    · split at h
      · rename_i cs he1 _ as r he; cases h
        intro x hx
        rcases List.mem_cons.1 hx with rfl | hx
        · exact he1
        · exact toAL_rds n cs he x hx
      · cases h
    · cases h
theorem toAL_rds : ∀ (n : Nat) (cs : List V) {as : List A} {rds : List Rd}, toAL st n cs = some (as, rds) → ∀ r ∈ rds, agr st r
  | _, [], _, _, h => by simp only [toAL, Option.some.injEq, Prod.mk.injEq] at h; obtain ⟨_, rfl⟩ := h; simp
  | 0, _ :: _, _, _, h => by simp [toAL] at h
  | n + 1, c :: cs, as, rds, h => by
    simp only [toAL] at h
    split at h
    · split at h
      · rename_i a r h1 _ as' r' h2
        cases h
        intro x hx
        rcases List.mem_append.1 hx with hx | hx
        · exact toA_rds n c h1 x hx
        · exact toAL_rds n cs h2 x hx
      · cases h
    · cases h
end

/-- What a callee may not touch: all but what was read. -/
def Oc (O0 : Nat → Prop) (m : Asg) (st : Stor) (rds : List Rd) : Nat → Prop := fun b => Ow O0 m st b ∧ ¬ RB m rds b

theorem Oc_sub (rds : List Rd) : ∀ b, Oc O0 m st rds b → Ow O0 m st b := fun _ h => h.1
theorem Oc_mono {r1 r2 : List Rd} (h : ∀ x ∈ r1, x ∈ r2) : ∀ b, Oc O0 m st r2 b → Oc O0 m st r1 b := fun _ ⟨h1, h2⟩ => ⟨h1, fun ⟨id, o, hd, g1, g2, g3⟩ => h2 ⟨id, o, hd, h _ g1, g2, g3⟩⟩

mutual
theorem rel_toA (hs : Sto X w O0 m st) : ∀ (n : Nat) (v : V) {a : A} {rds : List Rd} {u : Value}, toA st n v = some (a, rds) → relV w (Ow O0 m st) m v u → rel w (Oc O0 m st rds) a u
  | _, .d a, _, _, u, h, hr => by
    simp only [toA, Option.some.injEq, Prod.mk.injEq] at h
    obtain ⟨rfl, rfl⟩ := h
    simp only [relV] at hr
    exact rel_mono (MonoW.sub (Oc_sub _)) _ _ hr
  | _, .nil k, _, _, u, h, hr => by
    simp only [toA, Option.some.injEq, Prod.mk.injEq] at h
    obtain ⟨rfl, rfl⟩ := h
    simp only [relV] at hr
    obtain ⟨a, rfl⟩ := hr
    simp only [rel]
    exact ⟨a, 0, rfl, by simp, by omega, Or.inl trivial⟩
  | _, .top, _, _, _, h, _ => by simp [toA] at h
  | _, .rptr _ _ _ _, _, _, _, h, _ => by simp [toA] at h
  | _, .ub _ _, _, _, _, h, _ => by simp [toA] at h
  | _, .win id k off n, a, rds, u, h, hr => by
    simp only [toA] at h
    simp only [relV] at hr
    obtain ⟨hd, h1, h2⟩ := hr
    have ho := hs.obj id
    split at h
    · rename_i k' xs he
      split at h
      · rename_i hk
        subst hk
        cases h
        rw [he] at ho
        obtain ⟨hd', g1, g2⟩ := ho
        rw [h1] at g1
        cases g1
        refine win_data g2 h2 (Oc_sub _) fun b c n e => ?_
        subst e
        exact fun hb => hb.2 ⟨id, .row k' xs, _, by simp, rfl, h1, mem_blk⟩
      · cases h
    · cases h
  | _, .row id, a, rds, u, h, hr => by
    simp only [toA] at h
    simp only [relV] at hr
    obtain ⟨hd, h1, h2⟩ := hr
    have ho := hs.obj id
    split at h
    · rename_i k xs he
      cases h
      rw [he] at ho
      obtain ⟨hd', g1, g2⟩ := ho
      rw [h1] at g1
      cases g1
      refine row_data g2 h2 (Oc_sub _) fun b c n e => ?_
      subst e
      exact fun hb => hb.2 ⟨id, .row k xs, _, by simp, rfl, h1, mem_blk⟩
    · rename_i k xs he
      cases h
      rw [he] at ho
      obtain ⟨hd', g1, g2⟩ := ho
      rw [h1] at g1
      cases g1
      exact rel_mono (MonoW.sub (Oc_sub _)) _ _ (g2.2 u h2)
    · rename_i f k xs he
      cases h
      rw [he] at ho
      obtain ⟨hd', g1, g2, _⟩ := ho
      rw [h1] at g1
      cases g1
      exact tre_rel hd (fun b hb hc => hc.2 ⟨id, .tre f k xs, hd, by simp, rfl, h1, hb⟩) g2 h2
    · rename_i xs he
      cases h
      rw [he] at ho
      obtain ⟨hd', g1, g2⟩ := ho
      rw [h1] at g1
      cases g1
      refine map_data g2 h2 (Oc_sub _) fun b e => ?_
      subst e
      exact fun hb => hb.2 ⟨id, .map xs, _, by simp, rfl, h1, by simp [Hd.blocks]⟩
    · cases h
  | _, .sub id i k j, a, rds, u, h, hr => by
    simp only [toA] at h
    simp only [relV] at hr
    obtain ⟨hd, h1, h2⟩ := hr
    have ho := hs.obj id
    split at h
    · rename_i k' xs he
      split at h
      · rename_i hk
        obtain ⟨rfl, hj⟩ := hk
        split at h
        · rename_i l ys hx
          cases h
          rw [he] at ho
          obtain ⟨hd', g1, g2, _⟩ := ho
          rw [h1] at g1
          cases g1
          cases hd with
          | none => exact h2.elim
          | blk => exact h2.elim
          | mp => exact h2.elim
          | tre f b c n ks =>
            cases f with
            | false => exact h2.elim
            | true =>
              obtain ⟨kid, e1, e2, _⟩ := h2
              simp only [treOk] at g2
              obtain ⟨_, _, _, _, g5, cc, T, _, _, _, g9⟩ := g2
              obtain ⟨x, hxi, hxj⟩ := Option.bind_eq_some_iff.1 hx
              obtain ⟨kid', v, e3, _, e5⟩ := treL_get g9 ((flatten_get g5 hxi hj).trans hxj)
              rw [e1] at e3
              cases e3
              exact tre_rel kid (fun b' hb hc => hc.2 ⟨id, .tre true k' xs, _, by simp, rfl, h1, by simp only [Hd.blocks, List.mem_cons]; exact Or.inr (blocksL_mem e1 hb)⟩) e5.2 e2
        · cases h
      · cases h
    · cases h
  | 0, .agg _, _, _, _, h, _ => by simp [toA] at h
  | 0, .tup _, _, _, _, h, _ => by simp [toA] at h
  | 0, .fn _ _, _, _, _, h, _ => by simp [toA] at h
  | 0, .ptr _ _, _, _, _, h, _ => by simp [toA] at h
  | n + 1, .agg cs, a, rds, u, h, hr => by
    simp only [toA] at h
    split at h
    · rename_i as r he; cases h
      simp only [relV] at hr
      obtain ⟨vs, rfl, h2⟩ := hr
      simp only [rel]
      exact ⟨vs, rfl, relL_toA hs n cs he h2⟩
    · cases h
  | n + 1, .tup cs, a, rds, u, h, hr => by
    simp only [toA] at h
    split at h
    · rename_i as r he; cases h
      simp only [relV] at hr
      obtain ⟨vs, rfl, h2⟩ := hr
      simp only [rel]
      exact ⟨vs, rfl, relL_toA hs n cs he h2⟩
    · cases h
  | n + 1, .fn f cs, a, rds, u, h, hr => by
    simp only [toA] at h
    split at h
    · rename_i as r he; cases h
      simp only [relV] at hr
      obtain ⟨vs, rfl, h2⟩ := hr
      simp only [rel]
      exact ⟨vs, rfl, relL_toA hs n cs he h2⟩
    · cases h
  | n + 1, .ptr id off, a, rds, u, h, hr => by
    simp only [toA] at h
    simp only [relV] at hr
    obtain ⟨b, c, l, h1, rfl⟩ := hr
    have ho := hs.obj id
    split at h
    · split at h
      · rename_i cs he _ as r he2; cases h
        rw [he] at ho
        obtain ⟨hd, g1, g2⟩ := ho
        rw [h1] at g1
        cases g1
        obtain ⟨cc, T, g3, g4, g5⟩ := g2
        have h6 := relL_toA hs n cs he2 g5
        simp only [rel]
        refine ⟨b, 0, by simp, (Array.getElem?_eq_some_iff.1 g3).1, fun hb => hb.2 ⟨id, .box cs, _, by simp, rfl, h1, mem_blk⟩, ?_⟩
        exact cells_of_reads (relL_mono (MonoW.sub (Oc_mono fun x hx => by simp [hx])) _ _ h6) (Reads.block g3) g4
      · cases h
    · cases h
theorem relL_toA (hs : Sto X w O0 m st) : ∀ (n : Nat) (cs : List V) {as : List A} {rds : List Rd} {us : List Value}, toAL st n cs = some (as, rds) → relVL w (Ow O0 m st) m cs us → relL w (Oc O0 m st rds) as us
  | _, [], _, _, us, h, hr => by
    simp only [toAL, Option.some.injEq, Prod.mk.injEq] at h
    obtain ⟨rfl, rfl⟩ := h
    simpa [relVL, relL] using hr
  | 0, _ :: _, _, _, _, h, _ => by simp [toAL] at h
  | n + 1, c :: cs, as, rds, us, h, hr => by
    simp only [toAL] at h
    split at h
    · split at h
      · rename_i a r h1 _ as' r' h2
        cases h
        simp only [relVL] at hr
        obtain ⟨v, t, rfl, g1, g2⟩ := hr
        simp only [relL]
        exact ⟨v, t, rfl, rel_mono (MonoW.sub (Oc_mono fun x hx => by simp [hx])) _ _ (rel_toA hs n c h1 g1), relL_mono (MonoW.sub (Oc_mono fun x hx => by simp [hx])) _ _ (relL_toA hs n cs h2 g2)⟩
      · cases h
    · cases h
end

theorem Oc_nil (b : Nat) : Oc O0 m st [] b ↔ Ow O0 m st b := ⟨fun h => h.1, fun h => ⟨h, fun ⟨_, _, _, h, _⟩ => by cases h⟩⟩
end

/-! ### Types at hand: empty slices by their type -/
section
variable (D : Nat → Option TI)

def esize (t : Nat) : Option Nat :=
  match D t with
  | some i => (match i.kind with
    | .slice e => (match D e with | some j => some j.size | none => none)
    | _ => none)
  | none => none

/-- An empty slice's element size, where a slot's type tells it. -/
def nilA (t : Nat) (v : V) : V := match v with
  | .nil k => (match esize D t with | some k => .nil k | none => .nil k)
  | v => v

def cellTys : Nat → Nat → List Nat
  | 0, t => [t]
  | n + 1, t => match D t with
    | some i => (match i.kind with
      | .struct fs => fs.flatMap fun f => cellTys n f.2
      | _ => [t])
    | none => [t]

def nilC : List Nat → List V → List V
  | t :: ts, c :: cs => nilA D t c :: nilC ts cs
  | _, cs => cs

/-- Empty slices as data, in a value of a type. -/
def nilV (t : Nat) (v : V) : V := match v with
  | .nil k => nilA D t (.nil k)
  | .agg cs => .agg (nilC D (cellTys D 6 t) cs)
  | v => v

def nilL : List Nat → List V → List V
  | t :: ts, v :: vs => nilV D t v :: nilL ts vs
  | _, vs => vs
end

section
variable {D : Nat → Option TI} {w : World} {O : Nat → Prop} {m : Asg}
theorem rel_nilA {t : Nat} {a : V} {v : Value} (h : relV w O m a v) : relV w O m (nilA D t a) v := by
  unfold nilA
  split
  · split
    · simpa only [relV] using h
    · exact h
  · exact h

theorem relVL_nilC : ∀ {ts : List Nat} {cs : List V} {vs : List Value}, relVL w O m cs vs → relVL w O m (nilC D ts cs) vs
  | [], cs, vs, h => by simpa [nilC] using h
  | t :: ts, [], vs, h => by simpa [nilC] using h
  | t :: ts, c :: cs, vs, h => by
    simp only [relVL, nilC] at h ⊢
    obtain ⟨v, r, rfl, h1, h2⟩ := h
    exact ⟨v, r, rfl, rel_nilA h1, relVL_nilC h2⟩

theorem rel_nilV {t : Nat} {a : V} {v : Value} (h : relV w O m a v) : relV w O m (nilV D t a) v := by
  unfold nilV
  split
  · exact rel_nilA h
  · simp only [relV] at h ⊢
    obtain ⟨vs, h1, h2⟩ := h
    exact ⟨vs, h1, relVL_nilC h2⟩
  · exact h

theorem relVL_nilL : ∀ {ts : List Nat} {cs : List V} {vs : List Value}, relVL w O m cs vs → relVL w O m (nilL D ts cs) vs
  | [], cs, vs, h => by simpa [nilL] using h
  | t :: ts, [], vs, h => by simpa [nilL] using h
  | t :: ts, c :: cs, vs, h => by
    simp only [relVL, nilL] at h ⊢
    obtain ⟨v, r, rfl, h1, h2⟩ := h
    exact ⟨v, r, rfl, rel_nilV h1, relVL_nilL h2⟩
end

/-! ### What an operation comes to -/

/-- A datum to come: reckoned, or handed back by a call. -/
inductive DX where
  | opt (x : Option A)
  | call (f : FuncId) (args : List A) (chk : Bool)
  | callc (fn : A) (args : List A) (chk : Bool)

inductive DR where
  | no
  | val (v : V) (rds : List Rd)
  | opt (x : DX) (rds : List Rd)

/-- A shape with holes: how what a call hands back is built. Objects: those handed in first, then new ones. -/
inductive Sh where
  | d (i : Nat)
  | row (o : Nat)
  | ptr (o off : Nat)
  | agg (l : List Sh)
  | tup (l : List Sh)

/-- How an object that was handed in comes back: given up; a row with other contents; a box with other cells. -/
inductive OW where
  | cons
  | io (j : Nat)
  | box (l : List Sh)

/-- Of what kind a call's outcome is: how many data, the rows' widths, the objects handed in, the new ones (which row each holds), the result. -/
structure SigA where
  nd : Nat
  ks : List Nat
  ws : List OW
  nw : List Nat
  r : Sh

abbrev Sig := List SigA

/-- A library function that is handed objects, told apart: which calls it makes, and what it comes to then. -/
structure ExtV where
  ask : List V → List Abs.Obj → Option (List (FuncId × List A))
  ans : List V → List Abs.Obj → List Out → Option Out

def altOf (n : Nat) : Sig → Option SigA
  | [] => none
  | s :: l => if Nat.beq s.ws.length n then some s else altOf n l

structure Cfg where
  P : Program
  D : Nat → Option TI
  sig : FuncId → Option Sig
  kp : FuncId → List Nat → Nat
  ext : FuncId → Option (List A → Option Out)
  extv : FuncId → Option ExtV
  wf : FuncId → Bool := fun _ => false
  both : FuncId → Bool := fun _ => false
  kn : FuncId → Bool := fun _ => false
  rd : FuncId → Bool := fun _ => false
  sl : FuncId → Bool := fun _ => false
  th : FuncId → Bool := fun _ => false
  stc : FuncId → FuncId → Bool := fun _ _ => false
  stf : FuncId → Bool := fun _ => false
  tf : FuncId → Bool := fun _ => false
  win : Bool := false
  tr : Bool := false

/-- Whether a function may be called as one that only looks. -/
def Cfg.pureF (C : Cfg) (f : FuncId) : Bool := (C.sig f).isNone || C.both f

/-- Whether a function value among the arguments turns objects. -/
def hasSt (C : Cfg) : List V → Bool
  | [] => false
  | .fn g _ :: l => !C.pureF g || hasSt C l
  | _ :: l => hasSt C l

/-- At a function: whether slices of its own rows are windows. -/
def Cfg.at (C : Cfg) (f : FuncId) : Cfg := { C with win := C.wf f, tr := C.tf f, stf := C.stc f }

def dat : V → Option A
  | .d a => some a
  | .nil k => some (.sl k [])
  | _ => none

def cellRds (id off : Nat) : List V → List Rd
  | [] => []
  | c :: cs => .cell id off c :: cellRds id (off + 1) cs

def evLoad (C : Cfg) (t : Nat) (a : V) (st : Stor) : DR :=
  match C.D t with
  | none => .no
  | some i => (match a with
    | .d p => if i.kind.plain then .opt (.opt (pLoadP p)) [] else if i.kind.known then .opt (.opt (pLoadN i.size p)) [] else .no
    | .ptr id off => (match st id with
      | .box cs => if i.kind.plain then (match cs[off]? with | some v => .val v [.cell id off v] | none => .no)
          else if i.kind.known && Nat.ble (off + i.size) cs.length then .val (.agg ((cs.drop off).take i.size)) (cellRds id off ((cs.drop off).take i.size)) else .no
      | _ => .no)
    | .rptr id ix k j => (match st id with
      | .row k' xs => if Nat.beq k' k && Nat.ble (j + i.size) k then
          (if i.kind.plain then .opt (.opt (pRowP xs ix j)) [.elem id ix k (rGetD xs ix)]
           else if i.kind.known then .opt (.opt (pRowN xs ix j i.size)) [.elem id ix k (rGetD xs ix)] else .no)
          else .no
      | _ => .no)
    | _ => .no)

def isBoolT (C : Cfg) (t : Nat) : Bool := match C.D t with | some i => (match i.kind with | .bool => true | _ => false) | none => false

def fieldOf (C : Cfg) (s f : Nat) : Option (Nat × TI) :=
  match C.D s with
  | some i => (match i.kind with
    | .struct fs => (match fs[f]? with
      | some (off, t) => (match C.D t with | some j => if j.kind.known then some (off, j) else none | none => none)
      | none => none)
    | _ => none)
  | none => none

def okA : A → Bool
  | .val v => v.oneCell'
  | .sl _ _ => true
  | .elt _ _ => true
  | .fn _ _ => true
  | _ => false

/-- The cells of a datum: of a plain type, or of a struct. -/
def cellsA (plain : Bool) (n : Nat) (a : A) : Option (List A) :=
  if plain then (if okA a then some [a] else none) else (match a with | .agg ds => if ds.length = n then some ds else none | _ => none)

def buildA (sz : Nat → Option (Nat × TI)) : List A → List (Nat × A) → Option A
  | cs, [] => some (.agg cs)
  | cs, (i, a) :: rest => (match sz i with
    | some (off, j) => (cellsA j.kind.plain j.size a).bind fun ds => if off + ds.length ≤ cs.length then buildA sz (over cs off ds) rest else none
    | none => none)

def allDat : List (Nat × V) → Option (List (Nat × A))
  | [] => some []
  | (i, v) :: r => (match dat v, allDat r with | some a, some l => some ((i, a) :: l) | _, _ => none)

def datL : List V → Option (List A)
  | [] => some []
  | v :: r => (match dat v, datL r with | some a, some l => some (a :: l) | _, _ => none)

def zeroV (C : Cfg) (t : Nat) (i : TI) : List V := nilC C.D (cellTys C.D 6 t) (i.zero.cells.toList.map liftV)

/-- The parts of a struct, with empty slices by the fields' types. -/
def partTys (C : Cfg) (fs : List (Nat × Nat)) : List (Nat × V) → List (Nat × V)
  | [] => []
  | (i, v) :: r => (match fs[i]? with | some (_, t) => (i, nilV C.D t v) | none => (i, v)) :: partTys C fs r

/-- All fields of a struct are known. -/
def fieldsKnown (C : Cfg) (fs : List (Nat × Nat)) : Bool := fs.all fun f => match C.D f.2 with | some j => j.kind.known | none => false

def isDat : V → Bool | .d _ => true | _ => false

/-- No empty slice without memory among the parts. -/
def wholeD (ps : List (Nat × V)) (z : List V) (n : Nat) : Bool := ps.all (fun p => isDat p.2) && (Nat.beq ps.length n || z.all isDat)

def isRow : V → Bool | .row _ => true | _ => false

/-- Bytes that become a string. -/
def bytesOf : List (List A) → Option (List Int)
  | [] => some []
  | [.val (.int .u8 n)] :: r => (bytesOf r).map (n :: ·)
  | _ => none
def pBytes (a : A) : Option A := match a with | .sl _ xs => (bytesOf xs).map fun ns => sv (ns.map fun n => UInt8.ofNat n.toNat) | _ => none

/-- Operations that look and reckon alone. -/
def isNilC : Operand → Bool
  | .const (.slice none 0 0) => true
  | _ => false

def isConst3 : Operand → Operand → Operand → Bool
  | .const _, .const _, .const _ => true
  | _, _, _ => false

def evD (C : Cfg) (o : Oper) (ρ : Operand → V) (st : Stor) : DR :=
  match o.op with
  | .move x => .val (nilV C.D o.type (ρ x)) []
  | .assign x => .val (nilV C.D o.type (ρ x)) []
  | .pick c a b => (match dat (ρ c), dat (nilV C.D o.type (ρ a)), dat (nilV C.D o.type (ρ b)) with
    | some c, some a, some b => .opt (.opt (pPick c a b)) []
    | _, _, _ => .no)
  | .binOp op t x y _ => if isNilC y then .no else (match dat (ρ x), dat (ρ y) with
    | some a, some b => .opt (.opt (pBin op (isBoolT C t) a b)) []
    | _, _ => .no)
  | .unOp op _ x => (match dat (ρ x) with | some a => .opt (.opt (pUn op a)) [] | none => .no)
  | .load t a => evLoad C t (ρ a) st
  | .fieldAddr s x f => (match fieldOf C s f with
    | some (off, j) => if Nat.beq j.size 0 then .no else (match ρ x with
      | .ptr id p => .val (.ptr id (p + off)) []
      | .rptr id i k p => .val (.rptr id i k (p + off)) []
      | .d a => .opt (.opt (pAdd a off)) []
      | _ => .no)
    | none => .no)
  | .field s x f => (match fieldOf C s f with
    | some (off, j) => (match ρ x with
      | .agg cs => if j.kind.plain then (match cs[off]? with | some v => .val v [] | none => .no)
          else if Nat.ble (off + j.size) cs.length then .val (.agg ((cs.drop off).take j.size)) [] else .no
      | .d a => if j.kind.plain then .opt (.opt (pField off a)) [] else .opt (.opt (pFieldN off j.size a)) []
      | _ => .no)
    | none => .no)
  | .indexAddr t x i => (match C.D t, dat (ρ i) with
    | some ti, some n => (match ti.kind with
      | .slice e => (match C.D e with
        | some j => (match ρ x with
          | .d a => .opt (.opt (pIndexAddr j.size a n)) []
          | .row id => (match st id with | .fro k xs => .opt (.opt (pIndexAddr j.size (.sl k xs) n)) [.obj id (.fro k xs)] | _ => .no)
          | _ => .no)
        | none => .no)
      | _ => .no)
    | _, _ => .no)
  | .index t x i => (match C.D t, dat (ρ x), dat (ρ i) with
    | some ti, some a, some n => (match ti.kind with | .str => .opt (.opt (pIndexS a n)) [] | _ => .no)
    | _, _, _ => .no)
  | .lookup t x k c => (match C.D t, dat (ρ k) with
    | some ti, some ka => (match ti.kind with
      | .map kt et => (match C.D kt, C.D et with
        | some ki, some ei => (match keyK ki.kind, datL (zeroV C et ei) with
          | some ks, some z => if zOk ei then (match ρ x with
            | .d a => .opt (.opt (pLook ks c ei.kind.plain z a ka)) []
            | .row id => (match st id with | .map xs => .opt (.opt (pLook ks c ei.kind.plain z (.mp xs) ka)) [.obj id (.map xs)] | _ => .no)
            | _ => .no) else .no
          | _, _ => .no)
        | _, _ => .no)
      | _ => .no)
    | _, _ => .no)
  | .slice t x lo hi none => (match C.D t with
    | some ti => (match ti.kind with
      | .slice e => (match C.D e with
        | some j => (match (match ρ x with
            | .d a => some (a, [])
            | .row id => (match st id with | .fro k xs => some (A.sl k xs, [Rd.obj id (.fro k xs)]) | _ => none)
            | _ => none), (match lo with | none => some none | some y => (dat (ρ y)).map some), (match hi with | none => some none | some y => (dat (ρ y)).map some) with
          | some (a, rds), some l, some h => .opt (.opt (pSlice j.size a l h)) rds
          | _, _, _ => .no)
        | none => .no)
      | .str => (match dat (ρ x), (match lo with | none => some none | some y => (dat (ρ y)).map some), (match hi with | none => some none | some y => (dat (ρ y)).map some) with
        | some a, some l, some h => .opt (.opt (pSliceS a l h)) []
        | _, _, _ => .no)
      | _ => .no)
    | none => .no)
  | .slice t x (some l) (some h) (some m) => if !isConst3 l h m then .no else (match C.D t, ρ l, ρ h, ρ m with
    | some ti, .d (.val (.int _ 0)), .d (.val (.int _ 0)), .d (.val (.int _ 0)) => (match ti.kind with
      | .slice e => (match C.D e with
        | some j => (match ρ x with
          | .row id => (match st id with | .row k xs => .val (.nil k) [.obj id (.row k xs)] | .fro k xs => .val (.nil k) [.obj id (.fro k xs)] | _ => .no)
          | .nil k => .val (.nil k) []
          | _ => .no)
        | none => .no)
      | _ => .no)
    | _, _, _, _ => .no)
  | .convert s d x => (match C.D s, C.D d with
    | some si, some di => (match si.kind, di.kind with
      | .int _, .int k' => (match dat (ρ x) with | some a => .opt (.opt (pConv k' a)) [] | none => .no)
      | .slice e, .str => (match C.D e, toA st 60 (ρ x) with
        | some j, some (a, rds) => (match j.kind with | .int .u8 => .opt (.opt (pBytes a)) rds | _ => .no)
        | _, _ => .no)
      | _, _ => .no)
    | _, _ => .no)
  | .makeFunc (.func g) fs cs => if fs.size = 0 then .val (.fn g (cs.toList.map ρ)) [] else .no
  | .extract x n => (match ρ x with
    | .tup cs => (match cs[n]? with | some v => .val v [] | none => .no)
    | .d a => .opt (.opt (pTup a n)) []
    | _ => .no)
  | .nilCheck x => (match ρ x with
    | .ptr id off => .val (.ptr id off) []
    | .rptr id i k j => .val (.rptr id i k j) []
    | .fn f cs => .val (.fn f cs) []
    | .d a => .opt (.opt (pChk a)) []
    | _ => .no)
  | .build t ps => (match C.D t with
    | some i => (match i.kind with
      | .struct fs => (match datL (zeroV C t i), allDat (partTys C fs (ps.toList.map fun p => (p.1, ρ p.2))) with
        | some z, some l => if fieldsKnown C fs then (if wholeD (partTys C fs (ps.toList.map fun p => (p.1, ρ p.2))) (zeroV C t i) fs.length then .opt (.opt (buildA (fieldOf C t) z l)) [] else .no) else .no
        | _, _ => .no)
      | _ => .no)
    | none => .no)
  | .call c => (match c.callee with
    | .builtin .len => (match c.args.toList, c.argTypes.toList with
      | [x], [t] => (match C.D t with
        | some ti => (match ti.kind with
          | .slice _ => (match ρ x with
            | .nil _ => .val (.d (vi 0)) []
            | .row id => (match st id with | .row k xs => .val (.d (rLen xs)) [.len id k xs.length] | .fro k xs => .val (.d (rLen xs)) [.obj id (.fro k xs)] | .tre f k xs => .val (.d (rLen xs)) [.tlen id f k xs.length] | _ => .no)
            | .d a => .opt (.opt (pLenL a)) []
            | .win _ _ _ n => .val (.d (nA n)) []
            | _ => .no)
          | .str => (match dat (ρ x) with | some a => .opt (.opt (pLenS a)) [] | none => .no)
          | _ => .no)
        | none => .no)
      | _, _ => .no)
    | .builtin .max => (match c.args.toList with
      | [x, y] => (match dat (ρ x), dat (ρ y) with | some a, some b => .opt (.opt (pMax a b)) [] | _, _ => .no)
      | _ => .no)
    | .builtin .min => (match c.args.toList with
      | [x, y] => (match dat (ρ x), dat (ρ y) with | some a, some b => .opt (.opt (pMin a b)) [] | _, _ => .no)
      | _ => .no)
    | .value f => (match ρ f with
      | .fn g caps => (match C.sig g with
        | some _ => if C.both g && (!C.sl g && (!C.stf g && !hasSt C (c.args.toList.map ρ))) then (match toAL st 60 (nilL C.D c.argTypes.toList (c.args.toList.map ρ) ++ caps) with | some (as, rds) => .opt (.call g as (aliveR rds)) rds | none => .no) else .no
        | none => (match toAL st 60 (nilL C.D c.argTypes.toList (c.args.toList.map ρ) ++ caps) with
          | some (as, rds) => .opt (.call g as (aliveR rds)) rds
          | none => .no))
      | .d a => (match toAL st 60 (nilL C.D c.argTypes.toList (c.args.toList.map ρ)) with
        | some (as, rds) => .opt (.callc a as (aliveR rds)) rds
        | none => .no)
      | _ => .no)
    | _ => .no)
  | _ => .no
end
end Go.Proofs.YtnbjmmldjggkfaaGreat.Abs
