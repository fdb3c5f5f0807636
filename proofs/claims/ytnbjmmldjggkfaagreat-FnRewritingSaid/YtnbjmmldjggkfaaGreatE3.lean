/- STEPS AND REGIONS: one operation as a transaction (what it reads and writes of the store), and regions of them, in the text's order or in any. -/
import Derived.Test.YtnbjmmldjggkfaaGreatE2
import Derived.Still
namespace Go.Proofs.YtnbjmmldjggkfaaGreat.Abs
open Go Go.RowKit

inductive Rd where
  | fresh (id : Nat)
  | obj (id : Nat) (o : Obj)
  | cell (id off : Nat) (v : V)
  | elem (id i k : Nat) (cs : List A)
  | len (id k n : Nat)
  | blen (id n : Nat)
  | tlen (id : Nat) (f : Bool) (k n : Nat)
  | telem (id : Nat) (f : Bool) (i k : Nat) (cs : List A)

inductive Wr where
  | obj (id : Nat) (o : Obj)
  | cell (id off : Nat) (v : V)
  | elem (id i : Nat) (cs : List A)

def agr (st : Stor) : Rd → Prop
  | .fresh id => st id = .dead
  | .obj id o => st id = o
  | .cell id off v => ∃ cs, st id = .box cs ∧ cs[off]? = some v
  | .elem id i k cs => ∃ xs, st id = .row k xs ∧ xs[i]? = some cs
  | .len id k n => ∃ xs, st id = .row k xs ∧ xs.length = n
  | .blen id n => ∃ cs, st id = .box cs ∧ cs.length = n
  | .tlen id f k n => ∃ xs, st id = .tre f k xs ∧ xs.length = n
  | .telem id f i k cs => ∃ xs, st id = .tre f k xs ∧ xs[i]? = some cs

def Wr.id : Wr → Nat
  | .obj id _ => id
  | .cell id _ _ => id
  | .elem id _ _ => id

/-- The object behind a write. -/
def rSet (xs : List (List A)) (i : Nat) (cs : List A) : List (List A) := xs.set i cs

def Wr.on : Wr → Obj → Obj
  | .obj _ o, _ => o
  | .cell _ off v, .box cs => .box (cs.set off v)
  | .elem _ i cs, .row k xs => .row k (rSet xs i cs)
  | .elem _ i cs, .tre f k xs => .tre f k (rSet xs i cs)
  | _, o => o

def app (st : Stor) (w : Wr) : Stor := upd st w.id (w.on (st w.id))

def apps (st : Stor) (ws : List Wr) : Stor := ws.foldl app st

def indWR : Wr → Rd → Prop
  | .obj id _, .fresh id' => id ≠ id'
  | .obj id _, .obj id' _ => id ≠ id'
  | .obj id _, .cell id' _ _ => id ≠ id'
  | .obj id _, .elem id' _ _ _ => id ≠ id'
  | .obj id _, .len id' _ _ => id ≠ id'
  | .obj id _, .blen id' _ => id ≠ id'
  | .obj id _, .tlen id' _ _ _ => id ≠ id'
  | .obj id _, .telem id' _ _ _ _ => id ≠ id'
  | .cell id _ _, .tlen id' _ _ _ => id ≠ id'
  | .cell id _ _, .telem id' _ _ _ _ => id ≠ id'
  | .elem _ _ _, .tlen _ _ _ _ => True
  | .elem id i _, .telem id' _ i' _ _ => id ≠ id' ∨ i ≠ i'
  | .cell _ _ _, .blen _ _ => True
  | .elem id _ _, .blen id' _ => id ≠ id'
  | .cell id off _, .cell id' off' _ => id ≠ id' ∨ off ≠ off'
  | .cell id _ _, .fresh id' => id ≠ id'
  | .cell id _ _, .obj id' _ => id ≠ id'
  | .cell id _ _, .elem id' _ _ _ => id ≠ id'
  | .cell id _ _, .len id' _ _ => id ≠ id'
  | .elem id i _, .elem id' i' _ _ => id ≠ id' ∨ i ≠ i'
  | .elem _ _ _, .len _ _ _ => True
  | .elem id _ _, .fresh id' => id ≠ id'
  | .elem id _ _, .obj id' _ => id ≠ id'
  | .elem id _ _, .cell id' _ _ => id ≠ id'

def indWW : Wr → Wr → Prop
  | .obj id _, .obj id' _ => id ≠ id'
  | .obj id _, .cell id' _ _ => id ≠ id'
  | .obj id _, .elem id' _ _ => id ≠ id'
  | .cell id _ _, .obj id' _ => id ≠ id'
  | .cell id off _, .cell id' off' _ => id ≠ id' ∨ off ≠ off'
  | .cell id _ _, .elem id' _ _ => id ≠ id'
  | .elem id _ _, .obj id' _ => id ≠ id'
  | .elem id _ _, .cell id' _ _ => id ≠ id'
  | .elem id i _, .elem id' i' _ => id ≠ id' ∨ i ≠ i'

theorem app_ne (st : Stor) (w : Wr) {i : Nat} (h : i ≠ w.id) : app st w i = st i := upd_ne _ _ h

def Rd.id : Rd → Nat
  | .fresh id => id
  | .obj id _ => id
  | .cell id _ _ => id
  | .elem id _ _ _ => id
  | .len id _ _ => id
  | .blen id _ => id
  | .tlen id _ _ _ => id
  | .telem id _ _ _ _ => id

theorem agr_eq {st st' : Stor} {r : Rd} (h : st' r.id = st r.id) : agr st' r ↔ agr st r := by
  cases r <;> simp only [Rd.id] at h <;> simp only [agr, h]

theorem agr_on {w : Wr} {r : Rd} {o : Obj} {st st' : Stor} (h : indWR w r) (e : r.id = w.id) (h1 : st r.id = o) (h2 : st' r.id = w.on o) : agr st' r ↔ agr st r := by
  cases w with
  | obj id o => cases r <;> simp only [Rd.id, Wr.id] at e <;> simp only [indWR] at h <;> exact absurd e.symm h
  | cell id off v =>
    cases r with
    | cell id' off' v' =>
      simp only [Rd.id, Wr.id] at e h1 h2
      have h : off ≠ off' := h.resolve_left (fun h => h e.symm)
      simp only [agr, h1, h2]
      cases o <;> simp only [Wr.on]
      rename_i cs
      constructor
      · rintro ⟨ds, g1, g2⟩
        cases g1
        rw [List.getElem?_set_ne h] at g2
        exact ⟨cs, rfl, g2⟩
      · rintro ⟨ds, g1, g2⟩
        cases g1
        exact ⟨_, rfl, by rw [List.getElem?_set_ne h]; exact g2⟩
    | blen id' n' =>
      simp only [Rd.id, Wr.id] at e h1 h2
      simp only [agr, h1, h2]
      cases o <;> simp only [Wr.on]
      rename_i cs
      constructor
      · rintro ⟨ds, g1, g2⟩
        cases g1
        exact ⟨cs, rfl, by simpa using g2⟩
      · rintro ⟨ds, g1, g2⟩
        cases g1
        exact ⟨_, rfl, by simpa using g2⟩
    | _ => simp only [Rd.id, Wr.id] at e; simp only [indWR] at h; exact absurd e.symm h
  | elem id i cs =>
    cases r with
    | elem id' i' k' cs' =>
      simp only [Rd.id, Wr.id] at e h1 h2
      have h : i ≠ i' := h.resolve_left (fun h => h e.symm)
      simp only [agr, h1, h2]
      cases o with
      | row k xs =>
        simp only [Wr.on, rSet]
        constructor
        · rintro ⟨ds, g1, g2⟩
          cases g1
          rw [List.getElem?_set_ne h] at g2
          exact ⟨xs, rfl, g2⟩
        · rintro ⟨ds, g1, g2⟩
          cases g1
          exact ⟨_, rfl, by rw [List.getElem?_set_ne h]; exact g2⟩
      | tre f k xs => constructor <;> rintro ⟨_, g1, _⟩ <;> cases g1
      | _ => simp only [Wr.on]
    | len id' k' n' =>
      simp only [Rd.id, Wr.id] at e h1 h2
      simp only [agr, h1, h2]
      cases o with
      | row k xs =>
        simp only [Wr.on, rSet]
        constructor
        · rintro ⟨ds, g1, g2⟩
          cases g1
          exact ⟨xs, rfl, by simpa using g2⟩
        · rintro ⟨ds, g1, g2⟩
          cases g1
          exact ⟨_, rfl, by simpa using g2⟩
      | tre f k xs => constructor <;> rintro ⟨_, g1, _⟩ <;> cases g1
      | _ => simp only [Wr.on]
    | tlen id' f' k' n' =>
      simp only [Rd.id, Wr.id] at e h1 h2
      simp only [agr, h1, h2]
      cases o with
      | tre f k xs =>
        simp only [Wr.on, rSet]
        constructor
        · rintro ⟨ds, g1, g2⟩
          cases g1
          exact ⟨xs, rfl, by simpa using g2⟩
        · rintro ⟨ds, g1, g2⟩
          cases g1
          exact ⟨_, rfl, by simpa using g2⟩
      | row k xs => constructor <;> rintro ⟨_, g1, _⟩ <;> cases g1
      | _ => simp only [Wr.on]
    | telem id' f' i' k' cs' =>
      simp only [Rd.id, Wr.id] at e h1 h2
      have h : i ≠ i' := h.resolve_left (fun h => h e.symm)
      simp only [agr, h1, h2]
      cases o with
      | tre f k xs =>
        simp only [Wr.on, rSet]
        constructor
        · rintro ⟨ds, g1, g2⟩
          cases g1
          rw [List.getElem?_set_ne h] at g2
          exact ⟨xs, rfl, g2⟩
        · rintro ⟨ds, g1, g2⟩
          cases g1
          exact ⟨_, rfl, by rw [List.getElem?_set_ne h]; exact g2⟩
      | row k xs => constructor <;> rintro ⟨_, g1, _⟩ <;> cases g1
      | _ => simp only [Wr.on]
    | _ => simp only [Rd.id, Wr.id] at e; simp only [indWR] at h; exact absurd e.symm h

theorem agr_app {st : Stor} {w : Wr} {r : Rd} (h : indWR w r) : agr (app st w) r ↔ agr st r := by
  by_cases e : r.id = w.id
  · exact agr_on h e rfl (by rw [e]; exact upd_self _ _ _)
  · exact agr_eq (app_ne st w e)

theorem agr_apps {r : Rd} : ∀ (ws : List Wr) (st : Stor), (∀ w ∈ ws, indWR w r) → (agr (apps st ws) r ↔ agr st r)
  | [], _, _ => Iff.rfl
  | w :: ws, st, h => (agr_apps ws (app st w) fun w' hw => h w' (by simp [hw])).trans (agr_app (h w (by simp)))

theorem upd_idem {α : Type} (f : Nat → α) (i : Nat) (x y : α) : upd (upd f i x) i y = upd f i y := by
  funext k
  by_cases h : k = i
  · subst h; rw [upd_self, upd_self]
  · rw [upd_ne _ _ h, upd_ne _ _ h, upd_ne _ _ h]

theorem on_comm {w w' : Wr} (h : indWW w w') (e : w.id = w'.id) (o : Obj) : w'.on (w.on o) = w.on (w'.on o) := by
  cases w with
  | obj id o => cases w' <;> simp only [Wr.id] at e <;> simp only [indWW] at h <;> exact absurd e h
  | cell id off v =>
    cases w' with
    | cell id' off' v' =>
      have h : off ≠ off' := h.resolve_left (fun h => h e)
      cases o <;> simp only [Wr.on, List.set_comm _ _ h]
    | _ => simp only [Wr.id] at e; simp only [indWW] at h; exact absurd e h
  | elem id i cs =>
    cases w' with
    | elem id' i' cs' =>
      have h : i ≠ i' := h.resolve_left (fun h => h e)
      cases o <;> simp only [Wr.on, rSet, List.set_comm _ _ h]
    | _ => simp only [Wr.id] at e; simp only [indWW] at h; exact absurd e h

theorem app_comm {st : Stor} {w w' : Wr} (h : indWW w w') : app (app st w) w' = app (app st w') w := by
  unfold app
  by_cases e : w.id = w'.id
  · rw [← e, upd_self, upd_self, upd_idem, upd_idem, on_comm h e]
  · rw [upd_ne _ _ (Ne.symm e), upd_ne _ _ e]
    exact upd_comm _ _ _ e

theorem app_apps_comm {w : Wr} : ∀ (ws : List Wr) (st : Stor), (∀ w' ∈ ws, indWW w w') → apps (app st w) ws = app (apps st ws) w
  | [], _, _ => rfl
  | w' :: ws, st, h => by
    show apps (app (app st w) w') ws = app (apps (app st w') ws) w
    rw [app_comm (h w' (by simp)), app_apps_comm ws _ fun w'' hw => h w'' (by simp [hw])]

theorem apps_comm : ∀ (us ws : List Wr) (st : Stor), (∀ u ∈ us, ∀ w ∈ ws, indWW u w) → apps (apps st us) ws = apps (apps st ws) us
  | [], _, _, _ => rfl
  | u :: us, ws, st, h => by
    show apps (apps (app st u) us) ws = apps (app (apps st ws) u) us
    rw [apps_comm us ws _ fun u' hu => h u' (by simp [hu]), app_apps_comm ws st (h u (by simp))]

/-! ### One operation -/
structure Tx where
  v : V
  rds : List Rd
  wrs : List Wr

def Post (X : Ctx) (w : World) (O0 : Nat → Prop) (m : Asg) (st : Stor) (wrs : List Wr) (v : V) (w' : World) (u : Value) : Prop :=
  ∃ m', Chg w m st w' m' (apps st wrs) ∧ Sto X w' O0 m' (apps st wrs) ∧ relV w' (Ow O0 m' (apps st wrs)) m' v u

def Upon (P : Program) (R : World → Value → Prop) (w : World) : Result Next → Prop
  | .ok (.value u) w' => R w' u
  | .ok .skip w' => R w' undef
  | .ok (.enter f args) w' => w' = w ∧ Calls P f args w fun e w'' => ∃ u, e = .returned u ∧ R w'' u
  | _ => False

def TOp (P : Program) (X : Ctx) (o : Oper) (ρ : Operand → V) (t : Tx) : Prop :=
  ∀ (w : World) (O0 : Nat → Prop) (m : Asg) (st : Stor) (ev : Operand → Value), Sto X w O0 m st → (∀ r ∈ t.rds, agr st r) →
    (∀ x ∈ o.op.operands, relV w (Ow O0 m st) m (ρ x) (ev x)) → (∀ v, ev (.const v) = v) → Upon P (Post X w O0 m st t.wrs t.v) w ((execOp ev o).run P w)

/-! ### States -/
structure St where
  n : Nat
  fr : Nat → V
  st : Stor
  nx : Nat
  sh : Option (List Nat)

def liftV : Value → V
  | .slice none 0 0 => .nil 0
  | v => .d (.val v)

def evF (n : Nat) (fr : Nat → V) : Operand → V
  | .tmp t => bif Nat.blt t n then fr t else .top
  | .const v => liftV v
  | .global g => .d (.val (.pointer (some ⟨g, 0, none⟩)))
  | .func f => .fn f []

structure Sim (X : Ctx) (w0 : World) (Z0 O0 : Nat → Prop) (shv : Option (List Hd)) (m : Asg) (s : St) (a : Act) (w : World) : Prop where
  defers : a.defers = []
  tsz : a.tmps.size = s.n
  os : w.os = w0.os
  tape : w.tape = w0.tape
  output : Quiet w0 w
  size : w0.heap.size ≤ w.heap.size
  keep : ∀ b : Nat, b < w0.heap.size → ¬ Z0 b → w.heap[b]? = w0.heap[b]?
  new : ∀ b, Mz m s.st b → Z0 b ∨ w0.heap.size ≤ b
  sto : Sto X w O0 m s.st
  fr : ∀ (i : Nat) (v : Value), a.tmps[i]? = some v → relV w (Ow O0 m s.st) m (s.fr i) v
  sh : s.sh.map (fun l => l.map m) = shv.map (fun l => l.map some)
  shf : ∀ s, shv = some s → ∀ hd ∈ s, hd.fixed = true

def putV (fr : Nat → V) (dst : Option Tmp) (r : V) : Nat → V := match dst with | some d => upd fr d r | none => fr

section
variable {X : Ctx} {w0 : World} {Z0 O0 : Nat → Prop} {shv : Option (List Hd)} {m : Asg} {s : St} {a : Act} {w : World} {P : Program}

theorem rel_lift {O : Nat → Prop} (v : Value) : relV w O m (liftV v) v := by
  unfold liftV
  split
  · simp only [relV]; exact ⟨none, rfl⟩
  · simp [relV, rel]

theorem Sim.ev (h : Sim X w0 Z0 O0 shv m s a w) (x : Operand) : relV w (Ow O0 m s.st) m (evF s.n s.fr x) (a.eval x) := by
  cases x with
  | tmp t =>
    simp only [evF, Act.eval]
    cases hb : Nat.blt t s.n with
    | false => simp [relV]
    | true =>
      have hlt : t < a.tmps.size := by rw [h.tsz]; simpa [Nat.blt_eq] using hb
      have := h.fr t a.tmps[t] (Array.getElem?_eq_getElem hlt)
      simpa [Array.getD, hlt] using this
  | const v => exact rel_lift v
  | global g => simp [evF, Act.eval, relV, rel]
  | func f => simp only [evF, Act.eval, relV, relVL]; exact ⟨[], rfl, rfl⟩

theorem Sim.put (h : Sim X w0 Z0 O0 shv m s a w) (dst : Option Tmp) {r : V} {v : Value} (hr : relV w (Ow O0 m s.st) m r v) :
    Sim X w0 Z0 O0 shv m { s with fr := putV s.fr dst r } (a.put dst v) w := by
  cases dst with
  | none => exact h
  | some d =>
    refine ⟨h.defers, by simpa [Act.put] using h.tsz, h.os, h.tape, h.output, h.size, h.keep, h.new, h.sto, ?_, h.sh, h.shf⟩
    intro i u hu
    simp only [Act.put] at hu
    simp only [putV]
    by_cases e : i = d
    · subst e
      rw [upd_self]
      rw [Array.getElem?_setIfInBounds] at hu
      simp only [if_true] at hu
      split at hu
      · cases hu; exact hr
      · cases hu
    · rw [upd_ne _ _ e]
      rw [Array.getElem?_setIfInBounds, if_neg (Ne.symm e)] at hu
      exact h.fr i u hu

theorem sh_mext {m m' : Asg} (h : MLe m m') : ∀ {l : List Nat} {r : List Hd}, (∀ hd ∈ r, hd.fixed = true) → l.map m = r.map some → l.map m' = r.map some
  | [], r, _, e => by cases r with | nil => rfl | cons _ _ => cases e
  | i :: l, [], _, e => by cases e
  | i :: l, x :: r, hf, e => by
    simp only [List.map_cons, List.cons.injEq] at e ⊢
    obtain ⟨x', h1, h2⟩ := h _ _ e.1
    rw [h2.eq (hf x (by simp))] at h1
    exact ⟨h1, sh_mext h (fun hd hm => hf hd (by simp [hm])) e.2⟩

theorem shO_mext {m m' : Asg} (h : MLe m m') : ∀ {l : Option (List Nat)} {r : Option (List Hd)}, (∀ s, r = some s → ∀ hd ∈ s, hd.fixed = true) → l.map (fun l => l.map m) = r.map (fun l => l.map some) → l.map (fun l => l.map m') = r.map (fun l => l.map some)
  | none, none, _, _ => rfl
  | none, some _, _, e => by cases e
  | some _, none, _, e => by cases e
  | some l, some r, hf, e => by
    simp only [Option.map_some, Option.some.injEq] at e ⊢
    exact sh_mext h (hf r rfl) e

theorem Sim.chg (h : Sim X w0 Z0 O0 shv m s a w) {w' : World} {m' : Asg} {st' : Stor} (hc : Chg w m s.st w' m' st') (hs : Sto X w' O0 m' st') :
    Sim X w0 Z0 O0 shv m' { s with st := st' } a w' where
  defers := h.defers
  tsz := h.tsz
  os := hc.os.trans h.os
  tape := hc.tape.trans h.tape
  output := hc.output.trans h.output
  size := Nat.le_trans h.size hc.size
  keep := fun b hb hn => by
    have h2 : ¬ Mz m s.st b := fun hm => by
      rcases h.new b hm with h3 | h3
      · exact hn h3
      · omega
    exact (hc.keep b (Nat.lt_of_lt_of_le hb h.size) h2).trans (h.keep b hb hn)
  new := fun b hb => by
    rcases hc.new b hb with h1 | h1
    · exact h.new b h1
    · exact Or.inr (Nat.le_trans h.size h1)
  sto := hs
  fr := fun i v hv => hc.relV (h.fr i v hv)
  sh := shO_mext hc.mext h.shf h.sh
  shf := h.shf

theorem Sim.below (h : Sim X w0 Z0 O0 shv m s a w) {w' : World} (hb : Below w.heap.size w w') : Sim X w0 Z0 O0 shv m s a w' :=
  h.chg (Chg.below hb) (h.sto.below hb)

theorem oper_of_TOp {o : Oper} {t : Tx} {N : Act → World → Prop} {Q : Exit → Act → World → Prop} (hs : Sim X w0 Z0 O0 shv m s a w) (ht : TOp P X o (evF s.n s.fr) t) (hr : ∀ r ∈ t.rds, agr s.st r)
    (hN : ∀ m' a' w', Sim X w0 Z0 O0 shv m' { s with fr := putV s.fr o.dst t.v, st := apps s.st t.wrs } a' w' → N a' w') : o.wp P a w N Q := by
  have h := ht w O0 m s.st a.eval hs.sto hr (fun x _ => hs.ev x) fun _ => rfl
  unfold Oper.wp
  generalize (execOp a.eval o).run P w = res at *
  have key : ∀ u w', Post X w O0 m s.st t.wrs t.v w' u → N (a.put o.dst u) w' := by
    rintro u w' ⟨m', h1, h2, h3⟩
    exact hN m' _ _ ((hs.chg h1 h2).put o.dst h3)
  cases res with
  | ok n w' =>
    cases n <;> simp only [Upon] at h <;> simp only [Oper.upon]
    case value u => exact key u w' h
    case skip => exact key _ w' h
    case enter f args =>
      obtain ⟨rfl, hc⟩ := h
      refine hc.mono ?_
      rintro e w'' ⟨v, rfl, h1⟩
      exact key v w'' h1
  | halt x w' => simp only [Upon] at h

/-! ### Guards -/
def boolOf : Value → Option Bool | .bool b => some b | _ => none

/-- Whether the guard lets the operation by. -/
def WantsA (ops : Array Oper) (n : Nat) (o : Oper) (fr : Nat → V) (b : Bool) : Prop :=
  match o.guard with
  | none => b = true
  | some (j, want) => ∃ d v, (ops[j]?).bind (·.dst) = some d ∧ d < n ∧ fr d = .d (.val v) ∧ (boolOf v == some want) = b

theorem wants_rel {ops : Array Oper} {o : Oper} {b : Bool} (h : Sim X w0 Z0 O0 shv m s a w) (hw : WantsA ops s.n o s.fr b) : Region.wanted o (yielded ops a.tmps) = b := by
  unfold WantsA at hw
  unfold Region.wanted
  cases hg : o.guard with
  | none => simp only [hg] at hw ⊢; exact hw.symm
  | some gw =>
    obtain ⟨j, want⟩ := gw
    simp only [hg] at hw ⊢
    obtain ⟨d, v, h1, h2, h3, h4⟩ := hw
    unfold yielded
    rw [h1]
    simp only [Option.bind_some]
    have hlt : d < a.tmps.size := by rw [h.tsz]; exact h2
    have := h.fr d a.tmps[d] (Array.getElem?_eq_getElem hlt)
    rw [h3] at this
    simp only [relV, rel] at this
    rw [Array.getElem?_eq_getElem hlt, this, ← h4]
    cases v <;> rfl

/-- One operation of a region, or its being passed over. -/
def AY (P : Program) (X : Ctx) (ops : Array Oper) (n : Nat) (o : Oper) (fr : Nat → V) (t : Tx) : Prop :=
  (WantsA ops n o fr true ∧ TOp P X o (evF n fr) t) ∨ (WantsA ops n o fr false ∧ t.v = .d (.val undef) ∧ t.wrs = [])

theorem wpOp_step {ops : Array Oper} {o : Oper} {t : Tx} {N : Act → World → Prop} {Q : Exit → Act → World → Prop} (hs : Sim X w0 Z0 O0 shv m s a w) (hy : AY P X ops s.n o s.fr t) (hr : ∀ r ∈ t.rds, agr s.st r)
    (hN : ∀ m' a' w', Sim X w0 Z0 O0 shv m' { s with fr := putV s.fr o.dst t.v, st := apps s.st t.wrs } a' w' → N a' w') :
    (Region.wanted o (yielded ops a.tmps) = true ∧ o.wp P a w N Q) ∨ (Region.wanted o (yielded ops a.tmps) = false ∧ N (a.put o.dst undef) w) := by
  rcases hy with ⟨h1, h2⟩ | ⟨h1, h2, h3⟩
  · exact Or.inl ⟨wants_rel hs h1, oper_of_TOp hs h2 hr hN⟩
  · refine Or.inr ⟨wants_rel hs h1, hN m _ _ ?_⟩
    rw [h2, h3]
    exact hs.put o.dst (by simp [relV, rel])

/-! ### A region in its own order -/
def lexT (P : Program) (X : Ctx) (ops : Array Oper) (n : Nat) (K : (Nat → V) → Stor → Prop) : List Oper → List Tx → (Nat → V) → Stor → Prop
  | [], [], fr, st => K fr st
  | o :: os, t :: ts, fr, st => AY P X ops n o fr t ∧ (∀ r ∈ t.rds, agr st r) ∧ lexT P X ops n K os ts (putV fr o.dst t.v) (apps st t.wrs)
  | _, _, _, _ => False

theorem wpList_of_lexT {ops : Array Oper} {K : (Nat → V) → Stor → Prop} {Q : Exit → Act → World → Prop} (n nx : Nat) (sh : Option (List Nat))
    (hQ : ∀ fr st m a w, K fr st → Sim X w0 Z0 O0 shv m ⟨n, fr, st, nx, sh⟩ a w → Q .normal a w) : ∀ (l : List Oper) (ts : List Tx) (fr : Nat → V) (st : Stor) (m : Asg) (a : Act) (w : World),
    Sim X w0 Z0 O0 shv m ⟨n, fr, st, nx, sh⟩ a w → lexT P X ops n K l ts fr st → wpList P ops Q l a w
  | [], [], fr, st, m, a, w, hs, h => hQ fr st m a w h hs
  | o :: os, t :: ts, fr, st, m, a, w, hs, h => by
    obtain ⟨h1, h2, h3⟩ := h
    unfold wpList
    rcases wpOp_step (Q := Q) hs h1 h2 (fun m' a' w' hs' => wpList_of_lexT n nx sh hQ os ts _ _ m' a' w' hs' h3) with ⟨g1, g2⟩ | ⟨g1, g2⟩
    · rw [g1, if_pos rfl]; exact Or.inl g2
    · rw [g1, if_neg (by simp)]; exact g2
  | [], _ :: _, _, _, _, _, _, _, h => h.elim
  | _ :: _, [], _, _, _, _, _, _, h => h.elim

/-! ### A region in any order -/
theorem ev_put {n : Nat} {fr : Nat → V} {dst : Option Tmp} {r : V} {x : Operand} (h : ∀ d, dst = some d → x ≠ .tmp d) : evF n (putV fr dst r) x = evF n fr x := by
  cases dst with
  | none => rfl
  | some d =>
    cases x with
    | tmp t =>
      have hne : t ≠ d := fun e => h d rfl (e ▸ rfl)
      simp [evF, putV, upd_ne _ _ hne]
    | _ => rfl

theorem putV_comm (fr : Nat → V) {x y : Option Tmp} (v u : V) (h : ∀ d, x = some d → y ≠ some d) : putV (putV fr x v) y u = putV (putV fr y u) x v := by
  cases x with
  | none => rfl
  | some d =>
    cases y with
    | none => rfl
    | some e =>
      have hne : d ≠ e := fun he => h d rfl (he ▸ rfl)
      exact upd_comm _ _ _ hne

theorem TOp.congr {o : Oper} {ρ ρ' : Operand → V} {t : Tx} (h : TOp P X o ρ t) (he : ∀ x ∈ o.op.operands, ρ' x = ρ x) : TOp P X o ρ' t :=
  fun w O0 m st ev hs ha hr => h w O0 m st ev hs ha fun x hx => by rw [← he x hx]; exact hr x hx

theorem wants_put {ops : Array Oper} {n : Nat} {o : Oper} {fr : Nat → V} {dst : Option Tmp} {r : V} {b : Bool} (h : ∀ d, dst = some d → d ∉ o.looksAt ops) : WantsA ops n o (putV fr dst r) b ↔ WantsA ops n o fr b := by
  unfold WantsA
  cases hg : o.guard with
  | none => rfl
  | some gw =>
    obtain ⟨g, want⟩ := gw
    simp only
    have hy : ∀ d, (ops[g]?).bind (·.dst) = some d → putV fr dst r d = fr d := by
      intro d hd
      cases dst with
      | none => rfl
      | some d' =>
        have hne : d ≠ d' := fun e => h d' rfl (by subst e; simp [Oper.looksAt, hg, hd])
        exact upd_ne _ _ hne
    constructor
    · rintro ⟨d, v, h1, h2, h3, h4⟩
      exact ⟨d, v, h1, h2, by rw [← hy d h1]; exact h3, h4⟩
    · rintro ⟨d, v, h1, h2, h3, h4⟩
      exact ⟨d, v, h1, h2, by rw [hy d h1]; exact h3, h4⟩

theorem AY.put {ops : Array Oper} {n : Nat} {o : Oper} {fr : Nat → V} {t : Tx} {dst : Option Tmp} {u : V} (h : ∀ d, dst = some d → d ∉ o.looksAt ops) : AY P X ops n o (putV fr dst u) t ↔ AY P X ops n o fr t := by
  have he : ∀ x ∈ o.op.operands, evF n (putV fr dst u) x = evF n fr x := fun x hx => ev_put fun d hd hxd => h d hd (by
    subst hxd
    exact List.mem_append_left _ (List.mem_filterMap.2 ⟨.tmp d, by simpa using hx, rfl⟩))
  unfold AY
  rw [wants_put h, wants_put h]
  constructor
  · rintro (⟨h1, h2⟩ | h1)
    · exact Or.inl ⟨h1, h2.congr fun x hx => (he x hx).symm⟩
    · exact Or.inr h1
  · rintro (⟨h1, h2⟩ | h1)
    · exact Or.inl ⟨h1, h2.congr he⟩
    · exact Or.inr h1

def indT (t u : Tx) : Prop := (∀ x ∈ t.wrs, ∀ r ∈ u.rds, indWR x r) ∧ (∀ x ∈ u.wrs, ∀ r ∈ t.rds, indWR x r) ∧ (∀ x ∈ t.wrs, ∀ y ∈ u.wrs, indWW x y)

def aqT (P : Program) (X : Ctx) (ops : Array Oper) (T : List Tx) (n i : Nat) (K : (Nat → V) → Stor → Prop) (fr : Nat → V) (st : Stor) : Prop :=
  match ops[i]?, T[i]? with
  | some o, some t => AY P X ops n o fr t ∧ (∀ r ∈ t.rds, agr st r) ∧ K (putV fr o.dst t.v) (apps st t.wrs)
  | none, _ => K fr st
  | _, _ => False

theorem aqT_mono {ops : Array Oper} {T : List Tx} {n i : Nat} {K K' : (Nat → V) → Stor → Prop} {fr : Nat → V} {st : Stor} (h : ∀ f s, K f s → K' f s) (hh : aqT P X ops T n i K fr st) : aqT P X ops T n i K' fr st := by
  unfold aqT at *
  split <;> rename_i h1 <;> simp_all

variable {md : Region.Mode}

def aAny (P : Program) (X : Ctx) (md : Region.Mode) (ops : Array Oper) (T : List Tx) (n : Nat) (K : (Nat → V) → Stor → Prop) : Nat → Array Bool → (Nat → V) → Stor → Prop
  | 0, listed, fr, st => Region.ready md ops listed = [] ∧ K fr st
  | fuel + 1, listed, fr, st =>
    (Region.ready md ops listed = [] → K fr st) ∧
    ∀ i ∈ Region.ready md ops listed, aqT P X ops T n i (aAny P X md ops T n K fuel (listed.setIfInBounds i true)) fr st

theorem aqT_put {ops : Array Oper} {T : List Tx} {n i j : Nat} {oi oj : Oper} {ti tj : Tx} (hi : ops[i]? = some oi) (hti : T[i]? = some ti) (hj : ops[j]? = some oj) (htj : T[j]? = some tj) (hap : oi.apart ops oj = true) (hin : indT ti tj)
    {K : (Nat → V) → Stor → Prop} {fr : Nat → V} {st : Stor} (hy : AY P X ops n oi fr ti) (hr : ∀ r ∈ ti.rds, agr st r) (h : aqT P X ops T n j K (putV fr oi.dst ti.v) (apps st ti.wrs)) :
    aqT P X ops T n j (fun f s => AY P X ops n oi f ti ∧ (∀ r ∈ ti.rds, agr s r) ∧ K (putV f oi.dst ti.v) (apps s ti.wrs)) fr st := by
  obtain ⟨h1, h2, h3⟩ := Oper.apart_spec hap
  unfold aqT at *
  simp only [hj, htj] at *
  obtain ⟨g1, g2, g3⟩ := h
  refine ⟨(AY.put h1).1 g1, fun r hr' => (agr_apps ti.wrs st fun x hx => hin.1 x hx r hr').1 (g2 r hr'), (AY.put h3).2 hy, fun r hr' => (agr_apps tj.wrs st fun x hx => hin.2.1 x hx r hr').2 (hr r hr'), ?_⟩
  rw [← putV_comm fr ti.v tj.v h2, ← apps_comm ti.wrs tj.wrs st hin.2.2]
  exact g3

/-- No edge, nor two edges one behind the other, lead to number i. -/
def NoPath (md : Region.Mode) (ops : Array Oper) (i : Nat) (o : Oper) : Prop := ∀ e ∈ o.after, Region.binds md e = true → e.on ≠ i ∧ ∀ ok, ops[e.on]? = some ok → ∀ e' ∈ ok.after, Region.binds md e' = true → e'.on ≠ i
/-- What is done has behind it what it waits for. -/
def Closed (md : Region.Mode) (ops : Array Oper) (listed : Array Bool) : Prop := ∀ (k : Nat) (ok : Oper), ops[k]? = some ok → listed.getD k false = true → ∀ e ∈ ok.after, Region.binds md e = true → listed.getD e.on false = true
theorem getD_set_mono {listed : Array Bool} {j k : Nat} (h : listed.getD k false = true) : (listed.setIfInBounds j true).getD k false = true := by
  by_cases e : j = k
  · subst e
    rcases Nat.lt_or_ge j listed.size with h' | h'
    · simp [Array.getD, h']
    · simp [Array.getD, Nat.not_lt.2 h'] at h
  · rw [getD_set_ne false e]; exact h
theorem Closed.set {ops : Array Oper} {listed : Array Bool} {j : Nat} (h : Closed md ops listed) (hj : j ∈ Region.ready md ops listed) : Closed md ops (listed.setIfInBounds j true) := by
  intro k ok hk hl e he hb
  by_cases e1 : j = k
  · subst e1
    obtain ⟨_, oj, hoj, hall⟩ := mem_ready.1 hj
    rw [hk] at hoj
    cases hoj
    exact getD_set_mono (hall e he hb)
  · rw [getD_set_ne false e1] at hl
    exact getD_set_mono (h k ok hk hl e he hb)

theorem aAny_first {ops : Array Oper} {T : List Tx} {n : Nat} {K : (Nat → V) → Stor → Prop} {i : Nat} {oi : Oper} {ti : Tx} (hi : ops[i]? = some oi) (hti : T[i]? = some ti) (hT : T.length = ops.size) :
    ∀ (fuel : Nat) (listed : Array Bool) (fr : Nat → V) (st : Stor),
      (∀ j oj, ops[j]? = some oj → j ≠ i → listed.getD j true = false → (∀ e ∈ oj.after, Region.binds md e = true → e.on ≠ i) → NoPath md ops i oj → oi.apart ops oj = true ∧ ∀ tj, T[j]? = some tj → indT ti tj) →
      Closed md ops listed → i ∈ Region.ready md ops listed → AY P X ops n oi fr ti → (∀ r ∈ ti.rds, agr st r) →
      aAny P X md ops T n K fuel (listed.setIfInBounds i true) (putV fr oi.dst ti.v) (apps st ti.wrs) → aAny P X md ops T n K (fuel + 1) listed fr st := by
  intro fuel
  have hq : ∀ {K : (Nat → V) → Stor → Prop} {fr : Nat → V} {st : Stor}, AY P X ops n oi fr ti → (∀ r ∈ ti.rds, agr st r) → K (putV fr oi.dst ti.v) (apps st ti.wrs) → aqT P X ops T n i K fr st := by
    intro K fr st hy hr hk
    unfold aqT
    simp only [hi, hti]
    exact ⟨hy, hr, hk⟩
  induction fuel with
  | zero =>
    intro listed fr st _ _ hr hy hd H
    refine ⟨fun h => (by rw [h] at hr; cases hr), fun j hj => ?_⟩
    by_cases hji : j = i
    · subst hji; exact hq hy hd H
    · have := ready_mono hj hji
      rw [H.1] at this
      cases this
  | succ fuel ih =>
    intro listed fr st hfree hcl hr hy hd H
    refine ⟨fun h => (by rw [h] at hr; cases hr), fun j hj => ?_⟩
    by_cases hji : j = i
    · subst hji; exact hq hy hd H
    · have h1 := H.2 j (ready_mono hj hji)
      obtain ⟨hjun, oj, hoj, hall⟩ := mem_ready.1 hj
      have hnot : ∀ e ∈ oj.after, Region.binds md e = true → e.on ≠ i := fun e he hb heq => by
        have h1 := hall e he hb
        have h0 := (mem_ready.1 hr).1
        rw [heq] at h1
        rcases Nat.lt_or_ge i listed.size with h' | h'
        · simp [h'] at h0 h1; rw [h0] at h1; cases h1
        · simp [Array.getElem?_eq_none h'] at h1
      obtain ⟨tj, htj⟩ : ∃ tj, T[j]? = some tj := ⟨_, List.getElem?_eq_getElem (by rw [hT]; exact (Array.getElem?_eq_some_iff.1 hoj).1)⟩
      have hpath : NoPath md ops i oj := fun e he hb => ⟨hnot e he hb, fun ok hok e' he' hb' heq => by
        have h1 := hcl e.on ok hok (hall e he hb) e' he' hb'
        have h0 := (mem_ready.1 hr).1
        rw [heq] at h1
        rcases Nat.lt_or_ge i listed.size with h' | h'
        · simp [h'] at h0 h1; rw [h0] at h1; cases h1
        · simp [Array.getElem?_eq_none h'] at h1⟩
      have hf := hfree j oj hoj hji hjun hnot hpath
      have h2 := aqT_put hi hti hoj htj hf.1 (hf.2 tj htj) hy hd h1
      have hfree' : ∀ k ok, ops[k]? = some ok → k ≠ i → (listed.setIfInBounds j true).getD k true = false →
          (∀ e ∈ ok.after, Region.binds md e = true → e.on ≠ i) → NoPath md ops i ok → oi.apart ops ok = true ∧ ∀ tk, T[k]? = some tk → indT ti tk := fun k ok hk hki hun hno hpa => by
        refine hfree k ok hk hki ?_ hno hpa
        by_cases hjk : j = k
        · subst hjk; exact hjun
        · rw [getD_set_ne true hjk] at hun; exact hun
      refine aqT_mono (fun f' s' h3 => ih (listed.setIfInBounds j true) f' s' hfree' (hcl.set hj) (ready_mono hr (Ne.symm hji)) h3.1 h3.2.1 ?_) h2
      rw [Array.setIfInBounds_comm _ _ hji]
      exact h3.2.2

/-- Operations that no edge orders touch nothing in common. -/
def Loose (md : Region.Mode) (ops : Array Oper) (T : List Tx) : Prop :=
  ∀ (i j : Nat) (oj : Oper) (ti tj : Tx), i < j → ops[j]? = some oj → T[i]? = some ti → T[j]? = some tj → NoPath md ops i oj → indT ti tj

theorem aAny_lex {ops : Array Oper} {T : List Tx} {n : Nat} {K : (Nat → V) → Stor → Prop} (hT : T.length = ops.size) (hL : Loose md ops T) : ∀ (l : List Oper) (ts : List Tx) (k : Nat) (listed : Array Bool) (fr : Nat → V) (st : Stor),
    (∀ j, l[j]? = ops[k + j]?) → (∀ j, ts[j]? = T[k + j]?) → (∀ j, j < k → listed.getD j true = true) → Closed md ops listed →
    Region.lexFrom md ops l.length k listed = true → lexT P X ops n K l ts fr st → aAny P X md ops T n K l.length listed fr st
  | [], [], _, _, _, _, _, _, _, _, hB, h => ⟨by simpa [Region.lexFrom] using hB, h⟩
  | o :: l, t :: ts, k, listed, fr, st, hl, ht, hlt, hcl, hB, h => by
    have h0 : ops[k]? = some o := by simpa using (hl 0).symm
    have h0' : T[k]? = some t := by simpa using (ht 0).symm
    simp only [List.length_cons, Region.lexFrom, Bool.and_eq_true] at hB
    obtain ⟨⟨hr, hf⟩, hB'⟩ := hB
    obtain ⟨hy, hd, hK⟩ := h
    have hsz : k < listed.size := by
      have := (mem_ready.1 (show k ∈ Region.ready md ops listed by simpa using hr)).1
      rcases Nat.lt_or_ge k listed.size with h' | h'
      · exact h'
      · simp [Array.getD, Nat.not_lt.2 h'] at this
    refine aAny_first h0 h0' hT l.length listed fr st (fun j oj hj hne hun hno hpa => ⟨Region.free_spec h0 hf j oj hj hne hun hno, fun tj htj => ?_⟩) hcl (by simpa using hr) hy hd
      (aAny_lex hT hL l ts (k + 1) _ _ _ (fun j => by have := hl (j + 1); simpa [Nat.add_assoc, Nat.add_comm 1 j] using this) (fun j => by have := ht (j + 1); simpa [Nat.add_assoc, Nat.add_comm 1 j] using this) ?_ (hcl.set (by simpa using hr)) hB' hK)
    · refine hL k j oj t tj ?_ hj h0' htj hpa
      rcases Nat.lt_or_ge j k with h | h
      · rw [hlt j h] at hun; cases hun
      · omega
    · intro j hj
      by_cases e : k = j
      · subst e; simp [Array.getD, hsz]
      · rw [getD_set_ne true e]; exact hlt j (by omega)
  | [], _ :: _, _, _, _, _, _, _, _, _, _, h => h.elim
  | _ :: _, [], _, _, _, _, _, _, _, _, _, h => h.elim

theorem wpAny_of_aAny {ops : Array Oper} {T : List Tx} {K : (Nat → V) → Stor → Prop} {Q : Exit → Act → World → Prop} (n nx : Nat) (sh : Option (List Nat)) (hT : T.length = ops.size)
    (hQ : ∀ fr st m a w, K fr st → Sim X w0 Z0 O0 shv m ⟨n, fr, st, nx, sh⟩ a w → Q .normal a w) : ∀ (fuel : Nat) (listed : Array Bool) (fr : Nat → V) (st : Stor) (m : Asg) (a : Act) (w : World),
    Sim X w0 Z0 O0 shv m ⟨n, fr, st, nx, sh⟩ a w → aAny P X md ops T n K fuel listed fr st → wpAny P md ops Q fuel listed a w
  | 0, _, fr, st, m, a, w, hs, h => ⟨h.1, hQ fr st m a w h.2 hs⟩
  | fuel + 1, listed, fr, st, m, a, w, hs, h => ⟨fun h0 => hQ fr st m a w (h.1 h0) hs, fun i hi => by
      have hh := h.2 i hi
      obtain ⟨_, oi, hoi, _⟩ := mem_ready.1 hi
      obtain ⟨ti, hti⟩ : ∃ ti, T[i]? = some ti := ⟨_, List.getElem?_eq_getElem (by rw [hT]; exact (Array.getElem?_eq_some_iff.1 hoi).1)⟩
      unfold aqT at hh
      simp only [hoi, hti] at hh
      obtain ⟨h1, h2, h3⟩ := hh
      unfold wpOp
      simp only [hoi]
      rcases wpOp_step (Q := Q) hs h1 h2 (fun m' a' w' hs' => wpAny_of_aAny n nx sh hT hQ fuel (listed.setIfInBounds i true) _ _ m' a' w' hs' h3) with ⟨g1, g2⟩ | ⟨g1, g2⟩
      · rw [g1, if_pos rfl]; exact Or.inl g2
      · rw [g1, if_neg (by simp)]; exact g2⟩

/-- A region, walked once in the order of its text. -/
theorem wp_region_lexT {id : Nat} {l : List Oper} {draw : Bool} {T : List Tx} {K : (Nat → V) → Stor → Prop} {Q : Exit → Act → World → Prop} (hm : P.follows .mixedOrders = true) (hs : Sim X w0 Z0 O0 shv m s a w)
    (hd : draw = true → Region.lexB .any l.toArray = true ∧ T.length = l.length ∧ Loose .any l.toArray T)
    (h : lexT P X l.toArray s.n K l T s.fr s.st) (hQ : ∀ fr st m a w, K fr st → Sim X w0 Z0 O0 shv m { s with fr := fr, st := st } a w → Q .normal a w) : (Code.region id l.toArray draw).wp P Q a w := by
  cases draw with
  | false => exact wp_region_lit (wpList_of_lexT s.n s.nx s.sh hQ l T s.fr s.st m a w hs h)
  | true =>
    obtain ⟨hB, hT, hL⟩ := hd rfl
    simp only [Region.lexB, Bool.and_eq_true] at hB
    have hb : Below w.heap.size w { w with drawn := w.drawn + 1 } := ⟨rfl, rfl, ⟨rfl, Nat.le_succ _⟩, Nat.le_refl _, fun _ _ => rfl⟩
    refine wp_region_any hm ?_
    refine wpAny_of_aAny (T := T) (K := K) s.n s.nx s.sh (by simpa using hT) hQ _ _ s.fr s.st m a _ (hs.below hb) ?_
    have := aAny_lex (P := P) (X := X) (n := s.n) (K := K) (md := .any) (by simpa using hT) hL l T 0 (Array.replicate l.toArray.size false) s.fr s.st (by simp) (by simp) (by simp) (fun k ok _ hl => by simp [Array.getD] at hl) (by simpa using hB.2) h
    simpa using this
end
end Go.Proofs.YtnbjmmldjggkfaaGreat.Abs
