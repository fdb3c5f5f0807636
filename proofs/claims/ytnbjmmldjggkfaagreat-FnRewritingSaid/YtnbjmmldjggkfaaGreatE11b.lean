/- WINDOWS: parts of a row of the call's own that stay its own. -/
import Derived.Test.YtnbjmmldjggkfaaGreatE11
namespace Go.Proofs.YtnbjmmldjggkfaaGreat.Abs
open Go Go.RowKit
noncomputable section

/-- Elements put over others. -/
def rOver (xs : List (List A)) (off : Nat) (ys : List (List A)) : List (List A) := over xs off ys
def rWin (xs : List (List A)) (off n : Nat) : List (List A) := (xs.drop off).take n
def rRem (xs : List (List A)) (off : Nat) : Nat := xs.length - off
def rCnt (xs : List (List A)) : Nat := xs.length
def rMin (ys : List (List A)) (n : Nat) : A := vi (Nat.min ys.length n)
def rTake (ys : List (List A)) (n : Nat) : List (List A) := ys.take n
def pRoom (off n : Nat) (ys xs : List (List A)) : Bool := decide (off + n + ys.length ≤ xs.length)
def nAdd (a b : Nat) : Nat := a + b
def nSub (a b : Nat) : Nat := a - b
def pB (d top : Nat) (x : Option A) : Option Nat :=
  match x with
  | none => if d ≤ top then some d else none
  | some (.val (.int _ z)) => if 0 ≤ z ∧ z ≤ (top : Int) then some z.toNat else none
  | _ => none

def pLo (top : Nat) : Option A → Option Nat
  | none => some 0
  | some a => pB 0 top (some a)
theorem pLo_eq (top : Nat) (x : Option A) : pLo top x = pB 0 top x := by cases x <;> simp [pLo, pB]
/-- Numbers as data, and back. -/
def nOf (a : A) : Nat := match a with | .val (.int _ z) => z.toNat | _ => 0
theorem nOf_nA (n : Nat) : nOf (nA n) = n := rfl

/-- A value as a part of a row: the row, where it begins, how long it is. -/
structure WP where
  id : Nat
  k : Nat
  off : Nat
  n : Nat
  xs : List (List A)

def winP (st : Stor) : V → Option WP
  | .row id => (match st id with | .row k xs => some ⟨id, k, 0, rCnt xs, xs⟩ | _ => none)
  | .win id k off n => (match st id with | .row k' xs => if Nat.beq k' k then some ⟨id, k', off, n, xs⟩ else none | _ => none)
  | _ => none

def isNeq (op : BinOp) : Bool := match op with | .neq => true | _ => false
def isEq (op : BinOp) : Bool := match op with | .eql => true | .neq => true | _ => false

section
variable {P : Program} {X : Ctx} {o : Oper} {ρ : Operand → V} {C : Cfg}

theorem win_row {w : World} {O : Nat → Prop} {k : Nat} {xs : List (List A)} {hd : Hd} {v : Value} (h : rowOk w O k xs hd) (hv : hdr hd v) : winV k 0 xs.length hd v := by
  cases hd with
  | tre => exact h.elim
  | mp => exact h.elim
  | none => simp only [rowOk] at h; simp only [hdr] at hv; subst h; exact ⟨rfl, rfl, hv⟩
  | blk b c l =>
    obtain ⟨rfl, h1, _⟩ := h
    simp only [hdr] at hv
    exact ⟨by omega, 0, by simpa using hv, fun _ => by simp⟩

theorem winP_ok {st : Stor} {v : V} {p : WP} (h : winP st v = some p) : st p.id = .row p.k p.xs ∧
    ∀ (w : World) (O0 : Nat → Prop) (m : Asg) (st' : Stor) (u : Value), Sto X w O0 m st' → agr st' (.len p.id p.k p.xs.length) → relV w (Ow O0 m st') m v u →
      ∃ hd xs', m p.id = some hd ∧ st' p.id = .row p.k xs' ∧ xs'.length = p.xs.length ∧ winV p.k p.off p.n hd u ∧ rowOk w (Ow O0 m st') p.k xs' hd := by
  unfold winP at h
  split at h
  · rename_i id
    split at h
    · rename_i k xs hst
      cases h
      refine ⟨hst, fun w O0 m st' u hs hg hr => ?_⟩
      obtain ⟨xs', g1, g2⟩ := hg
      obtain ⟨hd, q1, q2, q3⟩ := row_at hs g1 hr
      exact ⟨hd, xs', q1, g1, g2, by show winV k 0 xs.length hd u; rw [← g2]; exact win_row q3 q2, q3⟩
    · cases h
  · rename_i id k off n
    split at h
    · rename_i k' xs hst
      split at h
      · rename_i hk
        have hk := Nat.eq_of_beq_eq_true hk
        subst hk
        cases h
        refine ⟨hst, fun w O0 m st' u hs hg hr => ?_⟩
        obtain ⟨xs', g1, g2⟩ := hg
        simp only [relV] at hr
        obtain ⟨hd, q1, q2⟩ := hr
        have ho := hs.obj id
        rw [g1] at ho
        obtain ⟨hd', e1, e2⟩ := ho
        rw [q1] at e1
        cases e1
        exact ⟨hd, xs', q1, g1, g2, q2, e2⟩
      · cases h
    · cases h
  · cases h

theorem src_win {w : World} {O : Nat → Prop} {k off n : Nat} {xs : List (List A)} {hd : Hd} {v : Value} (h : rowOk w O k xs hd) (hv : winV k off n hd v) : SrcOk w O k ((xs.drop off).take n) v := by
  cases hd with
  | tre => exact h.elim
  | mp => exact h.elim
  | none =>
    simp only [rowOk] at h
    simp only [winV] at hv
    obtain ⟨rfl, rfl, a, rfl⟩ := hv
    subst h
    exact ⟨a, 0, [], by simp, by simp [relL], (fun v h => by cases h), by simp, Or.inl (by simp)⟩
  | blk b cap l =>
    obtain ⟨rfl, h1, h2, h3, c, T, h4, h5, h6, h7⟩ := h
    simp only [winV] at hv
    obtain ⟨hl, q, rfl, hq⟩ := hv
    have hlen : ((xs.drop off).take n).length = n := by simp; omega
    have hr := rows_of_flat (w := w) (O := O) (b := b) (off := 0) h3 h7 ((Reads.block h4).take _) h6
    have hr := relRows_take n (relRows_drop off hr (by omega))
    obtain ⟨vs, g1, g2, g4, g3⟩ := flat_of_rows hr
    refine ⟨_, cap - off, vs, by rw [hlen], g1, g4, g3, ?_⟩
    by_cases hn : n = 0
    · subst hn; left; simp
    · right
      have hqe := hq (by omega)
      subst hqe
      exact ⟨b, off * k, rfl, by simpa using g2⟩

theorem flatten_take {α : Type} {k : Nat} : ∀ (xs : List (List α)) (n : Nat), (∀ y ∈ xs, y.length = k) → (xs.take n).flatten = xs.flatten.take (n * k)
  | [], n, _ => by simp
  | x :: xs, 0, _ => by simp
  | x :: xs, n + 1, h => by
    have hx := h x (by simp)
    rw [List.take_succ_cons, List.flatten_cons, List.flatten_cons, flatten_take xs n fun y hy => h y (by simp [hy]), show (n + 1) * k = x.length + n * k by rw [Nat.add_mul]; omega, List.take_length_add_append]

theorem flatten_drop {α : Type} {k : Nat} : ∀ (xs : List (List α)) (n : Nat), (∀ y ∈ xs, y.length = k) → (xs.drop n).flatten = xs.flatten.drop (n * k)
  | [], n, _ => by simp
  | x :: xs, 0, _ => by simp
  | x :: xs, n + 1, h => by
    have hx := h x (by simp)
    rw [List.drop_succ_cons, List.flatten_cons, flatten_drop xs n fun y hy => h y (by simp [hy]), show (n + 1) * k = x.length + n * k by rw [Nat.add_mul]; omega, List.drop_length_add_append]

theorem flatten_over {α : Type} {k : Nat} {xs ys : List (List α)} {off : Nat} (hx : ∀ y ∈ xs, y.length = k) (hy : ∀ y ∈ ys, y.length = k) : (over xs off ys).flatten = over xs.flatten (off * k) ys.flatten := by
  unfold over
  rw [List.flatten_append, List.flatten_append, flatten_take xs off hx, flatten_drop xs _ hx, len_flat hy, Nat.add_mul]

/-- Elements laid over others of a living row: in memory. -/
theorem row_put (P : Program) {w : World} {O0 : Nat → Prop} {m : Asg} {st : Stor} (hs : Sto X w O0 m st) {id k b c l : Nat} {xs : List (List A)} (hid : st id = .row k xs) (hm : m id = some (.blk b c l)) {ys : List (List A)} {us : List Value}
    (hu : relL w (Ow O0 m st) ys.flatten us) (hone : OneCells us) (hk : ∀ y ∈ ys, y.length = k) {off : Nat} (hl : off + ys.length ≤ xs.length) :
    ∃ W, (storeCells ⟨b, off * k, none⟩ us).run P w = .ok () W ∧ Chg w m st W m (upd st id (.row k (over xs off ys))) ∧ Sto X W O0 m (upd st id (.row k (over xs off ys))) := by
  have hob := hs.obj id
  rw [hid] at hob
  obtain ⟨hd, q1, q2⟩ := hob
  rw [hm] at q1
  cases q1
  obtain ⟨q0, q6, q7, q8, cc, T, q3, q9, q4, q5⟩ := q2
  have l1 := relL_length hu
  rw [len_flat hk] at l1
  have hfit : off * k + ys.length * k ≤ xs.length * k := by rw [← Nat.add_mul]; exact Nat.mul_le_mul_right k hl
  have hcap : xs.length * k ≤ cc.size := by rw [q9]; exact Nat.mul_le_mul_right k q6
  obtain ⟨W, hst, w1, w2, w3, w4, w5, w6⟩ := run_stores P q3 (off * k) us (by rw [l1]; omega) hone
  have hal : (st id).alive = true := by rw [hid]; rfl
  obtain ⟨k1, k2⟩ := post_turn hs hal hm (o' := .row k (over xs off ys)) rfl w1 w2 w3 w4 w5 fun hmono => by
    have hol := over_length (cs := xs) (ds := ys) hl
    refine ⟨_, hm, by rw [hol]; exact q0, by rw [hol]; exact q6, q7, ?_, _, T, w6, ?_, ?_, ?_⟩
    · intro y hy
      unfold over at hy
      rcases List.mem_append.1 hy with hy | hy
      · rcases List.mem_append.1 hy with hy | hy
        · exact q8 y (List.mem_of_mem_take hy)
        · exact hk y hy
      · exact q8 y (List.mem_of_mem_drop hy)
    · rw [List.size_toArray, over_length (by simp only [Array.length_toList]; omega), Array.length_toList]; exact q9
    · rw [hol]
      rw [take_over _ _ _ _ (by rw [l1]; exact hfit) (by simpa using hcap)]
      exact OneCells.over q4 hone _
    · rw [hol, flatten_over q8 hk]
      rw [take_over _ _ _ _ (by rw [l1]; exact hfit) (by simpa using hcap)]
      exact relL_mono hmono _ _ (relL_over q5 hu)
  exact ⟨W, hst, k1, k2⟩

theorem pB_some {d top : Nat} {x : Option A} {n : Nat} (h : pB d top x = some n) : n ≤ top ∧ ((x = none ∧ n = d) ∨ ∃ k, x = some (.val (.int k n))) := by
  unfold pB at h
  split at h
  · split at h
    · cases h; exact ⟨by assumption, Or.inl ⟨rfl, rfl⟩⟩
    · cases h
  · rename_i k z
    split at h
    · rename_i hz
      cases h
      refine ⟨by omega, Or.inr ⟨k, ?_⟩⟩
      rw [show ((z.toNat : Nat) : Int) = z by omega]
    · cases h
  · cases h

theorem run_boundsC {ev : Operand → Value} {w : World} {O : Nat → Prop} {lo hi : Option Operand} {alo ahi : Option A} {len cap top : Nat} (hlo : ∀ y, lo = some y → ∃ a, alo = some a ∧ rel w O a (ev y)) (hlo0 : lo = none → alo = none) (hhi : ∀ y, hi = some y → ∃ a, ahi = some a ∧ rel w O a (ev y)) (hhi0 : hi = none → ahi = none)
    {l h : Nat} (hh : pB len top ahi = some h) (hl : pB 0 h alo = some l) (ht : top ≤ cap) :
    (Instr.sliceBounds true len cap (lo.map ev) (hi.map ev) none).run P w = .ok (l, h, cap) w := by
  obtain ⟨h1, h2⟩ := pB_some hh
  obtain ⟨l1, l2⟩ := pB_some hl
  have el : ∀ y, lo = some y → ∃ k, ev y = .int k l := by
    intro y hy
    obtain ⟨a, rfl, ha⟩ := hlo y hy
    rcases l2 with ⟨l2, _⟩ | ⟨k, l2⟩
    · cases l2
    · cases l2; simp only [rel] at ha; exact ⟨_, ha⟩
  have el0 : lo = none → l = 0 := fun hy => by
    rcases l2 with ⟨_, l2⟩ | ⟨k, l2⟩
    · exact l2
    · rw [hlo0 hy] at l2; cases l2
  have eh : ∀ y, hi = some y → ∃ k, ev y = .int k h := by
    intro y hy
    obtain ⟨a, rfl, ha⟩ := hhi y hy
    rcases h2 with ⟨h2, _⟩ | ⟨k, h2⟩
    · cases h2
    · cases h2; simp only [rel] at ha; exact ⟨_, ha⟩
  have eh0 : hi = none → h = len := fun hy => by
    rcases h2 with ⟨_, h2⟩ | ⟨k, h2⟩
    · exact h2
    · rw [hhi0 hy] at h2; cases h2
  have hc : h ≤ cap := by omega
  cases lo with
  | none =>
    have := el0 rfl; subst this
    cases hi with
    | none =>
      have := eh0 rfl; subst this
      simp [Instr.sliceBounds]
    | some z =>
      obtain ⟨k, hz⟩ := eh z rfl
      simp [Instr.sliceBounds, Instr.sliceBound, hz, asIntOf, hc]
  | some y =>
    obtain ⟨k, hy⟩ := el y rfl
    cases hi with
    | none =>
      have := eh0 rfl; subst this
      simp [Instr.sliceBounds, Instr.sliceBound, hy, asIntOf, l1]
    | some z =>
      obtain ⟨k', hz⟩ := eh z rfl
      simp [Instr.sliceBounds, Instr.sliceBound, hy, hz, asIntOf, hc, l1]

/-- A part of a row or of a part, as a part. -/
theorem TOp.winSlice {t : TypeId} {x : Operand} {lo hi : Option Operand} (ho : o.op = .slice t x lo hi none) {e : Nat} (ht : P.underlying t = some (.slice e)) {i : TI} (hi' : TI.ok P e i) {st0 : Stor} {p : WP} (hp : winP st0 (ρ x) = some p) (hk : p.k = i.size)
    {alo ahi : Option A} (hlo : ∀ y, lo = some y → ∃ a, alo = some a ∧ dat (ρ y) = some a) (hlo0 : lo = none → alo = none) (hhi : ∀ y, hi = some y → ∃ a, ahi = some a ∧ dat (ρ y) = some a) (hhi0 : hi = none → ahi = none)
    {l h : Nat} (hh : pB p.n (p.xs.length - p.off) ahi = some h) (hl : pB 0 h alo = some l) :
    TOp P X o ρ ⟨.win p.id p.k (p.off + l) (h - l), [.len p.id p.k p.xs.length], []⟩ := by
  refine TOp.same fun w O0 m st ev hs hg hr => ?_
  have hx' := hr x (by simp [ho, Op.operands])
  obtain ⟨hd, xs', e1, e2, e3, e4, e5⟩ := (winP_ok (X := X) hp).2 w O0 m st _ hs (hg _ (List.mem_singleton.2 rfl)) hx'
  have hlo' : ∀ y, lo = some y → ∃ a, alo = some a ∧ rel w (Ow O0 m st) a (ev y) := fun y hy => by
    obtain ⟨a, f1, f2⟩ := hlo y hy
    exact ⟨a, f1, rel_dat f2 (hr y (by simp [ho, Op.operands, hy]))⟩
  have hhi'' : ∀ y, hi = some y → ∃ a, ahi = some a ∧ rel w (Ow O0 m st) a (ev y) := fun y hy => by
    obtain ⟨a, f1, f2⟩ := hhi y hy
    exact ⟨a, f1, rel_dat f2 (hr y (by simp [ho, Op.operands, hy]))⟩
  obtain ⟨b1, _⟩ := pB_some hh
  obtain ⟨b2, _⟩ := pB_some hl
  cases hd with
  | tre => exact e4.elim
  | mp => exact e4.elim
  | none =>
    simp only [rowOk] at e5
    simp only [winV] at e4
    obtain ⟨q1, q2, a, q3⟩ := e4
    have hx0 : p.xs.length = 0 := by rw [← e3, e5]; rfl
    have hh0 : h = 0 := by omega
    subst hh0
    have hl0 : l = 0 := by omega
    subst hl0
    rw [q2] at hh
    have hb := run_boundsC (P := P) (w := w) (ev := ev) (cap := 0) hlo' hlo0 hhi'' hhi0 hh hl (by omega)
    refine ⟨.slice a 0 0, ?_, ?_⟩
    · simp [execOp, ho, Instr.sliceAt, q3, run_underlying ht, Instr.slice, hb, hi'.run_sizeOf w]
    · simp only [relV]
      exact ⟨_, e1, by simp [q1], by simp, a, rfl⟩
  | blk b c ll =>
    obtain ⟨f1, f2, f3, f4, _⟩ := e5
    simp only [winV] at e4
    obtain ⟨q1, q, q3, q4⟩ := e4
    have hb := run_boundsC (P := P) (w := w) (ev := ev) (cap := c - p.off) hlo' hlo0 hhi'' hhi0 hh hl (by omega)
    by_cases hcl : c - p.off = l
    · refine ⟨.slice (some ⟨b, q, none⟩) (h - l) (c - p.off - l), ?_, ?_⟩
      · rw [hcl] at hb
        simp [execOp, ho, Instr.sliceAt, q3, run_underlying ht, Instr.slice, hb, hi'.run_sizeOf w, hcl]
      · simp only [relV]
        exact ⟨_, e1, by omega, q, by congr 1; omega, fun hlt => by omega⟩
    · refine ⟨.slice (some ⟨b, q + l * i.size, none⟩) (h - l) (c - p.off - l), ?_, ?_⟩
      · simp [execOp, ho, Instr.sliceAt, q3, run_underlying ht, Instr.slice, hb, hi'.run_sizeOf w, hcl, add_eq]
      · simp only [relV]
        refine ⟨_, e1, by omega, _, by congr 1; omega, fun hlt => ?_⟩
        rw [q4 (by omega), ← hk, Nat.add_mul]

/-- A part with its room told: that the bounds hold. -/
theorem TOp.win3 {t : TypeId} {x l h mx : Operand} (ho : o.op = .slice t x (some l) (some h) (some mx)) {e : Nat} (ht : P.underlying t = some (.slice e)) {i : TI} (hi' : TI.ok P e i) {st0 : Stor} {p : WP} (hp : winP st0 (ρ x) = some p)
    {al ah am : A} (hl : dat (ρ l) = some al) (hh : dat (ρ h) = some ah) (hm : dat (ρ mx) = some am) {ln hn mn : Nat} (b1 : pB 0 (p.xs.length - p.off) (some am) = some mn) (b2 : pB 0 mn (some ah) = some hn) (b3 : pB 0 hn (some al) = some ln) :
    TOp P X o ρ ⟨.top, [.len p.id p.k p.xs.length], []⟩ := by
  refine TOp.same fun w O0 m st ev hs hg hr => ?_
  have hx' := hr x (by simp [ho, Op.operands])
  obtain ⟨hd, xs', e1, e2, e3, e4, e5⟩ := (winP_ok (X := X) hp).2 w O0 m st _ hs (hg _ (List.mem_singleton.2 rfl)) hx'
  have v1 := rel_dat hl (hr l (by simp [ho, Op.operands]))
  have v2 := rel_dat hh (hr h (by simp [ho, Op.operands]))
  have v3 := rel_dat hm (hr mx (by simp [ho, Op.operands]))
  obtain ⟨c1, d1⟩ := pB_some b1
  obtain ⟨c2, d2⟩ := pB_some b2
  obtain ⟨c3, d3⟩ := pB_some b3
  obtain ⟨k1, d1⟩ := d1.resolve_left (fun h => by cases h.1)
  obtain ⟨k2, d2⟩ := d2.resolve_left (fun h => by cases h.1)
  obtain ⟨k3, d3⟩ := d3.resolve_left (fun h => by cases h.1)
  cases d1; cases d2; cases d3
  simp only [rel] at v1 v2 v3
  obtain ⟨a, n, c, hv, hc⟩ : ∃ a n c, ev x = .slice a n c ∧ p.xs.length - p.off ≤ c := by
    cases hd with
    | tre => exact e4.elim
    | mp => exact e4.elim
    | none =>
      simp only [rowOk] at e5
      simp only [winV] at e4
      obtain ⟨q1, q2, a, q3⟩ := e4
      refine ⟨a, 0, 0, q3, ?_⟩
      rw [← e3, e5]; simp
    | blk b c ll =>
      obtain ⟨f1, f2, _⟩ := e5
      simp only [winV] at e4
      obtain ⟨_, q, q3, _⟩ := e4
      exact ⟨_, _, _, q3, by omega⟩
  have hmc : mn ≤ c := by omega
  have hb : (Instr.sliceBounds true n c (some (ev l)) (some (ev h)) (some (ev mx))).run P w = .ok (ln, hn, mn) w := by
    simp [Instr.sliceBounds, Instr.sliceBound, v1, v2, v3, asIntOf, hmc, c2, c3]
  refine ⟨_, by simp [execOp, ho, Instr.sliceAt, hv, run_underlying ht, Instr.slice, hb, hi'.run_sizeOf w]; rfl, by simp [relV]⟩

/-- The place of an element of a part. -/
theorem TOp.winIndex {t : TypeId} {x ix : Operand} (ho : o.op = .indexAddr t x ix) {e : Nat} (ht : P.underlying t = some (.slice e)) {i : TI} (hi : TI.ok P e i) {id off n j : Nat} {b : A} (hx : ρ x = .win id i.size off n) (hn : dat (ρ ix) = some b) (h : pIx n b = some j)
    {xs : List (List A)} : TOp P X o ρ ⟨.rptr id (off + j) i.size 0, [.len id i.size xs.length], []⟩ := by
  refine TOp.same fun w O0 m st ev hs hg hr => ?_
  have hx' := hr x (by simp [ho, Op.operands])
  have hn' := rel_dat hn (hr ix (by simp [ho, Op.operands]))
  rw [hx] at hx'
  obtain ⟨kk, z, rfl, h0, h2, rfl⟩ := pIx_some h
  obtain ⟨xs', g1, g2⟩ := hg _ (List.mem_singleton.2 rfl)
  simp only [relV] at hx'
  obtain ⟨hd, q1, q2⟩ := hx'
  have ho' := hs.obj id
  rw [g1] at ho'
  obtain ⟨hd', e1, e2⟩ := ho'
  rw [q1] at e1
  cases e1
  simp only [rel] at hn'
  cases hd with
  | tre => exact q2.elim
  | mp => exact q2.elim
  | none => simp only [winV] at q2; omega
  | blk bb c l =>
    obtain ⟨rfl, f1, _⟩ := e2
    simp only [winV] at q2
    obtain ⟨r1, q, r2, r3⟩ := q2
    have hqe := r3 (by omega)
    subst hqe
    have hb : 0 ≤ z ∧ z < (n : Int) := ⟨h0, h2⟩
    refine ⟨.pointer (some ⟨bb, off * i.size + z.toNat * i.size, none⟩), ?_, ?_⟩
    · simp only [execOp, ho, Instr.indexAt, r2, hn', asIntOf, Sem.run_bind, Sem.run_pure, Result.andThen_ok, run_underlying ht, hb, and_self, if_true, hi.run_sizeOf w, add_eq, Sem.run_ite]
    · simp only [relV]
      exact ⟨_, bb, q1, rfl, by rw [Nat.add_mul]; simp⟩

theorem zeroCells_list (z : Array Value) : ∀ n, (Builtin.zeroCells z n).toList = (List.replicate n z.toList).flatten
  | 0 => by simp [Builtin.zeroCells]
  | n + 1 => by
    have ih := zeroCells_list z n
    rw [List.replicate_succ, List.flatten_cons, ← ih]
    unfold Builtin.zeroCells
    rw [Array.toList_map, Array.toList_map, Array.toList_range, Array.toList_range, show (n + 1) * z.size = z.size + n * z.size by rw [Nat.add_mul]; omega, List.range_add, List.map_append, List.map_map]
    congr 1
    · refine List.ext_getElem? fun j => ?_
      rw [List.getElem?_map]
      by_cases h : j < z.size
      · rw [List.getElem?_range h]
        simp [Nat.mod_eq_of_lt h, h]
      · rw [List.getElem?_eq_none (by simpa using h), List.getElem?_eq_none (by simpa using h)]; rfl
    · refine List.map_congr_left fun j _ => ?_
      simp

theorem upd_rowobj {st : Stor} {id : Nat} {o' : Obj} : apps st [.obj id o'] = upd st id o' := rfl
theorem upd_same {st : Stor} {id : Nat} {o' : Obj} (h : st id = o') : upd st id o' = st := by
  funext q
  by_cases e : q = id
  · subst e; rw [upd_self, h]
  · rw [upd_ne _ _ e]

/-- A part is cleared. -/
theorem TOp.winClear {x : Operand} {xs0 : Array Operand} {ts : Array TypeId} {t : TypeId} (ho : o.op = .call { callee := .builtin .clear, args := xs0, argTypes := ts }) (hxs : xs0 = #[x]) (hts : ts = #[t])
    {e : Nat} (ht : P.underlying t = some (.slice e)) {i : TI} (hi : TI.ok P e i) {st0 : Stor} {p : WP} (hp : winP st0 (ρ x) = some p) (hk : p.k = i.size) {z : List A} (hz : ∀ (w : World) (O : Nat → Prop), relL w O z i.zero.cells.toList) (hzo : z.all okA = true) :
    TOp P X o ρ ⟨.tup [], [.obj p.id (.row p.k p.xs)], [.obj p.id (.row p.k (rOver p.xs p.off (List.replicate p.n z)))]⟩ := by
  intro w O0 m st ev hs hg hr _hc
  have hx' := hr x (by simp [ho, Op.operands, Call.operands, hxs])
  have hid : st p.id = .row p.k p.xs := hg _ (List.mem_singleton.2 rfl)
  obtain ⟨hd, xs', e1, e2, e3, e4, e5⟩ := (winP_ok (X := X) hp).2 w O0 m st _ hs ⟨p.xs, hid, rfl⟩ hx'
  rw [hid] at e2
  cases e2
  obtain ⟨jj, hj, j1, j2, j3⟩ := hi.some_info
  have hrun : ∀ v' w', (Builtin.clear_ ts o.type #[ev x]).run P w = .ok v' w' → (execOp ev o).run P w = .ok (.value v') w' := by
    intro v' w' h
    subst hxs
    simp [execOp, ho, resolve, invoke, builtin, h]
  have hnil : p.n = 0 → (Builtin.clear_ ts o.type #[ev x]).run P w = .ok (.tuple #[]) w ∧ apps st [.obj p.id (.row p.k (rOver p.xs p.off (List.replicate p.n z)))] = st := by
    intro h0
    constructor
    · subst hts
      cases hd with
      | tre => exact e4.elim
      | mp => exact e4.elim
      | none => simp only [winV] at e4; obtain ⟨_, _, a, q3⟩ := e4; cases a <;> simp [Builtin.clear_, run_underlying ht, q3]
      | blk b c l => simp only [winV] at e4; obtain ⟨_, q, q3, _⟩ := e4; simp [Builtin.clear_, run_underlying ht, q3, h0]
    · rw [h0, upd_rowobj]
      exact upd_same (by rw [hid]; simp [rOver, over])
  by_cases h0 : p.n = 0
  · obtain ⟨a1, a2⟩ := hnil h0
    rw [hrun _ _ a1]
    refine ⟨m, ?_, ?_, ?_⟩
    · rw [a2]; exact Chg.refl _ _ _
    · rw [a2]; exact hs
    · simp only [relV]; exact ⟨[], rfl, by simp [relVL]⟩
  · cases hd with
    | tre => exact e4.elim
    | mp => exact e4.elim
    | none => simp only [winV] at e4; omega
    | blk b c l =>
      have e5' := e5
      obtain ⟨rfl, f1, f2, f3, _⟩ := e5
      simp only [winV] at e4
      obtain ⟨q1, q, q3, q4⟩ := e4
      have hqe := q4 (by omega)
      subst hqe
      have hzl : z.length = i.size := by rw [← relL_length (hz w (Ow O0 m st))]; simpa using hi.zsize
      have hrep : ∀ n, relL w (Ow O0 m st) (List.replicate n z).flatten (List.replicate n i.zero.cells.toList).flatten := by
        intro n
        induction n with
        | zero => simp [relL]
        | succ n ih => rw [List.replicate_succ, List.replicate_succ, List.flatten_cons, List.flatten_cons]; exact relL_append (hz _ _) ih
      have hcells : (Builtin.zeroCells i.zero.cells p.n).toList = (List.replicate p.n i.zero.cells.toList).flatten := by
        exact zeroCells_list _ _
      have hone : OneCells (List.replicate p.n i.zero.cells.toList).flatten := by
        have h1 : ∀ {as : List A} {us : List Value}, relL w (Ow O0 m st) as us → as.all okA = true → OneCells us := by
          intro as
          induction as with
          | nil => intro us h _; simp only [relL] at h; subst h; intro v hv; cases hv
          | cons a as ih =>
            intro us h hk
            simp only [relL, List.all_cons, Bool.and_eq_true] at h hk
            obtain ⟨v, t, rfl, g1, g2⟩ := h
            intro y hy
            rcases List.mem_cons.1 hy with rfl | hy
            · exact rel_okA g1 hk.1
            · exact ih g2 hk.2 y hy
        intro v hv
        obtain ⟨l, hl, hv⟩ := List.mem_flatten.1 hv
        rw [List.eq_of_mem_replicate hl] at hv
        exact h1 (hz w (Ow O0 m st)) hzo v hv
      obtain ⟨W, hst, k1, k2⟩ := row_put P hs hid e1 (ys := List.replicate p.n z) (hrep p.n) hone (fun y hy => by rw [List.eq_of_mem_replicate hy, hzl, hk]) (off := p.off) (by simpa using q1)
      have hcl : (Builtin.clear_ ts o.type #[ev x]).run P w = .ok (.tuple #[]) W := by
        subst hts
        have hst' : (storeCells ⟨b, p.off * p.k, none⟩ (Builtin.zeroCells i.zero.cells p.n).toList).run P w = .ok () W := by rw [hcells]; exact hst
        simp [Builtin.clear_, run_underlying ht, q3, zeroValue, typeInfo, hj, j3, hst']
      rw [hrun _ _ hcl]
      exact ⟨m, k1, k2, by simp only [relV]; exact ⟨[], rfl, by simp [relVL]⟩⟩

theorem TOp.nilEq {op : BinOp} {t u : TypeId} {x y : Operand} (ho : o.op = .binOp op t x y u) (hop : isEq op = true) (hy : isNilC y = true) {e : Nat} (ht : P.underlying t = some (.slice e)) {rds : List Rd} {N : Nat}
    (hv : ∀ (w : World) (O0 : Nat → Prop) (m : Asg) (st : Stor) (v : Value), Sto X w O0 m st → (∀ r ∈ rds, agr st r) → relV w (Ow O0 m st) m (ρ x) v → ∃ a n c, v = .slice a n c ∧ (N ≠ 0 → a.isNone = false)) : TOp P X o ρ ⟨.ub N (isNeq op), rds, []⟩ := by
  refine TOp.sameC fun w O0 m st ev hs hg hr hc => ?_
  obtain ⟨a, n, c, hx, hN⟩ := hv w O0 m st _ hs hg (hr x (by simp [ho, Op.operands]))
  have hy' : ev y = .slice none 0 0 := by
    unfold isNilC at hy
    split at hy
    · exact hc _
    · cases hy
  have hd : ∀ (d : Nat) (w : World), (Op.equalIn (d + 1) t (.slice a n c) (.slice none 0 0)).run P w = .ok a.isNone w := by
    intro d w
    cases a <;> simp [Op.equalIn, run_underlying ht]
  have he := hd 9999
  cases op <;> simp only [isEq, Bool.false_eq_true] at hop
  · refine ⟨.bool a.isNone, ?_, by simp only [relV, isNeq]; exact ⟨a.isNone, by simp, hN⟩⟩
    simp only [execOp, ho, hx, hy', eqGuard, binOp, Op.equal, Op.maxDepth]
    simp [he]
  · refine ⟨.bool !a.isNone, ?_, by simp only [relV, isNeq]; exact ⟨a.isNone, by simp, hN⟩⟩
    simp only [execOp, ho, hx, hy', eqGuard, binOp, Op.equal, Op.maxDepth]
    simp [he]

/-- A part of an empty slice without room. -/
theorem TOp.sliceNil {t : TypeId} {x : Operand} {lo hi : Option Operand} (ho : o.op = .slice t x lo hi none) {e : Nat} (ht : P.underlying t = some (.slice e)) {i : TI} (hi' : TI.ok P e i) {k : Nat} (hx : ρ x = .nil k)
    {alo ahi : Option A} (hlo : ∀ y, lo = some y → ∃ a, alo = some a ∧ dat (ρ y) = some a) (hlo0 : lo = none → alo = none) (hhi : ∀ y, hi = some y → ∃ a, ahi = some a ∧ dat (ρ y) = some a) (hhi0 : hi = none → ahi = none)
    {l h : Nat} (hh : pB 0 0 ahi = some h) (hl : pB 0 h alo = some l) : TOp P X o ρ ⟨.nil i.size, [], []⟩ := by
  refine TOp.same fun w O0 m st ev hs hg hr => ?_
  have hx' := hr x (by simp [ho, Op.operands])
  rw [hx] at hx'
  simp only [relV] at hx' ⊢
  obtain ⟨a, q3⟩ := hx'
  have hlo' : ∀ y, lo = some y → ∃ a, alo = some a ∧ rel w (Ow O0 m st) a (ev y) := fun y hy => by
    obtain ⟨a, f1, f2⟩ := hlo y hy
    exact ⟨a, f1, rel_dat f2 (hr y (by simp [ho, Op.operands, hy]))⟩
  have hhi'' : ∀ y, hi = some y → ∃ a, ahi = some a ∧ rel w (Ow O0 m st) a (ev y) := fun y hy => by
    obtain ⟨a, f1, f2⟩ := hhi y hy
    exact ⟨a, f1, rel_dat f2 (hr y (by simp [ho, Op.operands, hy]))⟩
  obtain ⟨b1, _⟩ := pB_some hh
  obtain ⟨b2, _⟩ := pB_some hl
  have hh0 : h = 0 := by omega
  subst hh0
  have hl0 : l = 0 := by omega
  subst hl0
  have hb := run_boundsC (P := P) (w := w) (ev := ev) (cap := 0) hlo' hlo0 hhi'' hhi0 hh hl (by omega)
  exact ⟨.slice a 0 0, by simp [execOp, ho, Instr.sliceAt, q3, run_underlying ht, Instr.slice, hb, hi'.run_sizeOf w], a, rfl⟩

/-- append of zero values to an empty slice without room: a new row. -/
theorem TOp.appendZ {s x : Operand} {xs : Array Operand} {ts : Array TypeId} {t t' : TypeId} (ho : o.op = .call { callee := .builtin .append, args := xs, argTypes := ts }) (hxs : xs = #[s, x]) (hts : ts = #[t, t'])
    {e : Nat} (ht : P.underlying t = some (.slice e)) {k : IntKind} (ht' : P.underlying t' = some (.int k)) {i : TI} (hi : TI.ok P e i) {k0 : Nat} (hs : ρ s = .nil k0) {kl : IntKind} {n : Int} (hx : dat (ρ x) = some (.val (.int kl n))) {nid : Nat}
    (h0 : 0 ≤ n) (hfit : n.toNat * i.bytes ≤ 140737488355328) (h63 : n.toNat ≤ 9223372036854775807) {z : List A} (hz : ∀ w O, relL w O z i.zero.cells.toList) (hone : OneCells i.zero.cells.toList) :
    TOp P X o ρ ⟨.row nid, [.fresh nid], [.obj nid (.row i.size (List.replicate n.toNat z))]⟩ := by
  intro w O0 m st ev hst hg hr _hc
  have hs' := hr s (by simp [ho, Op.operands, Call.operands, hxs])
  have hx' := rel_dat hx (hr x (by simp [ho, Op.operands, Call.operands, hxs]))
  rw [hs] at hs'
  simp only [relV] at hs'
  simp only [rel] at hx'
  obtain ⟨a, hs'⟩ := hs'
  obtain ⟨jj, hj, j1, j2, j3⟩ := hi.some_info
  have hf : st nid = .dead := hg (.fresh nid) (by simp)
  obtain ⟨N, rfl⟩ := Int.eq_ofNat_of_zero_le h0
  simp only [Int.toNat_natCast] at hfit h63 ⊢
  have hw : IntKind.i64.wrap (N : Int) = N := wrap_I64 ⟨by omega, by omega⟩
  have hbig : ¬ (281474976710656 < (N : Int) * (jj.bytes : Int)) := by
    rw [j2]
    have : ((N * i.bytes : Nat) : Int) ≤ ((140737488355328 : Nat) : Int) := Int.ofNat_le.2 hfit
    rw [Int.natCast_mul] at this
    generalize (N : Int) * (i.bytes : Int) = q at this ⊢
    omega
  have hzlen : i.zero.cells.toList.length = i.size := by simpa using hi.zsize
  have hzl : z.length = i.size := by rw [← relL_length (hz w (Ow O0 m st))]; exact hzlen
  by_cases hN : N = 0
  · subst hN
    have hrun : (execOp ev o).run P w = .ok (.value (.slice a 0 0)) w := by
      refine append_run (P := P) (ev := ev) ho hxs ?_
      rw [hts, hs', hx']
      have hw0 : IntKind.i64.wrap 0 = 0 := hw
      cases a <;> simp [Builtin.append_, run_underlying ht, run_underlying ht', sizeOf, typeInfo, hj, asInt, asIntOf, hw0, storeCells]
    rw [hrun]
    exact post_newrow hst (Below.refl _ _) hf (hd := .none) ⟨a, rfl⟩ (Or.inl ⟨rfl, rfl⟩)
  · have hpos : 0 < N := Nat.pos_of_ne_zero hN
    have hgc := grownCap_ge w N 0 e
    have hgm := grownCap_le_maxLen w N 0 e (by simpa [maxLen] using h63)
    have n1 : ¬ (N ≤ 0) := by omega
    have n3 : ¬ (281474976710656 < Builtin.nextslicecap N 0 * jj.bytes) := by
      have := growslice_fits (bytes := i.bytes) hpos hfit
      rw [j2]; omega
    have hlist : (Builtin.zeroCells i.zero.cells N ++ Builtin.zeroCells i.zero.cells (grownCap w N 0 e - N)).toList.take (N * i.size) = (List.replicate N i.zero.cells.toList).flatten := by
      have hl : (List.replicate N i.zero.cells.toList).flatten.length = N * i.size := by
        rw [len_flat (k := i.size) fun y hy => by rw [List.eq_of_mem_replicate hy, hzlen], List.length_replicate]
      rw [Array.toList_append, zeroCells_list, List.take_append_of_le_length (by rw [hl]; exact Nat.le_refl _), List.take_of_length_le (by rw [hl]; exact Nat.le_refl _)]
    have hrep : ∀ N, relL w (Ow O0 m st) (List.replicate N z).flatten (List.replicate N i.zero.cells.toList).flatten := by
      intro N
      induction N with
      | zero => simp [relL]
      | succ N ih => rw [List.replicate_succ, List.replicate_succ, List.flatten_cons, List.flatten_cons]; exact relL_append (hz _ _) ih
    have hones : OneCells (List.replicate N i.zero.cells.toList).flatten := by
      intro v hv
      obtain ⟨l, hl, hv⟩ := List.mem_flatten.1 hv
      rw [List.eq_of_mem_replicate hl] at hv
      exact hone v hv
    have hrun : (execOp ev o).run P w = .ok (.value (.slice (some ⟨w.heap.size, 0, none⟩) N (grownCap w N 0 e))) (w.drew.alloc (.cells (Builtin.zeroCells i.zero.cells N ++ Builtin.zeroCells i.zero.cells (grownCap w N 0 e - N)) e)) := by
      refine append_run (P := P) (ev := ev) ho hxs ?_
      rw [hts, hs', hx']
      have hold : (Builtin.firstCells jj.size 0 (.slice a 0 0)).run P w.drew = .ok #[] w.drew := by
        cases a <;> simp [Builtin.firstCells, loadCells, loadCellsFrom]
      have n2 : ¬ (9223372036854775807 < (N : Int)) := by omega
      have nneg : ¬ ((N : Int) < 0) := by omega
      simp [Builtin.append_, run_underlying ht, run_underlying ht', sizeOf, typeInfo, zeroValue, hj, j3, asInt, asIntOf, hw, n1, n2, n3, nneg, hbig, Question.forced, hold, newRow, grownCap]
      rw [if_neg hN]
      by_cases hz0 : N * jj.size = 0
      · have e0 : Builtin.zeroCells i.zero.cells N = #[] := by
          apply Array.ext'
          rw [Builtin.zeroCells, Array.toList_map, hi.zsize, ← j1, hz0]
          rfl
        rw [if_pos hz0, e0]
        simp
      · rw [if_neg hz0]
    rw [hrun]
    refine post_newrow hst (w' := w.drew.alloc _) (((Below.refl _ w).drew).alloc (by simp) _) hf (hd := .blk w.heap.size (grownCap w N 0 e) (List.replicate N z).length) (by simp [hdr]) (Or.inr ⟨grownCap w N 0 e, _, e, rfl, ?_, by simpa using hgc, by simpa [maxLen] using hgm, fun y hy => by rw [List.eq_of_mem_replicate hy, hzl], heap_alloc_new w.drew _, ?_, ?_, ?_⟩)
    · show w.heap.size < (w.drew.alloc _).heap.size
      rw [size_alloc']; simp
    · simp only [Array.size_append, Builtin.zeroCells, Array.size_map, Array.size_range, hi.zsize]
      rw [← Nat.add_mul]
      congr 1
      omega
    · rw [List.length_replicate, hlist]; exact hones
    · rw [List.length_replicate, hlist]; exact hrep N

/-- append to a part, in place. -/
theorem TOp.winAppend {s x : Operand} {xs0 : Array Operand} {ts : Array TypeId} {t : TypeId} (ho : o.op = .call { callee := .builtin .append, args := xs0, argTypes := ts }) (hxs : xs0 = #[s, x]) (hts : ts = #[t, t])
    {e : Nat} (ht : P.underlying t = some (.slice e)) {i : TI} (hi : TI.ok P e i) {st0 : Stor} {p : WP} (hp : winP st0 (ρ s) = some p) (hk : p.k = i.size) {ys : List (List A)} {rds : List Rd}
    (hx : ∀ (w : World) (O0 : Nat → Prop) (m : Asg) (st : Stor) (u : Value), Sto X w O0 m st → (∀ r ∈ rds, agr st r) → relV w (Ow O0 m st) m (ρ x) u → SrcOk w (Ow O0 m st) i.size ys u)
    (hfit : p.off + p.n + ys.length ≤ p.xs.length) :
    TOp P X o ρ ⟨.win p.id p.k p.off (p.n + ys.length), .obj p.id (.row p.k p.xs) :: rds, [.obj p.id (.row p.k (rOver p.xs (p.off + p.n) ys))]⟩ := by
  intro w O0 m st ev hs hg hr _hc
  have hs' := hr s (by simp [ho, Op.operands, Call.operands, hxs])
  have hsrc := hx w O0 m st _ hs (fun r h => hg r (by simp [h])) (hr x (by simp [ho, Op.operands, Call.operands, hxs]))
  have hid : st p.id = .row p.k p.xs := hg (.obj p.id (.row p.k p.xs)) (by simp)
  obtain ⟨hd, xs', e1, e2, e3, e4, e5⟩ := (winP_ok (X := X) hp).2 w O0 m st _ hs ⟨p.xs, hid, rfl⟩ hs'
  rw [hid] at e2
  cases e2
  obtain ⟨jj, hj, j1, j2, j3⟩ := hi.some_info
  obtain ⟨ad, c2, news, hv, hnews, hok', hyk, hsrc⟩ := hsrc
  have hnl : news.length = ys.length * i.size := by rw [relL_length hnews, len_flat hyk]
  have same : ys = [] → apps st [.obj p.id (.row p.k (rOver p.xs (p.off + p.n) ys))] = st := by
    rintro rfl
    rw [upd_rowobj]
    exact upd_same (by rw [hid]; simp [rOver, over])
  cases hd with
  | tre => exact e4.elim
  | mp => exact e4.elim
  | none =>
    simp only [rowOk] at e5
    simp only [winV] at e4
    obtain ⟨q1, q2, a, q3⟩ := e4
    have hy0 : ys = [] := by
      have hl : p.xs.length = 0 := by rw [e5]; rfl
      have : ys.length = 0 := by omega
      exact List.eq_nil_of_length_eq_zero this
    have hrun : (execOp ev o).run P w = .ok (.value (.slice a 0 0)) w := by
      refine append_run (P := P) (ev := ev) ho hxs ?_
      rw [hts, q3, hv, hy0]
      have hf : (Builtin.firstCells i.size 0 (.slice ad 0 c2)).run P w = .ok #[] w := by
        cases ad <;> simp [Builtin.firstCells, loadCells, loadCellsFrom]
      cases a <;> simp [Builtin.append_, run_underlying ht, sizeOf, typeInfo, hj, j1, Builtin.lenOf, hf, storeCells]
    rw [hrun]
    refine ⟨m, ?_, ?_, ?_⟩
    · rw [same hy0]; exact Chg.refl _ _ _
    · rw [same hy0]; exact hs
    · simp only [relV]
      exact ⟨_, e1, q1, by rw [q2, hy0]; rfl, a, rfl⟩
  | blk b c l =>
    have e5' := e5
    obtain ⟨rfl, f1, f2, f3, _⟩ := e5
    simp only [winV] at e4
    obtain ⟨q1, q, q3, q4⟩ := e4
    have hroom : p.n + ys.length ≤ c - p.off := by omega
    by_cases hy0 : ys = []
    · subst hy0
      have hf : (Builtin.firstCells i.size 0 (.slice ad 0 c2)).run P w = .ok #[] w := by
        cases ad <;> simp [Builtin.firstCells, loadCells, loadCellsFrom]
      have hrun : (execOp ev o).run P w = .ok (.value (.slice (some ⟨b, q, none⟩) p.n (c - p.off))) w := by
        refine append_run (P := P) (ev := ev) ho hxs ?_
        rw [hts, q3, hv]
        have hr' : p.n ≤ c - p.off := by omega
        simp [Builtin.append_, run_underlying ht, sizeOf, typeInfo, hj, j1, Builtin.lenOf, hf, storeCells, hr']
      rw [hrun]
      refine ⟨m, ?_, ?_, ?_⟩
      · rw [same rfl]; exact Chg.refl _ _ _
      · rw [same rfl]; exact hs
      · simp only [relV, List.length_nil, Nat.add_zero]
        exact ⟨_, e1, q1, q, rfl, q4⟩
    · have hypos : 0 < ys.length := List.length_pos_iff.2 hy0
      have hqe := q4 (by omega)
      subst hqe
      obtain ⟨b2, off2, hb2, hreads⟩ := hsrc.resolve_left hy0
      subst hb2
      have hn1 : ∀ jj u, news[jj]? = some u → w.cell? ((⟨b2, off2, none⟩ : Addr).add jj) = some u := fun jj u hu => by rw [add_eq]; exact hreads jj u hu
      have hf := run_firstCells_some (P := P) w i.size ys.length ⟨b2, off2, none⟩ ys.length c2 news hnl hn1
      obtain ⟨W, hst, k1, k2⟩ := row_put P hs hid e1 (ys := ys) hnews hok' (fun y hy => by rw [hyk y hy, hk]) (off := p.off + p.n) hfit
      have hrun : (execOp ev o).run P w = .ok (.value (.slice (some ⟨b, p.off * p.k, none⟩) (p.n + ys.length) (c - p.off))) W := by
        refine append_run (P := P) (ev := ev) ho hxs ?_
        rw [hts, q3, hv]
        have hf' : (Builtin.firstCells jj.size ys.length (.slice (some ⟨b2, off2, none⟩) ys.length c2)).run P w = .ok news.toArray w := by rw [j1]; exact hf
        have hst' : (storeCells ((⟨b, p.off * p.k, none⟩ : Addr).add (p.n * jj.size)) news).run P w = .ok () W := by
          rw [add_eq, j1, ← hk, ← Nat.add_mul]; exact hst
        simp [Builtin.append_, run_underlying ht, sizeOf, typeInfo, hj, Builtin.lenOf, hroom, hf', hst']
      rw [hrun]
      refine ⟨m, k1, k2, ?_⟩
      simp only [relV]
      exact ⟨_, e1, by omega, _, rfl, fun _ => rfl⟩

/-- copy into a part. -/
theorem TOp.winCopy {s x : Operand} {xs0 : Array Operand} {ts : Array TypeId} {t t' : TypeId} (ho : o.op = .call { callee := .builtin .copy, args := xs0, argTypes := ts }) (hxs : xs0 = #[s, x]) (hts : ts = #[t, t'])
    {e : Nat} (ht : P.underlying t = some (.slice e)) {i : TI} (hi : TI.ok P e i) {st0 : Stor} {p : WP} (hp : winP st0 (ρ s) = some p) (hk : p.k = i.size) {ys : List (List A)} {rds : List Rd}
    (hx : ∀ (w : World) (O0 : Nat → Prop) (m : Asg) (st : Stor) (u : Value), Sto X w O0 m st → (∀ r ∈ rds, agr st r) → relV w (Ow O0 m st) m (ρ x) u → SrcOk w (Ow O0 m st) i.size ys u) :
    TOp P X o ρ ⟨.d (vi (Nat.min ys.length p.n)), .obj p.id (.row p.k p.xs) :: rds, [.obj p.id (.row p.k (rOver p.xs p.off (ys.take p.n)))]⟩ := by
  intro w O0 m st ev hs hg hr _hc
  have hs' := hr s (by simp [ho, Op.operands, Call.operands, hxs])
  have hsrc := hx w O0 m st _ hs (fun r h => hg r (by simp [h])) (hr x (by simp [ho, Op.operands, Call.operands, hxs]))
  have hid : st p.id = .row p.k p.xs := hg (.obj p.id (.row p.k p.xs)) (by simp)
  obtain ⟨hd, xs', e1, e2, e3, e4, e5⟩ := (winP_ok (X := X) hp).2 w O0 m st _ hs ⟨p.xs, hid, rfl⟩ hs'
  rw [hid] at e2
  cases e2
  obtain ⟨jj, hj, j1, j2, j3⟩ := hi.some_info
  obtain ⟨ad, c2, news, hv, hnews, hok', hyk, hsrc⟩ := hsrc
  have hnl : news.length = ys.length * i.size := by rw [relL_length hnews, len_flat hyk]
  have hcopy : ∀ w', (Builtin.copy_ ts o.type #[ev s, ev x]).run P w = .ok (goInt (Nat.min ys.length p.n)) w' → (execOp ev o).run P w = .ok (.value (.int .i64 (Nat.min ys.length p.n : Nat))) w' := by
    intro w' h
    subst hxs
    simp [execOp, ho, resolve, invoke, builtin, h, goInt]
  have same : (ys.take p.n) = [] → apps st [.obj p.id (.row p.k (rOver p.xs p.off (ys.take p.n)))] = st := by
    intro h0
    rw [h0, upd_rowobj]
    exact upd_same (by rw [hid]; simp [rOver, over])
  have hsame : Nat.min ys.length p.n = 0 → (ys.take p.n) = [] := fun h => by
    apply List.eq_nil_of_length_eq_zero
    rw [List.length_take, Nat.min_comm]; exact h
  have hwv : ∃ a cc, ev s = .slice a p.n cc ∧ (p.n = 0 ∨ ∃ b c l, hd = .blk b c l ∧ a = some ⟨b, p.off * p.k, none⟩ ∧ p.off + p.n ≤ p.xs.length) := by
    cases hd with
    | tre => exact e4.elim
    | mp => exact e4.elim
    | none => simp only [winV] at e4; obtain ⟨_, h2, a, h3⟩ := e4; exact ⟨a, 0, by rw [h2]; exact h3, Or.inl h2⟩
    | blk b c l =>
      obtain ⟨rfl, f1, _⟩ := e5
      simp only [winV] at e4
      obtain ⟨q1, q, q3, q4⟩ := e4
      refine ⟨_, _, q3, ?_⟩
      by_cases h0 : p.n = 0
      · exact Or.inl h0
      · exact Or.inr ⟨b, c, _, rfl, by rw [q4 (by omega)], q1⟩
  obtain ⟨a, cc, q3, q4⟩ := hwv
  by_cases h0 : Nat.min ys.length p.n = 0
  · have hf : (Builtin.firstCells i.size 0 (.slice ad ys.length c2)).run P w = .ok #[] w := by
      cases ad <;> simp [Builtin.firstCells, loadCells, loadCellsFrom]
    have hrun := hcopy w (by
      rw [hts, q3, hv, h0]
      have h0' : min ys.length p.n = 0 := h0
      cases a <;> simp [Builtin.copy_, run_underlying ht, sizeOf, typeInfo, hj, j1, Builtin.lenOf, h0, h0', hf, storeCells])
    rw [hrun, h0]
    refine ⟨m, ?_, ?_, by simp [relV, rel]⟩
    · rw [same (hsame h0)]; exact Chg.refl _ _ _
    · rw [same (hsame h0)]; exact hs
  · have hyne : ys ≠ [] := fun e => h0 (by subst e; simp)
    have hn0 : p.n ≠ 0 := fun e => h0 (by rw [e]; simp)
    obtain ⟨b, c, l, rfl, rfl, q1⟩ := q4.resolve_left hn0
    obtain ⟨b2, off2, hb2, hreads⟩ := hsrc.resolve_left hyne
    subst hb2
    have hml : (ys.take p.n).length = Nat.min ys.length p.n := by rw [List.length_take, Nat.min_comm]
    have hle : Nat.min ys.length p.n ≤ ys.length := Nat.min_le_left _ _
    have hnews2 : relL w (Ow O0 m st) (ys.take p.n).flatten (news.take (p.n * i.size)) := by
      rw [flatten_take ys p.n hyk]; exact relL_take _ hnews
    have hnl2 : (news.take (p.n * i.size)).length = Nat.min ys.length p.n * i.size := by
      rw [relL_length hnews2, len_flat (fun y hy => hyk y (List.mem_of_mem_take hy)), hml]
    have hn1 : ∀ jj u, (news.take (p.n * i.size))[jj]? = some u → w.cell? ((⟨b2, off2, none⟩ : Addr).add jj) = some u := fun jj u hu => by rw [add_eq]; exact (hreads.take _) jj u hu
    have hf := run_firstCells_some (P := P) w i.size (Nat.min ys.length p.n) ⟨b2, off2, none⟩ ys.length c2 _ hnl2 hn1
    obtain ⟨W, hst, k1, k2⟩ := row_put P hs hid e1 (ys := ys.take p.n) hnews2 (hok'.take _) (fun y hy => by rw [hyk y (List.mem_of_mem_take hy), hk]) (off := p.off) (by rw [hml]; have : Nat.min ys.length p.n ≤ p.n := Nat.min_le_right ys.length p.n; omega)
    have hrun := hcopy W (by
      rw [hts, q3, hv]
      have hf' : (Builtin.firstCells jj.size (Nat.min ys.length p.n) (.slice (some ⟨b2, off2, none⟩) ys.length c2)).run P w = .ok (news.take (p.n * i.size)).toArray w := by rw [j1]; exact hf
      simp [Builtin.copy_, run_underlying ht, sizeOf, typeInfo, hj, Builtin.lenOf, hf', hst])
    rw [hrun]
    exact ⟨m, k1, k2, by simp [relV, rel]⟩
end
end
end Go.Proofs.YtnbjmmldjggkfaaGreat.Abs
