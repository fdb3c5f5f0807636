/- New variables and stores. -/
import Derived.Test.YtgedhnhgkmhgcaaAb7
namespace Go.Proofs.Ytgedhnhgkmhgcaa.Abs
open Go Go.RowKit

section
variable {P : Program} {o : Oper} {ρ : Operand → A} {bx bx' : List (List A)} {rw rw' : List (Nat × List (List A))}

theorem rel_cellsOf {w : World} {O : Nat → Prop} {m : M} {ls : List Nat} {a : A} {v : Value} (h : rel w O m ls a v) {cs : List A} (hc : cellsOf? a = some cs) : relL w O m ls cs v.cells.toList := by
  cases a with
  | agg ds =>
    simp only [cellsOf?, Option.some.injEq] at hc
    subst hc
    simp only [rel] at h
    obtain ⟨vs, rfl, h2⟩ := h
    simpa [Value.cells] using h2
  | _ =>
    simp only [cellsOf?, Option.ite_none_right_eq_some, Option.some.injEq] at hc
    obtain ⟨hk, rfl⟩ := hc
    rw [cells_one (rel_okCell h hk)]
    simp only [relL]
    exact ⟨_, [], rfl, h, rfl⟩

theorem r_box {t : TypeId} {x : Operand} (ho : o.op = .box t x) {cs : List A} (hc : cellsOf? (ρ x) = some cs) : ROp P o ρ bx rw (.ptr bx.length 0) (bx ++ [cs]) rw := by
  intro w O0 m ev hs hr
  have hx := hr x (by simp [ho, Op.operands])
  have h1 := rel_cellsOf hx hc
  refine ⟨.pointer (some ⟨w.heap.size, 0, none⟩), w.alloc (.cells (ev x).cells t), ⟨m.bx ++ [w.heap.size], m.rw⟩, Or.inl ?_, era_addBx (below_alloc w _), ?_, ?_⟩
  · simp [execOp, ho, Instr.box, newVar, newRow]
  · exact store_addBx hs (below_alloc w _) (by rw [size_alloc']; omega) (heap_alloc_new w _) h1
  · simp only [rel]
    exact ⟨w.heap.size, by rw [← hs.bxl]; simp, rfl⟩

theorem relL_lift {w : World} {O : Nat → Prop} {m : M} {ls : List Nat} : ∀ vs : List Value, relL w O m ls (vs.map liftV) vs
  | [] => by simp [relL]
  | v :: vs => by simp only [List.map_cons, relL]; exact ⟨v, vs, rfl, rel_lift v, relL_lift vs⟩

theorem r_alloc {t : TypeId} (ho : o.op = .alloc t) {i : TI} (hi : TI.ok P t i) : ROp P o ρ bx rw (.ptr bx.length 0) (bx ++ [i.zero.cells.toList.map liftV]) rw := by
  intro w O0 m ev hs hr
  refine ⟨.pointer (some ⟨w.heap.size, 0, none⟩), w.alloc (.cells i.zero.cells t), ⟨m.bx ++ [w.heap.size], m.rw⟩, Or.inl ?_, era_addBx (below_alloc w _), ?_, ?_⟩
  · simp [execOp, ho, Instr.alloc, hi.run_zero w, newVar, newRow]
  · exact store_addBx hs (below_alloc w _) (by rw [size_alloc']; omega) (heap_alloc_new w _) (relL_lift _)
  · simp only [rel]
    exact ⟨w.heap.size, by rw [← hs.bxl]; simp, rfl⟩

/-- Cells put over others. -/
def overA (cs : List A) (off : Nat) (ds : List A) : List A := cs.take off ++ ds ++ cs.drop (off + ds.length)

theorem mono_same {w w' : World} {O0 : Nat → Prop} {m : M} {ls : List Nat} {b : Nat} (hb : b ∈ m.blocks) (hsz : w'.heap.size = w.heap.size) (hk : ∀ b', b' ≠ b → w'.heap[b']? = w.heap[b']?) :
    Mono w (Ow O0 m) m ls w' (Ow O0 m) m ls where
  size := by omega
  keep := fun b' _ hn => hk b' fun e => hn (Or.inr (e ▸ hb))
  own := fun _ _ hn => hn
  bx := fun _ _ h => h
  rw := fun _ l h => ⟨l, h, Nat.le_refl _, fun _ => rfl⟩

theorem nodup_bx {m : M} (h : m.blocks.Nodup) {i j b : Nat} (hi : m.bx[i]? = some b) (hj : m.bx[j]? = some b) : i = j := by
  have hn := (List.nodup_append.1 h).1
  have h1 := (List.getElem?_eq_some_iff.1 hi).1
  exact (List.getElem?_inj h1 hn).1 (by rw [hi, hj])

theorem nodup_bx_rw {m : M} (h : m.blocks.Nodup) {i j b cap : Nat} (hi : m.bx[i]? = some b) (hj : m.rw[j]? = some (some (b, cap))) : False :=
  (List.nodup_append.1 h).2.2 b (List.mem_of_getElem? hi) b (List.mem_filterMap.2 ⟨some (b, cap), List.mem_of_getElem? hj, rfl⟩) rfl

theorem nodup_rw {m : M} (h : m.blocks.Nodup) {i j b c c' : Nat} (hi : m.rw[i]? = some (some (b, c))) (hj : m.rw[j]? = some (some (b, c'))) : i = j := by
  have hn := (List.nodup_append.1 h).2.1
  have key : ∀ (l : List (Option (Nat × Nat))) (i j : Nat), (l.filterMap fun h => h.map Prod.fst).Nodup → l[i]? = some (some (b, c)) → l[j]? = some (some (b, c')) → i = j := by
    intro l
    induction l with
    | nil => intro i j _ hi; simp at hi
    | cons x l ih =>
      intro i j hn hi hj
      cases i with
      | zero =>
        simp at hi; subst hi
        cases j with
        | zero => rfl
        | succ j =>
          simp at hj
          simp only [List.filterMap_cons, Option.map_some, List.nodup_cons] at hn
          exact (hn.1 (List.mem_filterMap.2 ⟨some (b, c'), List.mem_of_getElem? hj, rfl⟩)).elim
      | succ i =>
        simp at hi
        cases j with
        | zero =>
          simp at hj; subst hj
          simp only [List.filterMap_cons, Option.map_some, List.nodup_cons] at hn
          exact (hn.1 (List.mem_filterMap.2 ⟨some (b, c), List.mem_of_getElem? hi, rfl⟩)).elim
        | succ j =>
          simp at hj
          have : (l.filterMap fun h => h.map Prod.fst).Nodup := by
            cases x with
            | none => simpa using hn
            | some y => simp only [List.filterMap_cons, Option.map_some, List.nodup_cons] at hn; exact hn.2
          rw [ih i j this hi hj]
  exact key m.rw i j hn hi hj

theorem relL_over {w : World} {O : Nat → Prop} {m : M} {ls : List Nat} {cs ds : List A} {vs us : List Value} {off : Nat} (h : relL w O m ls cs vs) (k : relL w O m ls ds us) :
    relL w O m ls (overA cs off ds) (vs.take off ++ us ++ vs.drop (off + us.length)) := by
  unfold overA
  rw [← relL_length k]
  exact relL_append (relL_append (relL_take off h) k) (relL_drop _ h)

theorem cells_okAll {w : World} {O : Nat → Prop} {m : M} {ls : List Nat} : ∀ {cs : List A} {vs : List Value}, relL w O m ls cs vs → cs.all okCell = true → ∀ v ∈ vs, v.oneCell' = true
  | [], vs, h, _, v, hv => by simp only [relL] at h; subst h; cases hv
  | c :: cs, vs, h, hk, v, hv => by
    simp only [relL, List.all_cons, Bool.and_eq_true] at h hk
    obtain ⟨u, r, rfl, h1, h2⟩ := h
    rcases List.mem_cons.1 hv with rfl | hv
    · exact rel_okCell h1 hk.1
    · exact cells_okAll h2 hk.2 v hv

/-- A run of stores into one block: the world behind it. -/
theorem run_stores (P : Program) {w : World} {b : Nat} {c : Array Value} {T : TypeId} (h : w.heap[b]? = some (.cells c T (0, 0))) (off : Nat) (vs : List Value) (hl : off + vs.length ≤ c.size) (h1 : ∀ v ∈ vs, v.oneCell' = true) :
    ∃ W : World, (storeCells ⟨b, off, none⟩ vs).run P w = .ok () W ∧ W.os = w.os ∧ W.tape = w.tape ∧ W.output = w.output ∧ W.heap.size = w.heap.size ∧ (∀ b', b' ≠ b → W.heap[b']? = w.heap[b']?) ∧
      W.heap[b]? = some (.cells (c.toList.take off ++ vs ++ c.toList.drop (off + vs.length)).toArray T (0, 0)) := by
  have hst := run_storeCells_at P b off T vs 0 c w h (by omega) h1
  simp only [Nat.add_zero] at hst
  exact ⟨_, hst, rfl, rfl, rfl, by simp, fun b' hne => setRow_other w b b' _ hne, setRow_heap w b c _ T _ h⟩

/-- A store into a variable. -/
theorem r_store {t : TypeId} {a x : Operand} (ho : o.op = .store t a x) {i : TI} (hi : TI.ok P t i) {id off : Nat} (ha : ρ a = .ptr id off) {cs ds : List A} (hid : bx[id]? = some cs) (hx : cellsOf? (ρ x) = some ds)
    (hok : ds.all okCell = true) (hsz : ds.length = i.size) (hl : off + ds.length ≤ cs.length) : ROp P o ρ bx rw (.val undef) (bx.set id (overA cs off ds)) rw := by
  intro w O0 m ev hs hr
  have ha' := hr a (by simp [ho, Op.operands])
  have hx' := hr x (by simp [ho, Op.operands])
  rw [ha] at ha'
  simp only [rel] at ha'
  obtain ⟨b, h1, h2⟩ := ha'
  have h3 := rel_cellsOf hx' hx
  have h4 := relL_length h3
  obtain ⟨c, T, h5, h6⟩ := hs.box id b cs h1 hid
  have h7 := relL_length h6
  obtain ⟨W, hst, w1, w2, w3, w4, w5, w6⟩ := run_stores P h5 off (ev x).cells.toList (by rw [h4]; simp at h7; omega) (cells_okAll h3 hok)
  have hblk := mem_blocks_bx h1
  have hmono : Mono w (Ow O0 m) m (lens rw) W (Ow O0 m) m (lens rw) := mono_same hblk w4 w5
  refine ⟨undef, W, m, Or.inr ⟨?_, rfl⟩, ?_, ?_, by simp [rel]⟩
  · have hsize : (ev x).cells.size = i.size := by rw [← hsz, ← h4]; simp
    simp only [execOp, ho, Instr.storeAt, h2, Instr.sureAddr, storeVar, Sem.run_bind, Sem.run_pure, Result.andThen_ok, hi.run_sizeOf w, hsize, ne_eq, not_true_eq_false, if_false, hst]
  · exact ⟨w1, w2, w3, by omega, fun b' hb' hn => w5 b' (fun e => hn (e ▸ hblk)), fun b' hb' => Or.inl hb', fun _ _ h => h, fun _ l h => ⟨l, h, Nat.le_refl _, fun _ => rfl⟩⟩
  · refine hs.build hmono (by simp [hs.bxl]) hs.rwl hs.nd (fun b' hb' => by rw [w4]; exact hs.blk b' hb') ?_ ?_
    · intro id' b' es g1 g2
      by_cases e : id' = id
      · subst e
        rw [h1] at g1
        simp only [Option.some.injEq] at g1
        subst g1
        have hlt := (List.getElem?_eq_some_iff.1 hid).1
        rw [List.getElem?_set_self hlt] at g2
        simp only [Option.some.injEq] at g2
        subst g2
        refine Or.inr ⟨_, T, w6, ?_⟩
        have := relL_mono hmono _ _ (relL_over (off := off) h6 h3)
        simpa using this
      · rw [List.getElem?_set_ne (Ne.symm e)] at g2
        refine Or.inl ⟨g1, g2, w5 b' fun e' => e ?_⟩
        subst e'
        exact nodup_bx hs.nd g1 h1
    · intro id' h k xs g1 g2
      refine Or.inl ⟨g1, g2, fun b' cap e => w5 b' fun e' => ?_⟩
      subst e e'
      exact nodup_bx_rw hs.nd h1 g1

theorem take_over {α : Type} (l us : List α) (n off : Nat) (h : off + us.length ≤ n) (hn : n ≤ l.length) :
    (l.take off ++ us ++ l.drop (off + us.length)).take n = (l.take n).take off ++ us ++ (l.take n).drop (off + us.length) := by
  have a1 : (l.take off).length = off := by simp; omega
  rw [List.take_append, List.take_of_length_le (by simp [a1]; omega), List.take_take, Nat.min_eq_left (by omega), List.drop_take]
  congr 2
  simp [a1]

theorem flatten_set_over {k : Nat} : ∀ (xs : List (List A)) (i j : Nat) (x ds : List A), (∀ y ∈ xs, y.length = k) → xs[i]? = some x → j + ds.length ≤ x.length →
    (xs.set i (overA x j ds)).flatten = overA xs.flatten (i * k + j) ds
  | [], i, j, x, ds, _, h, _ => by simp at h
  | y :: xs, i, j, x, ds, hk, h, hl => by
    have hy := hk y (by simp)
    cases i with
    | zero =>
      simp at h; subst h
      simp only [List.set_cons_zero, List.flatten_cons, overA, Nat.zero_mul, Nat.zero_add]
      rw [List.take_append_of_le_length (by omega), List.drop_append_of_le_length (by omega)]
      simp [List.append_assoc]
    | succ i =>
      simp at h
      have ih := flatten_set_over xs i j x ds (fun z hz => hk z (by simp [hz])) h hl
      rw [List.set_cons_succ, List.flatten_cons, List.flatten_cons, ih]
      unfold overA
      have e1 : (i + 1) * k + j = y.length + (i * k + j) := by rw [Nat.add_mul]; omega
      have e2 : (i + 1) * k + j + ds.length = y.length + (i * k + j + ds.length) := by omega
      rw [e2, e1, List.take_length_add_append, List.drop_length_add_append]
      simp [List.append_assoc]

/-- A store into an element of a row. -/
theorem r_storeRow {t : TypeId} {a x : Operand} (ho : o.op = .store t a x) {i : TI} (hi : TI.ok P t i) {id l k ii j : Nat} (ha : ρ a = .rptr id l k ii j) {xs : List (List A)} (hid : rw[id]? = some (k, xs)) (hxl : xs.length = l)
    {cs ds : List A} (hc : xs[ii]? = some cs) (hx : cellsOf? (ρ x) = some ds) (hok : ds.all okCell = true) (hsz : ds.length = i.size) (hl : j + ds.length ≤ cs.length) :
    ROp P o ρ bx rw (.val undef) bx (rw.set id (k, xs.set ii (overA cs j ds))) := by
  intro w O0 m ev hs hr
  have ha' := hr a (by simp [ho, Op.operands])
  have hx' := hr x (by simp [ho, Op.operands])
  rw [ha] at ha'
  simp only [rel] at ha'
  obtain ⟨l', g1, g2, _, g3⟩ := ha'
  have hll : l = l' := by
    simp only [lens, List.getElem?_map, hid, Option.map_some, Option.some.injEq] at g1
    omega
  obtain ⟨b, cap, h1, h2⟩ := g3 hll
  have h3 := rel_cellsOf hx' hx
  have h4 := relL_length h3
  obtain ⟨q1, q2, q3, c, T, h5, q5, h6⟩ := hs.row id _ k xs h1 hid
  have hcl : cs.length = k := q3 cs (List.mem_of_getElem? hc)
  have hii : ii < xs.length := (List.getElem?_eq_some_iff.1 hc).1
  have hfit : ii * k + j + ds.length ≤ xs.length * k := by
    have : (ii + 1) * k ≤ xs.length * k := Nat.mul_le_mul_right k (by omega)
    rw [Nat.add_mul] at this; omega
  have hcap : xs.length * k ≤ c.size := by rw [q5]; exact Nat.mul_le_mul_right k q1
  obtain ⟨W, hst, w1, w2, w3, w4, w5, w6⟩ := run_stores P h5 (ii * k + j) (ev x).cells.toList (by rw [h4]; omega) (cells_okAll h3 hok)
  have hblk := mem_blocks_rw h1
  have hls : lens (rw.set id (k, xs.set ii (overA cs j ds))) = lens rw := by
    simp only [lens]
    apply List.ext_getElem?
    intro n
    simp only [List.getElem?_map]
    by_cases e : n = id
    · subst e
      rw [List.getElem?_set_self (List.getElem?_eq_some_iff.1 hid).1, hid]
      simp
    · rw [List.getElem?_set_ne (Ne.symm e)]
  have hmono : Mono w (Ow O0 m) m (lens rw) W (Ow O0 m) m (lens rw) := mono_same hblk w4 w5
  refine ⟨undef, W, m, Or.inr ⟨?_, rfl⟩, ?_, ?_, by simp [rel]⟩
  · have hsize : (ev x).cells.size = i.size := by rw [← hsz, ← h4]; simp
    simp only [execOp, ho, Instr.storeAt, h2, Instr.sureAddr, storeVar, Sem.run_bind, Sem.run_pure, Result.andThen_ok, hi.run_sizeOf w, hsize, ne_eq, not_true_eq_false, if_false, hst]
  · rw [hls]
    exact ⟨w1, w2, w3, by omega, fun b' hb' hn => w5 b' (fun e => hn (e ▸ hblk)), fun b' hb' => Or.inl hb', fun _ _ h => h, fun _ l h => ⟨l, h, Nat.le_refl _, fun _ => rfl⟩⟩
  · refine Store.build hs (by rw [hls]; exact hmono) hs.bxl (by simp [hs.rwl]) hs.nd (fun b' hb' => by rw [w4]; exact hs.blk b' hb') ?_ ?_
    · intro id' b' es r1 r2
      refine Or.inl ⟨r1, r2, w5 b' fun e' => ?_⟩
      subst e'
      exact nodup_bx_rw hs.nd r1 h1
    · intro id' h k' ys r1 r2
      by_cases e : id' = id
      · subst e
        rw [h1] at r1
        simp only [Option.some.injEq] at r1
        subst r1
        rw [List.getElem?_set_self (List.getElem?_eq_some_iff.1 hid).1] at r2
        simp only [Option.some.injEq, Prod.mk.injEq] at r2
        obtain ⟨rfl, rfl⟩ := r2
        refine Or.inr ⟨by simpa using q1, q2, ?_, _, T, w6, ?_, ?_⟩
        · intro y hy
          rcases List.mem_or_eq_of_mem_set hy with hy | rfl
          · exact q3 y hy
          · simp [overA]; omega
        · simp [h4, q5]; simp at h4; rw [q5] at hcap; omega
        · rw [hls, flatten_set_over xs ii j cs ds q3 hc hl]
          have h8 := relL_mono hmono _ _ (relL_over (off := ii * k + j) h6 h3)
          have e2 : (List.take ((xs.set ii (overA cs j ds)).length * k) (List.take (ii * k + j) c.toList ++ (ev x).cells.toList ++ List.drop (ii * k + j + (ev x).cells.toList.length) c.toList).toArray.toList) =
              (c.toList.take (xs.length * k)).take (ii * k + j) ++ (ev x).cells.toList ++ (c.toList.take (xs.length * k)).drop (ii * k + j + (ev x).cells.toList.length) := by
            simp only [List.length_set]
            rw [take_over _ _ _ _ (by rw [h4]; exact hfit) (by simpa using hcap)]
          rw [e2]
          exact h8
      · rw [List.getElem?_set_ne (Ne.symm e)] at r2
        refine Or.inl ⟨r1, r2, fun b' cap' e' => w5 b' fun e'' => e ?_⟩
        subst e' e''
        exact nodup_rw hs.nd r1 h1

end
end Go.Proofs.Ytgedhnhgkmhgcaa.Abs
