/- Rows that are made and grown. -/
import Derived.Test.YtgedhnhgkmhgcaaAb8
namespace Go.Proofs.Ytgedhnhgkmhgcaa.Abs
open Go Go.RowKit

section
variable {P : Program} {o : Oper} {ρ : Operand → A} {bx bx' : List (List A)} {rw rw' : List (Nat × List (List A))}

/-- The row behind a value that is appended. -/
def srcA (rw : List (Nat × List (List A))) : A → Option (List (List A))
  | .emp => some []
  | .sl _ ys => some ys
  | .row id n => (rw[id]?).bind fun q => if q.2.length = n then some q.2 else none
  | _ => none

def srcK (rw : List (Nat × List (List A))) (k : Nat) : A → Prop
  | .sl k' ys => ys = [] ∨ k' = k
  | .row id _ => ∀ q, rw[id]? = some q → q.1 = k
  | _ => True

theorem src_of {w : World} {O0 : Nat → Prop} {m : M} (hs : Store w O0 m bx rw) {a : A} {v : Value} (h : rel w (Ow O0 m) m (lens rw) a v) {ys : List (List A)} (hy : srcA rw a = some ys) {k : Nat} (hk : srcK rw k a) :
    ∃ ad c news, v = .slice ad ys.length c ∧ relL w (Ow O0 m) m (lens rw) ys.flatten news ∧ (∀ y ∈ ys, y.length = k) ∧ (ys = [] ∨ ∃ b off, ad = some ⟨b, off, none⟩ ∧ Reads w b off news) := by
  cases a with
  | emp =>
    simp only [srcA, Option.some.injEq] at hy
    subst hy
    simp only [rel] at h
    obtain ⟨a, rfl⟩ := h
    exact ⟨a, 0, [], rfl, by simp [relL], by simp, Or.inl rfl⟩
  | sl k' xs =>
    simp only [srcA, Option.some.injEq] at hy
    subst hy
    simp only [rel] at h
    obtain ⟨a, cap, rfl, h2, h3, h4⟩ := h
    rcases h4 with rfl | ⟨b, off, h5, h6, h7, h8⟩
    · exact ⟨a, cap, [], rfl, by simp [relL], by simp, Or.inl rfl⟩
    · cases xs with
      | nil => exact ⟨a, cap, [], rfl, by simp [relL], by simp, Or.inl rfl⟩
      | cons x xs =>
        simp only [srcK, reduceCtorEq, false_or] at hk
        subst hk
        have key : ∀ (l : List (List A)) (off : Nat), relRows w (Ow O0 m) m (lens rw) k' b off l → ∃ vs, relL w (Ow O0 m) m (lens rw) l.flatten vs ∧ Reads w b off vs ∧ ∀ y ∈ l, y.length = k' := by
          intro l
          induction l with
          | nil => intro off _; exact ⟨[], by simp [relL], fun j v hj => by simp at hj, by simp⟩
          | cons y l ih =>
            intro off hr
            simp only [relRows] at hr
            obtain ⟨g1, g2, g3⟩ := hr
            obtain ⟨vs, g4, g5⟩ := relCells_reads g2
            obtain ⟨us, g6, g7, g8⟩ := ih _ g3
            refine ⟨vs ++ us, by rw [List.flatten_cons]; exact relL_append g4 g6, ?_, ?_⟩
            · intro j u hj
              have hl := relL_length g4
              by_cases hjv : j < vs.length
              · rw [List.getElem?_append_left hjv] at hj
                exact g5 j u hj
              · rw [List.getElem?_append_right (by omega)] at hj
                have := g7 _ u hj
                rwa [show off + k' + (j - vs.length) = off + j by omega] at this
            · intro z hz
              rcases List.mem_cons.1 hz with rfl | hz
              · exact g1
              · exact g8 z hz
        obtain ⟨vs, g1, g2, g3⟩ := key _ off h8
        exact ⟨a, cap, vs, rfl, g1, g3, Or.inr ⟨b, off, h5, g2⟩⟩
  | row id n =>
    simp only [srcA, Option.bind_eq_some_iff] at hy
    obtain ⟨⟨k', xs⟩, h1, h2⟩ := hy
    simp only at h2
    by_cases hn : xs.length = n
    · rw [if_pos hn] at h2
      simp only [Option.some.injEq] at h2
      subst h2
      have hk' := hk _ h1
      simp only at hk'
      subst hk'
      simp only [rel] at h
      obtain ⟨l, g1, g2, _, g3⟩ := h
      have hl : n = l := by
        simp only [lens, List.getElem?_map, h1, Option.map_some, Option.some.injEq] at g1
        omega
      obtain ⟨hd, g4, g5⟩ := g3 hl
      have hrow := hs.row id hd k' xs g4 h1
      cases hd with
      | none =>
        simp only [rowOk] at hrow
        simp only [hdr] at g5
        obtain ⟨a, rfl⟩ := g5
        subst hrow
        exact ⟨a, 0, [], by simp at hn; simp [hn], by simp [relL], by simp, Or.inl rfl⟩
      | some bc =>
        obtain ⟨b, cap⟩ := bc
        obtain ⟨q1, q2, q3, c, T, q4, q5, q6⟩ := hrow
        simp only [hdr] at g5
        exact ⟨some ⟨b, 0, none⟩, cap, c.toList.take (xs.length * k'), by rw [hn]; exact g5, q6, q3, Or.inr ⟨b, 0, rfl, (Reads.block q4).take _⟩⟩
    · rw [if_neg hn] at h2; cases h2
  | _ => simp [srcA] at hy

theorem len_flat {k : Nat} : ∀ {xs : List (List A)}, (∀ x ∈ xs, x.length = k) → xs.flatten.length = xs.length * k
  | [], _ => by simp
  | x :: xs, h => by
    rw [List.flatten_cons, List.length_append, h x (by simp), len_flat fun y hy => h y (by simp [hy]), List.length_cons, Nat.add_mul]
    omega

/-- What an append comes to: the new header, the world, the cells. -/
theorem append_core (P : Program) {w : World} {O : Nat → Prop} {m : M} {ls : List Nat} {t ty e : TypeId} {i : TI} (ht : P.underlying t = some (.slice e)) (hi : TI.ok P e i)
    {xs ys : List (List A)} {hd : Option (Nat × Nat)} {v : Value} (hv : hdr hd xs.length v) (hrow : rowOk w O m ls i.size xs hd)
    {ad : Option Addr} {c : Nat} {news : List Value} (hnews : relL w O m ls ys.flatten news) (hyk : ∀ y ∈ ys, y.length = i.size) (hsrc : ys = [] ∨ ∃ b off, ad = some ⟨b, off, none⟩ ∧ Reads w b off news)
    (hok : ys.flatten.all okCell = true) (hfit : (xs.length + ys.length) * i.bytes ≤ 140737488355328) (h63 : xs.length + ys.length ≤ 9223372036854775807) :
    ∃ v' w' hd', (Builtin.append_ #[t, t] ty #[v, .slice ad ys.length c]).run P w = .ok v' w' ∧ hdr hd' (xs.length + ys.length) v' ∧
      ((ys = [] ∧ w' = w ∧ hd' = hd) ∨
       (∃ b cap cs T, hd = some (b, cap) ∧ hd' = some (b, cap) ∧ xs.length + ys.length ≤ cap ∧ cap ≤ 9223372036854775807 ∧ (w'.os = w.os ∧ w'.tape = w.tape ∧ w'.output = w.output ∧ w'.heap.size = w.heap.size ∧ ∀ b', b' ≠ b → w'.heap[b']? = w.heap[b']?) ∧
          w'.heap[b]? = some (.cells cs T (0, 0)) ∧ cs.size = cap * i.size ∧ relL w O m ls (xs ++ ys).flatten (cs.toList.take ((xs.length + ys.length) * i.size))) ∨
       (∃ cap cs T, hd' = some (w.heap.size, cap) ∧ 0 < ys.length ∧ xs.length + ys.length ≤ cap ∧ cap ≤ 9223372036854775807 ∧ Below w.heap.size w w' ∧ w.heap.size < w'.heap.size ∧
          w'.heap[w.heap.size]? = some (.cells cs T (0, 0)) ∧ cs.size = cap * i.size ∧ relL w O m ls (xs ++ ys).flatten (cs.toList.take ((xs.length + ys.length) * i.size)))) := by
  obtain ⟨j, hj, j1, j2, j3⟩ := hi.some_info
  have hnl : news.length = ys.length * i.size := by rw [relL_length hnews, len_flat hyk]
  have hok' := cells_okAll hnews hok
  -- the header
  have hv2 : ∃ base cap, v = .slice base xs.length cap ∧ xs.length ≤ cap ∧ ((hd = none ∧ cap = 0) ∨ ∃ b, hd = some (b, cap) ∧ base = some ⟨b, 0, none⟩) := by
    cases hd with
    | none => simp only [hdr] at hv; obtain ⟨a, rfl⟩ := hv; simp only [rowOk] at hrow; subst hrow; exact ⟨a, 0, rfl, by simp, Or.inl ⟨rfl, rfl⟩⟩
    | some bc => obtain ⟨b, cap⟩ := bc; simp only [hdr] at hv; exact ⟨_, cap, hv, hrow.1, Or.inr ⟨b, rfl, rfl⟩⟩
  obtain ⟨base, cap, rfl, hcap, hhd⟩ := hv2
  by_cases hy0 : ys = []
  · subst hy0
    refine ⟨.slice base xs.length cap, w, hd, ?_, by simpa using hv, Or.inl ⟨rfl, rfl, rfl⟩⟩
    have hf : (Builtin.firstCells i.size 0 (.slice ad 0 c)).run P w = .ok #[] w := by
      cases ad <;> simp [Builtin.firstCells, loadCells, loadCellsFrom]
    cases base <;> simp [Builtin.append_, run_underlying ht, sizeOf, typeInfo, hj, j1, Builtin.lenOf, hcap, hf, storeCells]
  · obtain ⟨b2, off2, rfl, hreads⟩ := hsrc.resolve_left hy0
    have hypos : 0 < ys.length := List.length_pos_iff.2 hy0
    have hn1 : ∀ jj u, news[jj]? = some u → w.cell? ((⟨b2, off2, none⟩ : Addr).add jj) = some u := fun jj u hu => by rw [add_eq]; exact hreads jj u hu
    by_cases hroom : xs.length + ys.length ≤ cap
    · -- in place
      rcases hhd with ⟨_, rfl⟩ | ⟨b, rfl, rfl⟩
      · omega
      obtain ⟨q1, q2, q3, cc, T, q4, q5, q6⟩ := hrow
      have hf := run_firstCells_some (P := P) w i.size ys.length ⟨b2, off2, none⟩ ys.length c news hnl hn1
      have hsum : (xs.length + ys.length) * i.size ≤ cap * i.size := Nat.mul_le_mul_right _ hroom
      have hadd : (xs.length + ys.length) * i.size = xs.length * i.size + ys.length * i.size := Nat.add_mul _ _ _
      obtain ⟨W, hst, w1, w2, w3, w4, w5, w6⟩ := run_stores P q4 (xs.length * i.size) news (by rw [hnl]; omega) hok'
      refine ⟨.slice (some ⟨b, 0, none⟩) (xs.length + ys.length) cap, W, some (b, cap), ?_, rfl, Or.inr (Or.inl ⟨b, cap, _, T, rfl, rfl, hroom, q2, ⟨w1, w2, w3, w4, w5⟩, w6, ?_, ?_⟩)⟩
      · have hadd2 : (⟨b, 0, none⟩ : Addr).add (xs.length * i.size) = ⟨b, xs.length * i.size, none⟩ := by rw [add_eq]; simp
        have hf' : (Builtin.firstCells j.size ys.length (.slice (some ⟨b2, off2, none⟩) ys.length c)).run P w = .ok news.toArray w := by rw [j1]; exact hf
        have hst' : (storeCells ((⟨b, 0, none⟩ : Addr).add (xs.length * j.size)) news).run P w = .ok () W := by rw [j1, hadd2]; exact hst
        simp [Builtin.append_, run_underlying ht, sizeOf, typeInfo, hj, Builtin.lenOf, hroom, hf', hst']
      · have hl2 : cc.toList.length = cap * i.size := by simp [q5]
        rw [List.size_toArray, List.length_append, List.length_append, List.length_take, List.length_drop, hl2, hnl, Nat.min_eq_left (by omega)]
        omega
      · have hfl : (xs ++ ys).flatten = xs.flatten ++ ys.flatten := by simp
        rw [hfl]
        have h7 := relL_append q6 hnews
        have e : ((cc.toList.take (xs.length * i.size) ++ news ++ cc.toList.drop (xs.length * i.size + news.length)).toArray.toList.take ((xs.length + ys.length) * i.size)) = cc.toList.take (xs.length * i.size) ++ news := by
          have hl1 : (cc.toList.take (xs.length * i.size)).length = xs.length * i.size := by simp; omega
          rw [List.take_append_of_le_length (by simp [hnl]; omega), List.take_of_length_le (by simp [hnl]; omega)]
        rw [e]
        exact h7
    · -- a new block
      have hlt : cap < xs.length + ys.length := by omega
      have hgf := growslice_fits (bytes := i.bytes) hlt hfit
      have hgc := grownCap_ge w (xs.length + ys.length) cap e
      have hgm := grownCap_le_maxLen w (xs.length + ys.length) cap e (by simpa [maxLen] using h63)
      have holds : ∃ olds : List Value, relL w O m ls xs.flatten olds ∧ olds.length = xs.length * i.size ∧ (Builtin.firstCells j.size xs.length (.slice base xs.length cap)).run P w.drew = .ok olds.toArray w.drew := by
        rcases hhd with ⟨rfl, rfl⟩ | ⟨b, rfl, rfl⟩
        · simp only [rowOk] at hrow
          subst hrow
          refine ⟨[], by simp [relL], by simp, ?_⟩
          cases base <;> simp [Builtin.firstCells, loadCells, loadCellsFrom]
        · obtain ⟨q1, q2, q3, cc, T, q4, q5, q6⟩ := hrow
          have hl1 : (cc.toList.take (xs.length * i.size)).length = xs.length * i.size := by rw [relL_length q6, len_flat q3]
          refine ⟨_, q6, hl1, ?_⟩
          rw [j1]
          refine run_firstCells_some (P := P) w.drew i.size xs.length ⟨b, 0, none⟩ xs.length cap _ hl1 ?_
          intro jj u hu
          rw [add_eq]
          have := ((Reads.block q4).take (xs.length * i.size)) jj u hu
          simpa using this
      obtain ⟨olds, ho1, ho2, ho3⟩ := holds
      have hf' : (Builtin.firstCells j.size ys.length (.slice (some ⟨b2, off2, none⟩) ys.length c)).run P w.drew = .ok news.toArray w.drew := by
        rw [j1]; exact run_firstCells_some (P := P) w.drew i.size ys.length ⟨b2, off2, none⟩ ys.length c news hnl (by simpa using hn1)
      have n1 : ¬ (xs.length + ys.length ≤ cap) := hroom
      have n2 : ¬ (9223372036854775807 < ((xs.length : Int) + (ys.length : Int))) := by omega
      have n3 : ¬ (281474976710656 < Builtin.nextslicecap (xs.length + ys.length) cap * j.bytes) := by rw [j2]; omega
      refine ⟨.slice (some ⟨w.heap.size, 0, none⟩) (xs.length + ys.length) (grownCap w (xs.length + ys.length) cap e), w.drew.alloc (.cells (olds.toArray ++ news.toArray ++ Builtin.zeroCells i.zero.cells (grownCap w (xs.length + ys.length) cap e - (xs.length + ys.length))) e),
        some (w.heap.size, grownCap w (xs.length + ys.length) cap e), ?_, rfl, Or.inr (Or.inr ⟨_, olds.toArray ++ news.toArray ++ Builtin.zeroCells i.zero.cells (grownCap w (xs.length + ys.length) cap e - (xs.length + ys.length)), e, rfl, hypos, hgc, by simpa [maxLen] using hgm, ?_, ?_, ?_, ?_, ?_⟩)⟩
      · simp [Builtin.append_, run_underlying ht, sizeOf, typeInfo, zeroValue, hj, j3, Builtin.lenOf, n1, n2, n3, Question.forced, ho3, hf', newRow, grownCap]
        congr 2
        rw [← Array.append_assoc]
        simp
      · exact ((Below.refl _ w).drew).alloc (by simp) _
      · show w.heap.size < (w.drew.alloc _).heap.size
        rw [size_alloc']; simp
      · exact heap_alloc_new w.drew _
      · simp only [Array.size_append, List.size_toArray, Builtin.zeroCells, Array.size_map, Array.size_range, hi.zsize, ho2, hnl]
        rw [← Nat.add_mul, ← Nat.add_mul]
        congr 1
        omega
      · have hfl : (xs ++ ys).flatten = xs.flatten ++ ys.flatten := by simp
        rw [hfl]
        have h7 := relL_append ho1 hnews
        have e2 : ((olds.toArray ++ news.toArray ++ Builtin.zeroCells i.zero.cells (grownCap w (xs.length + ys.length) cap e - (xs.length + ys.length))).toList.take ((xs.length + ys.length) * i.size)) = olds ++ news := by
          simp only [Array.toList_append]
          rw [List.take_append_of_le_length (by simp [ho2, hnl, Nat.add_mul]), List.take_of_length_le (by simp [ho2, hnl, Nat.add_mul])]
        rw [e2]
        exact h7


theorem blocks_addRw (m : M) (h : Option (Nat × Nat)) : ∀ x, x ∈ (⟨m.bx, m.rw ++ [h]⟩ : M).blocks ↔ x ∈ m.blocks ∨ ∃ cap, h = some (x, cap) := by
  intro x
  simp only [M.blocks, List.mem_append, List.filterMap_append, List.mem_filterMap, List.mem_singleton]
  constructor
  · rintro (h1 | h1 | ⟨y, rfl, h2⟩)
    · exact Or.inl (Or.inl h1)
    · exact Or.inl (Or.inr h1)
    · cases y with
      | none => simp at h2
      | some bc => simp at h2; subst h2; exact Or.inr ⟨bc.2, rfl⟩
  · rintro ((h1 | h1) | ⟨cap, rfl⟩)
    · exact Or.inl h1
    · exact Or.inr (Or.inl h1)
    · exact Or.inr (Or.inr ⟨_, rfl, rfl⟩)

/-- a new row: in a new block, or in none -/
theorem store_addRow {w w' : World} {O0 : Nat → Prop} {m : M} (hs : Store w O0 m bx rw) (hb : Below w.heap.size w w') {hd : Option (Nat × Nat)} {k : Nat} {xs : List (List A)}
    (hr : (hd = none ∧ xs = []) ∨ ∃ cap c T, hd = some (w.heap.size, cap) ∧ w.heap.size < w'.heap.size ∧ xs.length ≤ cap ∧ cap ≤ 9223372036854775807 ∧ (∀ x ∈ xs, x.length = k) ∧ w'.heap[w.heap.size]? = some (.cells c T (0, 0)) ∧
      c.size = cap * k ∧ relL w (Ow O0 m) m (lens rw) xs.flatten (c.toList.take (xs.length * k))) :
    Era w m (lens rw) w' ⟨m.bx, m.rw ++ [hd]⟩ (lens (rw ++ [(k, xs)])) ∧ Store w' O0 ⟨m.bx, m.rw ++ [hd]⟩ bx (rw ++ [(k, xs)]) := by
  have hh : hd = none ∨ ∃ cap, hd = some (w.heap.size, cap) ∧ w.heap.size < w'.heap.size := by
    rcases hr with ⟨h, _⟩ | ⟨cap, _, _, h, h2, _⟩
    · exact Or.inl h
    · exact Or.inr ⟨cap, h, h2⟩
  have hera : Era w m (lens rw) w' ⟨m.bx, m.rw ++ [hd]⟩ (lens (rw ++ [(k, xs)])) := by
    refine ⟨hb.os, hb.tape, hb.output, hb.size, fun b h _ => hb.block b h, ?_, fun id b h => h, ?_⟩
    · intro b h
      rcases (blocks_addRw m hd b).1 h with h | ⟨cap, rfl⟩
      · exact Or.inl h
      · rcases hh with hh | ⟨cap', hh, _⟩
        · cases hh
        · simp only [Option.some.injEq, Prod.mk.injEq] at hh; exact Or.inr (by omega)
    · intro id l h
      have h1 := (List.getElem?_eq_some_iff.1 h).1
      refine ⟨l, ?_, Nat.le_refl _, fun _ => ?_⟩
      · simp only [lens, List.map_append] at h h1 ⊢
        rw [List.getElem?_append_left h1]; exact h
      · have h2 : id < m.rw.length := by rw [hs.rwl]; simpa [lens] using h1
        show (m.rw ++ [hd])[id]? = m.rw[id]?
        rw [List.getElem?_append_left h2]
  have hm := hera.mono O0
  refine ⟨hera, hs.build hm hs.bxl (by simp [hs.rwl]) ?_ ?_ ?_ ?_⟩
  · cases hd with
    | none => simpa [M.blocks] using hs.nd
    | some bc =>
      obtain ⟨b, cap⟩ := bc
      rcases hh with hh | ⟨cap', hh, _⟩
      · cases hh
      · simp only [Option.some.injEq, Prod.mk.injEq] at hh
        obtain ⟨rfl, rfl⟩ := hh
        have : (⟨m.bx, m.rw ++ [some (w.heap.size, cap)]⟩ : M).blocks = m.blocks ++ [w.heap.size] := by simp [M.blocks]
        rw [this]
        exact List.nodup_append.2 ⟨hs.nd, by simp, fun a ha b hb' e => by simp at hb'; subst hb'; subst e; exact Nat.lt_irrefl _ (hs.blk _ ha).1⟩
  · intro b h
    rcases (blocks_addRw m hd b).1 h with h | ⟨cap, rfl⟩
    · exact ⟨Nat.lt_of_lt_of_le (hs.blk b h).1 hb.size, (hs.blk b h).2⟩
    · rcases hh with hh | ⟨cap', hh, hsz⟩
      · cases hh
      · simp only [Option.some.injEq, Prod.mk.injEq] at hh
        obtain ⟨rfl, rfl⟩ := hh
        exact ⟨hsz, fun ho => Nat.lt_irrefl _ (hs.old _ ho)⟩
  · intro id b ds h1 h2
    exact Or.inl ⟨h1, h2, hb.block b (hs.blk b (mem_blocks_bx h1)).1⟩
  · intro id h k' ys h1 h2
    by_cases hid : id < m.rw.length
    · rw [List.getElem?_append_left hid] at h1
      rw [List.getElem?_append_left (by rw [← hs.rwl]; exact hid)] at h2
      exact Or.inl ⟨h1, h2, fun b cap e => by subst e; exact hb.block b (hs.blk b (mem_blocks_rw h1)).1⟩
    · have e : id = m.rw.length := by
        have := (List.getElem?_eq_some_iff.1 h1).1
        simp at this; omega
      subst e
      simp only [List.getElem?_concat_length, Option.some.injEq] at h1
      rw [hs.rwl, List.getElem?_concat_length] at h2
      simp only [Option.some.injEq, Prod.mk.injEq] at h2
      obtain ⟨rfl, rfl⟩ := h2
      subst h1
      refine Or.inr ?_
      rcases hr with ⟨rfl, rfl⟩ | ⟨cap, c, T, rfl, _, r2, r3, r4, r5, r6, r7⟩
      · simp [rowOk]
      · exact ⟨r2, r3, r4, c, T, r5, r6, relL_mono hm _ _ r7⟩

end
end Go.Proofs.Ytgedhnhgkmhgcaa.Abs
