/- THE CONDITION OF A WALK, RECKONED: what must hold for a region to be walked, as a formula; and that it suffices. -/
import Derived.Test.YtgedhnhgkmhgcaaAb16
namespace Go.Proofs.Ytgedhnhgkmhgcaa.Abs
open Go Go.RowKit

def I64 (n : Int) : Prop := -9223372036854775808 ≤ n ∧ n ≤ 9223372036854775807

/-! ### Empty slices by their type -/
def norm1 (D : Nat → Option TI) (t : Nat) (a : A) : A :=
  match a with
  | .emp => (match D t with
    | some ⟨.slice e, _, _, _⟩ => (match D e with | some i => .sl i.size [] | none => .emp)
    | _ => .emp)
  | a => a

def normC (D : Nat → Option TI) : List Nat → List A → List A
  | t :: ts, c :: cs => norm1 D t c :: normC D ts cs
  | _, cs => cs

def cellTys (D : Nat → Option TI) : Nat → Nat → List Nat
  | 0, t => [t]
  | n + 1, t => match D t with
    | some ⟨.struct fs, _, _, _⟩ => fs.flatMap fun f => cellTys D n f.2
    | _ => [t]

def normA (D : Nat → Option TI) (t : Nat) (a : A) : A :=
  match a with
  | .emp => norm1 D t .emp
  | .agg cs => .agg (normC D (cellTys D 4 t) cs)
  | a => a

def normL (D : Nat → Option TI) : List Nat → List A → List A
  | t :: ts, a :: as => normA D t a :: normL D ts as
  | _, as => as

section
variable {D : Nat → Option TI} {w : World} {O : Nat → Prop} {m : M} {ls : List Nat}

theorem rel_norm1 {t : Nat} {a : A} {v : Value} (h : rel w O m ls a v) : rel w O m ls (norm1 D t a) v := by
  unfold norm1
  split
  · split
    · split
      · simp only [rel] at h ⊢
        obtain ⟨a, rfl⟩ := h
        exact ⟨a, 0, rfl, by simp, by omega, Or.inl trivial⟩
      · exact h
    · exact h
  · exact h

theorem relL_normC : ∀ {ts : List Nat} {cs : List A} {vs : List Value}, relL w O m ls cs vs → relL w O m ls (normC D ts cs) vs
  | [], cs, vs, h => by simpa [normC] using h
  | t :: ts, [], vs, h => by simpa [normC] using h
  | t :: ts, c :: cs, vs, h => by
    simp only [relL, normC] at h ⊢
    obtain ⟨v, r, rfl, h1, h2⟩ := h
    exact ⟨v, r, rfl, rel_norm1 h1, relL_normC h2⟩

theorem rel_normA {t : Nat} {a : A} {v : Value} (h : rel w O m ls a v) : rel w O m ls (normA D t a) v := by
  unfold normA
  split
  · exact rel_norm1 h
  · simp only [rel] at h ⊢
    obtain ⟨vs, h1, h2⟩ := h
    exact ⟨vs, h1, relL_normC h2⟩
  · exact h

theorem relL_normL : ∀ {ts : List Nat} {cs : List A} {vs : List Value}, relL w O m ls cs vs → relL w O m ls (normL D ts cs) vs
  | [], cs, vs, h => by simpa [normL] using h
  | t :: ts, [], vs, h => by simpa [normL] using h
  | t :: ts, c :: cs, vs, h => by
    simp only [relL, normL] at h ⊢
    obtain ⟨v, r, rfl, h1, h2⟩ := h
    exact ⟨v, r, rfl, rel_normA h1, relL_normL h2⟩
end

/-! ### Structs and slices that are written out -/
def partsA (sz : Nat → Option (Nat × Nat)) : List A → List (Nat × A) → Option (List A)
  | cs, [] => some cs
  | cs, (i, a) :: rest =>
    match sz i, cellsOf? a with
    | some (off, n), some ds => if ds.length = n ∧ off + n ≤ cs.length then partsA sz (overA cs off ds) rest else none
    | _, _ => none

def chunk (k : Nat) : Nat → List A → List (List A)
  | 0, _ => []
  | n + 1, cs => cs.take k :: chunk k n (cs.drop k)

theorem foldl_set_over {off : Nat} : ∀ (l : List Value) (k : Nat) (cells : Array Value), off + k + l.length ≤ cells.size →
    ((l.zipIdx k).foldl (fun (cs : Array Value) (p : Value × Nat) => cs.setIfInBounds (off + p.2) p.1) cells).toList = cells.toList.take (off + k) ++ l ++ cells.toList.drop (off + k + l.length)
  | [], k, cells, _ => by simp
  | v :: l, k, cells, h => by
    simp only [List.zipIdx_cons, List.foldl_cons]
    have ih := foldl_set_over (off := off) l (k + 1) (cells.setIfInBounds (off + k) v) (by simp at h ⊢; omega)
    rw [ih, Array.toList_setIfInBounds, ← Nat.add_assoc]
    exact list_seg_step cells.toList (off + k) v l (by simp at h ⊢; omega)

section
variable {w : World} {O : Nat → Prop} {m : M} {ls : List Nat}

theorem fill_rel {sz : Nat → Option (Nat × Nat)} {ρ : Operand → A} {ev : Operand → Value} : ∀ (parts : List (Nat × Operand)) (cs : List A) (cells : Array Value) (cs' : List A), relL w O m ls cs cells.toList →
    (∀ p ∈ parts, rel w O m ls (ρ p.2) (ev p.2)) → partsA sz cs (parts.map fun p => (p.1, ρ p.2)) = some cs' →
    ∃ cells', Instr.fill sz cells (parts.map fun p => (p.1, ev p.2)) = some cells' ∧ relL w O m ls cs' cells'.toList
  | [], cs, cells, cs', h, _, hp => by
    simp only [List.map_nil, partsA, Option.some.injEq] at hp
    subst hp
    exact ⟨cells, rfl, h⟩
  | p :: parts, cs, cells, cs', h, hr, hp => by
    simp only [List.map_cons, partsA] at hp
    cases hs : sz p.1 with
    | none => simp [hs] at hp
    | some on =>
      obtain ⟨off, n⟩ := on
      cases hc : cellsOf? (ρ p.2) with
      | none => simp [hs, hc] at hp
      | some ds =>
        simp only [hs, hc] at hp
        by_cases hb : ds.length = n ∧ off + n ≤ cs.length
        · rw [if_pos hb] at hp
          have h1 := rel_cellsOf (hr p (by simp)) hc
          have h2 := relL_length h1
          have h3 := relL_length h
          simp only [Array.length_toList] at h2 h3
          simp only [List.map_cons, Instr.fill, hs]
          have hcond : ¬ ((ev p.2).cells.size ≠ n ∨ off + (ev p.2).cells.size > cells.size) := by omega
          have hcond2 : (decide ((ev p.2).cells.size ≠ n) || decide (off + (ev p.2).cells.size > cells.size)) = false := by
            simp; omega
          rw [if_neg (by simpa using hcond)]
          refine fill_rel parts (overA cs off ds) _ cs' ?_ (fun q hq => hr q (by simp [hq])) hp
          have hz : ((ev p.2).cells.zipIdx.foldl (fun (cs : Array Value) (p : Value × Nat) => cs.setIfInBounds (off + p.2) p.1) cells).toList = cells.toList.take off ++ (ev p.2).cells.toList ++ cells.toList.drop (off + (ev p.2).cells.toList.length) := by
            have := foldl_set_over (off := off) (ev p.2).cells.toList 0 cells (by simp; omega)
            rw [← Array.foldl_toList, Array.toList_zipIdx]
            simpa using this
          show relL w O m ls (overA cs off ds) ((ev p.2).cells.zipIdx.foldl (fun (cs : Array Value) (p : Value × Nat) => cs.setIfInBounds (off + p.2) p.1) cells).toList
          rw [hz]
          exact relL_over h h1
        · rw [if_neg hb] at hp; cases hp

end

section
variable {P : Program} {o : Oper} {ρ : Operand → A} {bx : List (List A)} {rw : List (Nat × List (List A))} {D : Nat → Option TI}

def fieldSz (D : Nat → Option TI) (fs : List (Nat × Nat)) (i : Nat) : Option (Nat × Nat) :=
  (fs[i]?).bind fun f => (D f.2).map fun j => (f.1, j.size)

theorem run_places (hD : TyOk P D) {w : World} : ∀ (l : List Field), (∀ f ∈ l, ∃ j, D f.type = some j) →
    (l.mapM (fun (f : Field) => (do pure (f.offset, ← sizeOf f.type) : Sem (Nat × Nat)))).run P w = .ok (l.map fun f => (f.offset, ((D f.type).map (·.size)).getD 0)) w
  | [], _ => by simp
  | f :: l, h => by
    obtain ⟨j, hj⟩ := h f (by simp)
    have ih := run_places hD l (fun g hg => h g (by simp [hg])) (w := w)
    have hs := (hD _ _ hj).run_sizeOf w
    simp only [List.mapM_cons, Sem.run_bind, hs, Result.andThen_ok, Sem.run_pure, ih, List.map_cons, hj, Option.map_some, Option.getD_some]

theorem q_build (hD : TyOk P D) {t : TypeId} {ps : Array (Nat × Operand)} (ho : o.op = .build t ps) {i : TI} {fs : List (Nat × Nat)} (hi : D t = some i) (hk : i.kind = .struct fs) (hfs : fs.all (fun f => (D f.2).isSome) = true)
    {cs : List A} (hc : partsA (fieldSz D fs) (i.zero.cells.toList.map liftV) (ps.toList.map fun p => (p.1, ρ p.2)) = some cs) : QOp P o ρ bx rw (.agg cs) := by
  intro w O0 m ev _ hr
  have hok := hD t i hi
  have hd := hok.desc
  rw [hk] at hd
  obtain ⟨g, h1, h2⟩ := hd
  have hall : ∀ f ∈ g.toList, ∃ j, D f.type = some j := by
    intro f hf
    have hm : (f.offset, f.type) ∈ fs := by rw [← h2]; exact List.mem_map.2 ⟨f, hf, rfl⟩
    have := List.all_eq_true.1 hfs _ hm
    exact Option.isSome_iff_exists.1 this
  have hpl := run_places hD (w := w) g.toList hall
  have hmap : (g.mapM (fun (f : Field) => (do pure (f.offset, ← sizeOf f.type) : Sem (Nat × Nat)))).run P w = .ok (g.toList.map fun f => (f.offset, ((D f.type).map (·.size)).getD 0)).toArray w := by
    rw [Array.mapM_eq_mapM_toList]
    simp only [Sem.run_map, hpl, Result.andThen_ok]
  have hsz : (fun q => ((g.toList.map fun f => (f.offset, ((D f.type).map (·.size)).getD 0)).toArray)[q]?) = fieldSz D fs := by
    funext q
    unfold fieldSz
    rw [← h2]
    simp only [List.getElem?_toArray, List.getElem?_map]
    cases hq : g.toList[q]? with
    | none => simp
    | some f =>
      obtain ⟨j, hj⟩ := hall f (List.mem_of_getElem? hq)
      simp [hj]
  obtain ⟨cells', f1, f2⟩ := fill_rel (sz := fieldSz D fs) (ρ := ρ) (ev := ev) ps.toList _ i.zero.cells cs (relL_lift i.zero.cells.toList) (fun p hp => hr p.2 (by
    rw [ho]
    simp only [Op.operands]
    simpa using ⟨p.1, by simpa using hp⟩)) hc
  have hparts : (ps.map fun (p : Nat × Operand) => (p.1, ev p.2)).toList = ps.toList.map fun p => (p.1, ev p.2) := by simp
  have hfill : Instr.fill (fun q => ((g.toList.map fun f => (f.offset, ((D f.type).map (·.size)).getD 0)).toArray)[q]?) i.zero.cells (ps.map fun (p : Nat × Operand) => (p.1, ev p.2)).toList = some cells' := by
    rw [hsz, hparts]; exact f1
  have hrun : (Instr.build t (ps.map fun (p : Nat × Operand) => (p.1, ev p.2))).run P w = .ok (.agg cells') w := by
    simp only [Instr.build, Sem.run_bind, hok.run_zero w, Result.andThen_ok, run_underlying h1, hmap, hfill, Sem.run_pure]
  have : (execOp ev o).run P w = .ok (.value (.agg cells')) w := by
    simp only [execOp, ho]
    show ((do pure (.value (← Instr.build t (ps.map fun (p : Nat × Operand) => (p.1, ev p.2)))) : Sem Next)).run P w = _
    simp only [Sem.run_bind, hrun, Result.andThen_ok, Sem.run_pure]
  rw [this]
  refine ⟨below_refl w, ?_⟩
  simp only [rel]
  exact ⟨cells'.toList, by simp, f2⟩

theorem QOp.weaken {ρ2 : Operand → A} {r : A} (h : QOp P o ρ2 bx rw r) (hw : ∀ (x : Operand) (w : World) (O : Nat → Prop) (m : M) (ls : List Nat) (v : Value), rel w O m ls (ρ x) v → rel w O m ls (ρ2 x) v) : QOp P o ρ bx rw r :=
  fun w O0 m ev hs hr => h w O0 m ev hs fun x hx => hw x _ _ _ _ _ (hr x hx)

theorem chunk_rows {w : World} {O : Nat → Prop} {m : M} {ls : List Nat} {k b : Nat} : ∀ (n : Nat) (cs : List A) (vs : List Value) (off : Nat), cs.length = n * k → relL w O m ls cs vs → Reads w b off vs → relRows w O m ls k b off (chunk k n cs)
  | 0, _, _, _, _, _, _ => by simp [chunk, relRows]
  | n + 1, cs, vs, off, hl, h, hr => by
    simp only [chunk, relRows]
    rw [Nat.add_mul, Nat.one_mul] at hl
    refine ⟨by simp; omega, cells_of_reads (relL_take k h) (hr.take k), chunk_rows n (cs.drop k) (vs.drop k) (off + k) (by simp; omega) (relL_drop k h) (hr.drop k)⟩

theorem chunk_length {k : Nat} : ∀ (n : Nat) (cs : List A), (chunk k n cs).length = n
  | 0, _ => rfl
  | n + 1, cs => by simp [chunk, chunk_length n]

theorem partsA_length {sz : Nat → Option (Nat × Nat)} : ∀ (ps : List (Nat × A)) (cs cs' : List A), partsA sz cs ps = some cs' → cs'.length = cs.length
  | [], cs, cs', h => by simp only [partsA, Option.some.injEq] at h; subst h; rfl
  | (i, a) :: ps, cs, cs', h => by
    simp only [partsA] at h
    cases hs : sz i with
    | none => simp [hs] at h
    | some on =>
      cases hc : cellsOf? a with
      | none => simp [hs, hc] at h
      | some ds =>
        simp only [hs, hc] at h
        by_cases hb : ds.length = on.2 ∧ on.1 + on.2 ≤ cs.length
        · rw [if_pos hb] at h
          rw [partsA_length ps _ _ h]
          simp [overA]; omega
        · rw [if_neg hb] at h; cases h

def madeA (i : TI) (n : Nat) : List A := (List.range (n * i.size)).map fun q => liftV (i.zero.cells[q % i.zero.cells.size]!)

theorem q_buildSlice (hD : TyOk P D) {t : TypeId} {n : Nat} {ps : Array (Nat × Operand)} (ho : o.op = .buildSlice t n ps) {e : Nat} (ht : P.underlying t = some (.slice e)) {i : TI} (hi : D e = some i)
    (hpos : 0 < i.size) (hb : n * i.size ≤ 16777216) {cs : List A} (hc : partsA (fun q => some (q * i.size, i.size)) (madeA i n) (ps.toList.map fun p => (p.1, ρ p.2)) = some cs) :
    QOp P o ρ bx rw (.sl i.size (chunk i.size n cs)) := by
  intro w O0 m ev hst hr
  have hok := hD e i hi
  have hlen := partsA_length _ _ _ hc
  have hcl : cs.length = n * i.size := by rw [hlen]; simp [madeA]
  let z : Array Value := if n * i.size = 0 then #[] else i.zero.cells
  have hz : (List.range (n * i.size)).map (fun q => z[q % z.size]!) = (List.range (n * i.size)).map (fun q => i.zero.cells[q % i.zero.cells.size]!) := by
    by_cases h0 : n * i.size = 0
    · rw [h0]; rfl
    · show List.map (fun q => (if n * i.size = 0 then #[] else i.zero.cells)[q % (if n * i.size = 0 then #[] else i.zero.cells).size]!) _ = _
      simp [h0]
  have hrelz : relL w (Ow O0 m) m (lens rw) (madeA i n) ((Array.range (n * i.size)).map (fun q => z[q % z.size]!)).toList := by
    rw [Array.toList_map, Array.toList_range, hz]
    unfold madeA
    have := relL_lift (w := w) (O := Ow O0 m) (m := m) (ls := lens rw) ((List.range (n * i.size)).map (fun q => i.zero.cells[q % i.zero.cells.size]!))
    rwa [List.map_map] at this
  obtain ⟨cells', f1, f2⟩ := fill_rel (sz := fun q => some (q * i.size, i.size)) (ρ := ρ) (ev := ev) ps.toList _ _ cs hrelz (fun p hp => hr p.2 (by
    rw [ho]
    simp only [Op.operands]
    simpa using ⟨p.1, by simpa using hp⟩)) hc
  have hparts : (ps.map fun (p : Nat × Operand) => (p.1, ev p.2)).toList = ps.toList.map fun p => (p.1, ev p.2) := by simp
  have hnb : ¬ (n * i.size > 2 ^ 24) := by omega
  have hrun : (Instr.buildSlice t n (ps.map fun (p : Nat × Operand) => (p.1, ev p.2))).run P w = .ok (.slice (some ⟨w.heap.size, 0, none⟩) n n) (w.alloc (.cells cells' e)) := by
    by_cases h0 : n * i.size = 0
    · have hz' : z = #[] := if_pos h0
      rw [hz'] at f1
      simp only [Instr.buildSlice, Sem.run_bind, run_underlying ht, Result.andThen_ok, hok.run_sizeOf w, if_neg hnb, if_pos h0, hparts, Sem.run_pure, f1, newRow, run_newObj_alloc]
    · have hz' : z = i.zero.cells := if_neg h0
      rw [hz'] at f1
      simp only [Instr.buildSlice, Sem.run_bind, run_underlying ht, Result.andThen_ok, hok.run_sizeOf w, if_neg hnb, if_neg h0, hok.run_zero w, hparts, Sem.run_pure, f1, newRow, run_newObj_alloc]
  have hex : (execOp ev o).run P w = .ok (.value (.slice (some ⟨w.heap.size, 0, none⟩) n n)) (w.alloc (.cells cells' e)) := by
    simp only [execOp, ho]
    show ((do pure (.value (← Instr.buildSlice t n (ps.map fun (p : Nat × Operand) => (p.1, ev p.2)))) : Sem Next)).run P w = _
    simp only [Sem.run_bind, hrun, Result.andThen_ok, Sem.run_pure]
  rw [hex]
  have hbl := below_alloc w (.cells cells' e)
  refine ⟨hbl, ?_⟩
  have hO : ¬ Ow O0 m w.heap.size := by
    rintro (h | h)
    · exact Nat.lt_irrefl _ (hst.old _ h)
    · exact Nat.lt_irrefl _ (hst.blk _ h).1
  simp only [rel]
  refine ⟨some ⟨w.heap.size, 0, none⟩, n, by rw [chunk_length], by rw [chunk_length]; exact Nat.le_refl _, ?_, ?_⟩
  · have : n ≤ 16777216 := Nat.le_trans (Nat.le_mul_of_pos_right n hpos) hb
    omega
  · refine Or.inr ⟨w.heap.size, 0, rfl, by rw [size_alloc']; omega, hO, ?_⟩
    exact chunk_rows n cs cells'.toList 0 hcl (relL_mono (below_mono hbl _ _ _) _ _ f2) (Reads.block (heap_alloc_new w _))

theorem q_buildSlice0 (hD : TyOk P D) {t : TypeId} {ps : Array (Nat × Operand)} (ho : o.op = .buildSlice t 0 ps) (hps : ps = #[]) {e : Nat} (ht : P.underlying t = some (.slice e)) {i : TI} (hi : D e = some i) : QOp P o ρ bx rw .emp := by
  subst hps
  intro w O0 m ev hst hr
  have hok := hD e i hi
  have hrun : (Instr.buildSlice t 0 #[]).run P w = .ok (.slice (some ⟨w.heap.size, 0, none⟩) 0 0) (w.alloc (.cells #[] e)) := by
    simp [Instr.buildSlice, run_underlying ht, hok.run_sizeOf w, Instr.fill, newRow, Array.range_zero']
  have hex : (execOp ev o).run P w = .ok (.value (.slice (some ⟨w.heap.size, 0, none⟩) 0 0)) (w.alloc (.cells #[] e)) := by
    simp only [execOp, ho]
    have e0 : (#[] : Array (Nat × Operand)).map (fun x => (x.1, ev x.2)) = #[] := by simp
    rw [e0]
    simp only [Sem.run_bind, hrun, Result.andThen_ok, Sem.run_pure]
  rw [hex]
  exact ⟨below_alloc w _, by simp only [rel]; exact ⟨_, rfl⟩⟩

end
end Go.Proofs.Ytgedhnhgkmhgcaa.Abs
