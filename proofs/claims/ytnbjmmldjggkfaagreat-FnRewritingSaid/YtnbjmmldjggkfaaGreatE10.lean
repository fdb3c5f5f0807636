/- OPERATIONS THAT TURN THE STORE (2): rows that are made and grown. -/
import Derived.Test.YtnbjmmldjggkfaaGreatE9
namespace Go.Proofs.YtnbjmmldjggkfaaGreat.Abs
open Go Go.RowKit
noncomputable section

section
variable {P : Program} {X : Ctx} {o : Oper} {ρ : Operand → V} {C : Cfg}

/-- What stands behind a value that is appended. -/
def SrcOk (w : World) (O : Nat → Prop) (k : Nat) (ys : List (List A)) (v : Value) : Prop :=
  ∃ ad c news, v = .slice ad ys.length c ∧ relL w O ys.flatten news ∧ OneCells news ∧ (∀ y ∈ ys, y.length = k) ∧ (ys = [] ∨ ∃ b off, ad = some ⟨b, off, none⟩ ∧ Reads w b off news)

theorem src_data {w : World} {O : Nat → Prop} {k : Nat} {ys : List (List A)} {v : Value} (h : rel w O (.sl k ys) v) : SrcOk w O k ys v := by
  simp only [rel] at h
  obtain ⟨a, cap, rfl, h2, h3, h4⟩ := h
  rcases h4 with rfl | ⟨b, off, h5, h6, h7, h8⟩
  · exact ⟨a, cap, [], rfl, by simp [relL], (fun v h => by cases h), by simp, Or.inl rfl⟩
  · obtain ⟨vs, g1, g2, g4, g3⟩ := flat_of_rows h8
    exact ⟨a, cap, vs, rfl, g1, g4, g3, Or.inr ⟨b, off, h5, g2⟩⟩

theorem src_row {w : World} {O : Nat → Prop} {k : Nat} {ys : List (List A)} {hd : Hd} {v : Value} (h : rowOk w O k ys hd) (hv : hdr hd v) : SrcOk w O k ys v := by
  cases hd with
  | none =>
    simp only [rowOk] at h
    simp only [hdr] at hv
    subst h
    obtain ⟨a, rfl⟩ := hv
    exact ⟨a, 0, [], rfl, by simp [relL], (fun v h => by cases h), by simp, Or.inl rfl⟩
  | blk b cap n =>
    obtain ⟨rfl, q1, q2, q3, c, T, q4, q5, q7, q6⟩ := h
    simp only [hdr] at hv
    exact ⟨_, cap, _, hv, q6, q7, q3, Or.inr ⟨b, 0, rfl, (Reads.block q4).take _⟩⟩
  | tre => exact h.elim
  | mp => exact h.elim

theorem src_nil {w : World} {O : Nat → Prop} {k : Nat} {v : Value} (h : ∃ a, v = .slice a 0 0) : SrcOk w O k [] v := by
  obtain ⟨a, rfl⟩ := h
  exact ⟨a, 0, [], rfl, by simp [relL], (fun v h => by cases h), by simp, Or.inl rfl⟩

/-- What an append comes to: the new header, the world, the cells. -/
theorem append_core (P : Program) {w : World} {O : Nat → Prop} {t ty e : TypeId} {i : TI} (ht : P.underlying t = some (.slice e)) (hi : TI.ok P e i)
    {xs ys : List (List A)} {hd : Hd} {v u : Value} (hv : hdr hd v) (hrow : rowOk w O i.size xs hd) (hsrc : SrcOk w O i.size ys u)
    (hfit : (xs.length + ys.length) * i.bytes ≤ 140737488355328) (h63 : xs.length + ys.length ≤ 9223372036854775807) :
    ∃ v' w', (Builtin.append_ #[t, t] ty #[v, u]).run P w = .ok v' w' ∧
      ((ys = [] ∧ w' = w ∧ v' = v) ∨
       (∃ b cap n cs T, hd = .blk b cap n ∧ v' = .slice (some ⟨b, 0, none⟩) (xs.length + ys.length) cap ∧ xs.length + ys.length ≤ cap ∧ cap ≤ 9223372036854775807 ∧ (w'.os = w.os ∧ w'.tape = w.tape ∧ Quiet w w' ∧ w'.heap.size = w.heap.size ∧ ∀ b', b' ≠ b → w'.heap[b']? = w.heap[b']?) ∧
          w'.heap[b]? = some (.cells cs T (0, 0)) ∧ cs.size = cap * i.size ∧ OneCells (cs.toList.take ((xs.length + ys.length) * i.size)) ∧ relL w O (xs ++ ys).flatten (cs.toList.take ((xs.length + ys.length) * i.size))) ∨
       (∃ cap cs T, v' = .slice (some ⟨w.heap.size, 0, none⟩) (xs.length + ys.length) cap ∧ xs.length + ys.length ≤ cap ∧ cap ≤ 9223372036854775807 ∧ Below w.heap.size w w' ∧ w.heap.size < w'.heap.size ∧
          w'.heap[w.heap.size]? = some (.cells cs T (0, 0)) ∧ cs.size = cap * i.size ∧ OneCells (cs.toList.take ((xs.length + ys.length) * i.size)) ∧ relL w O (xs ++ ys).flatten (cs.toList.take ((xs.length + ys.length) * i.size)))) := by
  obtain ⟨ad, c, news, rfl, hnews, hok', hyk, hsrc⟩ := hsrc
  obtain ⟨j, hj, j1, j2, j3⟩ := hi.some_info
  have hnl : news.length = ys.length * i.size := by rw [relL_length hnews, len_flat hyk]
  -- the header
  have hv2 : ∃ base cap, v = .slice base xs.length cap ∧ xs.length ≤ cap ∧ ((hd = .none ∧ cap = 0) ∨ ∃ b n, hd = .blk b cap n ∧ base = some ⟨b, 0, none⟩) := by
    cases hd with
    | none => simp only [hdr] at hv; obtain ⟨a, rfl⟩ := hv; simp only [rowOk] at hrow; subst hrow; exact ⟨a, 0, rfl, by simp, Or.inl ⟨rfl, rfl⟩⟩
    | blk b cap n => simp only [hdr] at hv; obtain ⟨rfl, q, _⟩ := hrow; exact ⟨_, cap, hv, q, Or.inr ⟨b, _, rfl, rfl⟩⟩
    | tre => exact hrow.elim
    | mp => exact hrow.elim
  obtain ⟨base, cap, rfl, hcap, hhd⟩ := hv2
  by_cases hy0 : ys = []
  · subst hy0
    refine ⟨.slice base xs.length cap, w, ?_, Or.inl ⟨rfl, rfl, rfl⟩⟩
    have hf : (Builtin.firstCells i.size 0 (.slice ad 0 c)).run P w = .ok #[] w := by
      cases ad <;> simp [Builtin.firstCells, loadCells, loadCellsFrom]
    cases base <;> simp [Builtin.append_, run_underlying ht, sizeOf, typeInfo, hj, j1, Builtin.lenOf, hcap, hf, storeCells]
  · obtain ⟨b2, off2, rfl, hreads⟩ := hsrc.resolve_left hy0
    have hypos : 0 < ys.length := List.length_pos_iff.2 hy0
    have hn1 : ∀ jj u, news[jj]? = some u → w.cell? ((⟨b2, off2, none⟩ : Addr).add jj) = some u := fun jj u hu => by rw [add_eq]; exact hreads jj u hu
    by_cases hroom : xs.length + ys.length ≤ cap
    · -- in place
      rcases hhd with ⟨_, rfl⟩ | ⟨b, n, rfl, rfl⟩
      · omega
      obtain ⟨_, q1, q2, q3, cc, T, q4, q5, q7, q6⟩ := hrow
      have hf := run_firstCells_some (P := P) w i.size ys.length ⟨b2, off2, none⟩ ys.length c news hnl hn1
      have hsum : (xs.length + ys.length) * i.size ≤ cap * i.size := Nat.mul_le_mul_right _ hroom
      have hadd : (xs.length + ys.length) * i.size = xs.length * i.size + ys.length * i.size := Nat.add_mul _ _ _
      obtain ⟨W, hst, w1, w2, w3, w4, w5, w6⟩ := run_stores P q4 (xs.length * i.size) news (by rw [hnl]; omega) hok'
      have hl2 : cc.toList.length = cap * i.size := by simp [q5]
      have e : ((over cc.toList (xs.length * i.size) news).toArray.toList.take ((xs.length + ys.length) * i.size)) = cc.toList.take (xs.length * i.size) ++ news := by
        have hl1 : (cc.toList.take (xs.length * i.size)).length = xs.length * i.size := by simp; omega
        unfold over
        rw [List.take_append_of_le_length (by simp [hnl]; omega), List.take_of_length_le (by simp [hnl]; omega)]
      refine ⟨.slice (some ⟨b, 0, none⟩) (xs.length + ys.length) cap, W, ?_, Or.inr (Or.inl ⟨b, cap, n, _, T, rfl, rfl, hroom, q2, ⟨w1, w2, w3, w4, w5⟩, w6, ?_, ?_, ?_⟩)⟩
      · have hadd2 : (⟨b, 0, none⟩ : Addr).add (xs.length * i.size) = ⟨b, xs.length * i.size, none⟩ := by rw [add_eq]; simp
        have hf' : (Builtin.firstCells j.size ys.length (.slice (some ⟨b2, off2, none⟩) ys.length c)).run P w = .ok news.toArray w := by rw [j1]; exact hf
        have hst' : (storeCells ((⟨b, 0, none⟩ : Addr).add (xs.length * j.size)) news).run P w = .ok () W := by rw [j1, hadd2]; exact hst
        simp [Builtin.append_, run_underlying ht, sizeOf, typeInfo, hj, Builtin.lenOf, hroom, hf', hst']
      · rw [List.size_toArray, over_length (by rw [hnl, hl2]; omega), hl2]
      · rw [e]; exact (q7.append hok')
      · have hfl : (xs ++ ys).flatten = xs.flatten ++ ys.flatten := by simp
        rw [hfl, e]
        exact relL_append q6 hnews
    · -- a new block
      have hlt : cap < xs.length + ys.length := by omega
      have hgf := growslice_fits (bytes := i.bytes) hlt hfit
      have hgc := grownCap_ge w (xs.length + ys.length) cap e
      have hgm := grownCap_le_maxLen w (xs.length + ys.length) cap e (by simpa [maxLen] using h63)
      have holds : ∃ olds : List Value, relL w O xs.flatten olds ∧ OneCells olds ∧ olds.length = xs.length * i.size ∧ (Builtin.firstCells j.size xs.length (.slice base xs.length cap)).run P w.drew = .ok olds.toArray w.drew := by
        rcases hhd with ⟨rfl, rfl⟩ | ⟨b, n, rfl, rfl⟩
        · simp only [rowOk] at hrow
          subst hrow
          refine ⟨[], by simp [relL], (fun v h => by cases h), by simp, ?_⟩
          cases base <;> simp [Builtin.firstCells, loadCells, loadCellsFrom]
        · obtain ⟨_, q1, q2, q3, cc, T, q4, q5, q7, q6⟩ := hrow
          have hl1 : (cc.toList.take (xs.length * i.size)).length = xs.length * i.size := by rw [relL_length q6, len_flat q3]
          refine ⟨_, q6, q7, hl1, ?_⟩
          rw [j1]
          refine run_firstCells_some (P := P) w.drew i.size xs.length ⟨b, 0, none⟩ xs.length cap _ hl1 ?_
          intro jj u hu
          rw [add_eq]
          have := ((Reads.block q4).take (xs.length * i.size)) jj u hu
          simpa using this
      obtain ⟨olds, ho1, ho4, ho2, ho3⟩ := holds
      have hf' : (Builtin.firstCells j.size ys.length (.slice (some ⟨b2, off2, none⟩) ys.length c)).run P w.drew = .ok news.toArray w.drew := by
        rw [j1]; exact run_firstCells_some (P := P) w.drew i.size ys.length ⟨b2, off2, none⟩ ys.length c news hnl (by simpa using hn1)
      have n1 : ¬ (xs.length + ys.length ≤ cap) := hroom
      have n2 : ¬ (9223372036854775807 < ((xs.length : Int) + (ys.length : Int))) := by omega
      have n3 : ¬ (281474976710656 < Builtin.nextslicecap (xs.length + ys.length) cap * j.bytes) := by rw [j2]; omega
      have e2 : ((olds.toArray ++ news.toArray ++ Builtin.zeroCells i.zero.cells (grownCap w (xs.length + ys.length) cap e - (xs.length + ys.length))).toList.take ((xs.length + ys.length) * i.size)) = olds ++ news := by
        simp only [Array.toList_append]
        rw [List.take_append_of_le_length (by simp [ho2, hnl, Nat.add_mul]), List.take_of_length_le (by simp [ho2, hnl, Nat.add_mul])]
      refine ⟨.slice (some ⟨w.heap.size, 0, none⟩) (xs.length + ys.length) (grownCap w (xs.length + ys.length) cap e), w.drew.alloc (.cells (olds.toArray ++ news.toArray ++ Builtin.zeroCells i.zero.cells (grownCap w (xs.length + ys.length) cap e - (xs.length + ys.length))) e),
        ?_, Or.inr (Or.inr ⟨_, olds.toArray ++ news.toArray ++ Builtin.zeroCells i.zero.cells (grownCap w (xs.length + ys.length) cap e - (xs.length + ys.length)), e, rfl, hgc, by simpa [maxLen] using hgm, ?_, ?_, ?_, ?_, ?_, ?_⟩)⟩
      · simp [Builtin.append_, run_underlying ht, sizeOf, typeInfo, zeroValue, hj, j3, Builtin.lenOf, n1, n2, n3, Question.forced, ho3, hf', newRow, grownCap]
        congr 2
        rw [← Array.append_assoc]
        simp
      · exact ((Below.refl _ w).drew).alloc (by simp) _
      · show w.heap.size < (w.drew.alloc _).heap.size
        rw [size_alloc']; simp
      · exact heap_alloc_new w.drew _
      · simp only [Array.size_append, List.size_toArray, Builtin.zeroCells, Array.size_map, Array.size_range, hi.zsize, ho2, hnl]
        rw [← Nat.add_mul, ← Nat.add_mul]
        congr 1
        omega
      · rw [e2]; exact ho4.append hok'
      · have hfl : (xs ++ ys).flatten = xs.flatten ++ ys.flatten := by simp
        rw [hfl, e2]
        exact relL_append ho1 hnews

theorem append_run {ev : Operand → Value} {s x : Operand} {xs : Array Operand} {ts : Array TypeId} (ho : o.op = .call { callee := .builtin .append, args := xs, argTypes := ts }) (hxs : xs = #[s, x]) {w w' : World} {v : Value}
    (h : (Builtin.append_ ts o.type #[ev s, ev x]).run P w = .ok v w') : (execOp ev o).run P w = .ok (.value v) w' := by
  subst hxs
  simp [execOp, ho, resolve, invoke, builtin, h]

/-- append to an empty slice without room: a new row. -/
theorem TOp.append0 {s x : Operand} {xs : Array Operand} {ts : Array TypeId} {t : TypeId} (ho : o.op = .call { callee := .builtin .append, args := xs, argTypes := ts }) (hxs : xs = #[s, x]) (hts : ts = #[t, t])
    {e : Nat} (ht : P.underlying t = some (.slice e)) {i : TI} (hi : TI.ok P e i) {ys : List (List A)} {k0 : Nat} (hs : ρ s = .nil k0) {rds : List Rd} {nid : Nat}
    (hx : ∀ (w : World) (O0 : Nat → Prop) (m : Asg) (st : Stor) (u : Value), Sto X w O0 m st → (∀ r ∈ rds, agr st r) → relV w (Ow O0 m st) m (ρ x) u → SrcOk w (Ow O0 m st) i.size ys u)
    (hfit : ys.length * i.bytes ≤ 140737488355328) (h63 : ys.length ≤ 9223372036854775807) : TOp P X o ρ ⟨.row nid, .fresh nid :: rds, [.obj nid (.row i.size ys)]⟩ := by
  intro w O0 m st ev hst hg hr _hc
  have hs' := hr s (by simp [ho, Op.operands, Call.operands, hxs])
  have hx' := hx w O0 m st _ hst (fun r h => hg r (by simp [h])) (hr x (by simp [ho, Op.operands, Call.operands, hxs]))
  rw [hs] at hs'
  simp only [relV] at hs'
  obtain ⟨v', w', a1, a2⟩ := append_core P (ty := o.type) (xs := []) (hd := .none) ht hi (by simpa only [hdr] using hs') (by simp [rowOk]) hx' (by simpa using hfit) (by simpa using h63)
  have hrun := append_run (P := P) (ev := ev) ho hxs (by rw [hts]; exact a1)
  rw [hrun]
  have hf : st nid = .dead := hg (.fresh nid) (by simp)
  simp only [List.length_nil, Nat.zero_add, List.nil_append] at a2
  rcases a2 with ⟨rfl, rfl, rfl⟩ | ⟨b, cap, n, cs, T, r1, _⟩ | ⟨cap, cs, T, rfl, r3, r4, r5, r6, r7, r8, r10, r9⟩
  · obtain ⟨a, hv⟩ := hs'
    exact post_newrow hst (Below.refl _ _) hf (hd := .none) ⟨a, hv⟩ (Or.inl ⟨rfl, rfl⟩)
  · cases r1
  · obtain ⟨_, _, _, _, _, _, hyk, _⟩ := hx'
    exact post_newrow hst r5 hf (hd := .blk w.heap.size cap ys.length) rfl (Or.inr ⟨cap, cs, T, rfl, r6, r3, r4, hyk, r7, r8, r10, r9⟩)

/-- A living row's place. -/
theorem row_at {w : World} {O0 : Nat → Prop} {m : Asg} {st : Stor} (hs : Sto X w O0 m st) {id k : Nat} {xs : List (List A)} (hf : st id = .row k xs) {u : Value} (hr : relV w (Ow O0 m st) m (.row id) u) : ∃ hd, m id = some hd ∧ hdr hd u ∧ rowOk w (Ow O0 m st) k xs hd := by
  simp only [relV] at hr
  obtain ⟨hd, h1, h2⟩ := hr
  have ho := hs.obj id
  rw [hf] at ho
  obtain ⟨hd', g1, g2⟩ := ho
  rw [h1] at g1
  cases g1
  exact ⟨_, h1, h2, g2⟩

/-- append to a row of the call's own: the row goes on under a new number. -/
theorem TOp.append {s x : Operand} {xs : Array Operand} {ts : Array TypeId} {t : TypeId} (ho : o.op = .call { callee := .builtin .append, args := xs, argTypes := ts }) (hxs : xs = #[s, x]) (hts : ts = #[t, t])
    {e : Nat} (ht : P.underlying t = some (.slice e)) {i : TI} (hi : TI.ok P e i) {us ys : List (List A)} {id : Nat} (hs : ρ s = .row id) {rds : List Rd} {nid : Nat} (hne : nid ≠ id)
    (hx : ∀ (w : World) (O0 : Nat → Prop) (m : Asg) (st : Stor) (u : Value), Sto X w O0 m st → (∀ r ∈ rds, agr st r) → relV w (Ow O0 m st) m (ρ x) u → SrcOk w (Ow O0 m st) i.size ys u)
    (hfit : (us.length + ys.length) * i.bytes ≤ 140737488355328) (h63 : us.length + ys.length ≤ 9223372036854775807) : TOp P X o ρ ⟨.row nid, .fresh nid :: .obj id (.row i.size us) :: rds, [.obj id .gone, .obj nid (.row i.size (us ++ ys))]⟩ := by
  intro w O0 m st ev hst hg hr _hc
  have hs' := hr s (by simp [ho, Op.operands, Call.operands, hxs])
  have hx' := hx w O0 m st _ hst (fun r h => hg r (by simp [h])) (hr x (by simp [ho, Op.operands, Call.operands, hxs]))
  rw [hs] at hs'
  have hid : st id = .row i.size us := hg (.obj id (.row i.size us)) (by simp)
  have hf : st nid = .dead := hg (.fresh nid) (by simp)
  obtain ⟨hd, g1, g2, g3⟩ := row_at hst hid hs'
  obtain ⟨v', w', a1, a2⟩ := append_core P (ty := o.type) ht hi g2 g3 hx' hfit h63
  have hrun := append_run (P := P) (ev := ev) ho hxs (by rw [hts]; exact a1)
  rw [hrun]
  have hmn := hst.fresh nid hf
  have hyk : ∀ y ∈ ys, y.length = i.size := by obtain ⟨_, _, _, _, _, _, h, _⟩ := hx'; exact h
  have hxk : ∀ y ∈ us, y.length = i.size := by
    cases hd with
    | none => simp only [rowOk] at g3; subst g3; simp
    | blk b c n => exact g3.2.2.2.1
    | tre => exact g3.elim
    | mp => exact g3.elim
  have hk : ∀ z ∈ us ++ ys, z.length = i.size := fun z hz => (List.mem_append.1 hz).elim (hxk z) (hyk z)
  -- the block stays, or there is none: the same place under the new number
  have stay : ∀ (W : World) (hd' : Hd), (∀ b ∈ hd'.blocks, b ∈ hd.blocks) → W.os = w.os → W.tape = w.tape → Quiet w W → W.heap.size = w.heap.size → (∀ b', b' ∉ hd.blocks → W.heap[b']? = w.heap[b']?) →
      (MonoW w (Ow O0 m st) W (Ow O0 (upd m nid (some hd')) (upd (upd st id .gone) nid (.row i.size (us ++ ys)))) → rowOk W (Ow O0 (upd m nid (some hd')) (upd (upd st id .gone) nid (.row i.size (us ++ ys)))) i.size (us ++ ys) hd') → hdr hd' v' →
      Post X w O0 m st [.obj id .gone, .obj nid (.row i.size (us ++ ys))] (.row nid) W v' := by
    intro W hd' hsame w1 w2 w3 w4 w5 hok hv
    have hal : (st id).alive = true := by rw [hid]; rfl
    have hst' : ∀ j, upd (upd st id .gone) nid (.row i.size (us ++ ys)) j = if j = nid then .row i.size (us ++ ys) else if j = id then .gone else st j := fun j => by
      by_cases e1 : j = nid
      · subst e1; rw [upd_self, if_pos rfl]
      · rw [upd_ne _ _ e1, if_neg e1]
        by_cases e2 : j = id
        · subst e2; rw [upd_self, if_pos rfl]
        · rw [upd_ne _ _ e2, if_neg e2]
    have hm' : ∀ j, upd m nid (some hd') j = if j = nid then some hd' else m j := fun j => by
      by_cases e1 : j = nid
      · subst e1; rw [upd_self, if_pos rfl]
      · rw [upd_ne _ _ e1, if_neg e1]
    have hnew : ∀ b', Mz (upd m nid (some hd')) (upd (upd st id .gone) nid (.row i.size (us ++ ys))) b' → Mz m st b' := by
      rintro b' ⟨j, hj, h1, h2, h3⟩
      rw [hst'] at h1
      rw [hm'] at h2
      by_cases e1 : j = nid
      · rw [if_pos e1] at h2
        cases h2
        exact ⟨id, hd, hal, g1, hsame b' h3⟩
      · rw [if_neg e1] at h1 h2
        by_cases e2 : j = id
        · rw [if_pos e2] at h1; cases h1
        · rw [if_neg e2] at h1; exact ⟨j, hj, h1, h2, h3⟩
    have hchg : Chg w m st W (upd m nid (some hd')) (upd (upd st id .gone) nid (.row i.size (us ++ ys))) :=
      ⟨w1, w2, w3, by omega, fun b' _ hn => w5 b' fun e => hn ⟨id, hd, hal, g1, e⟩, MLe.of fun j h e => by
        rw [hm', if_neg (fun e' => by subst e'; rw [hmn] at e; cases e)]; exact e, fun b' h => Or.inl (hnew b' h)⟩
    suffices hsto : Sto X W O0 (upd m nid (some hd')) (upd (upd st id .gone) nid (.row i.size (us ++ ys))) from
      ⟨upd m nid (some hd'), hchg, hsto, by simp only [relV]; exact ⟨_, upd_self _ _ _, hv⟩⟩
    refine hst.chg hchg ?_ ?_ ?_ ?_
    · intro j h
      rw [hst'] at h
      rw [hm']
      by_cases e1 : j = nid
      · rw [if_pos e1] at h; cases h
      · rw [if_neg e1] at h ⊢
        by_cases e2 : j = id
        · rw [if_pos e2] at h; cases h
        · rw [if_neg e2] at h; exact hst.fresh j h
    · intro j hj b' h1 h2 h3
      rw [hst'] at h1
      rw [hm'] at h2
      by_cases e1 : j = nid
      · rw [if_pos e1] at h2
        cases h2
        have := hst.blk id hd b' hal g1 (hsame b' h3)
        exact Or.inr ⟨by omega, this.2⟩
      · rw [if_neg e1] at h1 h2
        by_cases e2 : j = id
        · rw [if_pos e2] at h1; cases h1
        · rw [if_neg e2] at h1; exact Or.inl ⟨h1, h2⟩
    · intro j j' hj hj' b' h1 h2 h3 h4 h5 h6
      rw [hst'] at h1 h2
      rw [hm'] at h3 h4
      by_cases e1 : j = nid
      · by_cases e2 : j' = nid
        · rw [e1, e2]
        · rw [if_pos e1] at h3
          cases h3
          rw [if_neg e2] at h2 h4
          by_cases e3 : j' = id
          · rw [if_pos e3] at h2; cases h2
          · rw [if_neg e3] at h2
            exact absurd (hst.inj id j' hd hj' b' hal h2 g1 h4 (hsame b' h5) h6).symm e3
      · rw [if_neg e1] at h1 h3
        by_cases e3 : j = id
        · rw [if_pos e3] at h1; cases h1
        · rw [if_neg e3] at h1
          by_cases e2 : j' = nid
          · rw [if_pos e2] at h4
            cases h4
            exact absurd (hst.inj id j hd hj b' hal h1 g1 h3 (hsame b' h6) h5).symm e3
          · rw [if_neg e2] at h2 h4
            by_cases e4 : j' = id
            · rw [if_pos e4] at h2; cases h2
            · rw [if_neg e4] at h2
              exact hst.inj j j' hj hj' b' h1 h2 h3 h4 h5 h6
    · intro j
      by_cases e1 : j = nid
      · subst e1
        rw [upd_self, upd_self]
        exact Or.inr ⟨hd', rfl, hok (hchg.monoW O0)⟩
      · rw [upd_ne _ _ e1, upd_ne _ _ e1]
        by_cases e2 : j = id
        · subst e2; rw [upd_self]; exact Or.inr trivial
        · rw [upd_ne _ _ e2]
          exact Or.inl ⟨rfl, rfl, fun hj b' h1 h2 h3 => w5 b' fun e' => e2 (hst.inj j id hj hd b' h1 hal h2 g1 h3 e')⟩
  rcases a2 with ⟨rfl, rfl, rfl⟩ | ⟨b, cap, n, cs, T, r1, r2, r3, r4, ⟨w1, w2, w3, w4, w5⟩, r6, r7, r9, r8⟩ | ⟨cap, cs, T, rfl, r3, r4, r5, r6, r7, r8, r10, r9⟩
  · refine stay _ hd (fun b e => e) rfl rfl (Quiet.refl _) rfl (fun _ _ => rfl) (fun hmono => ?_) g2
    have := rowOk_mono hmono (fun _ _ _ _ => rfl) g3
    simpa using this
  · subst r1
    refine stay w' (.blk b cap (us.length + ys.length)) (fun b' e => by rw [blk_mem e]; exact mem_blk) w1 w2 w3 w4 (fun b' hb' => w5 b' fun e => hb' (by rw [e]; exact mem_blk)) (fun hmono => ?_) r2
    exact ⟨by simp, by simpa using r3, r4, hk, cs, T, r6, r7, by simpa using r9, by simpa using relL_mono hmono _ _ r8⟩
  · refine Post.after (ws := [.obj id .gone]) (Chg.ghost fun h => by cases h) ?_
    have hkill : Sto X w O0 m (apps st [.obj id .gone]) := hst.kill id
    have hf' : apps st [.obj id .gone] nid = .dead := by
      show upd st id .gone nid = _
      rw [upd_ne _ _ hne, hf]
    refine post_newrow hkill r5 hf' (hd := .blk w.heap.size cap (us.length + ys.length)) rfl (Or.inr ⟨cap, cs, T, by simp, r6, by simpa using r3, r4, hk, r7, r8, by simpa using r10, ?_⟩)
    have := relL_mono (MonoW.sub (O' := Ow O0 m (apps st [.obj id .gone])) (Ow_upd fun h => by cases h)) _ _ r9
    simpa using this

/-- make of a row -/
theorem TOp.make {t : TypeId} {x y : Operand} (ho : o.op = .makeSlice t x y) {e : Nat} (ht : P.underlying t = some (.slice e)) {i : TI} (hi : TI.ok P e i) {a b : A} (hx : ρ x = .d a) (hy : ρ y = .d b) {kl kc : IntKind} {l c : Int} (ha : a = .val (.int kl l)) (hb : b = .val (.int kc c))
    (h0 : 0 ≤ l) (hlc : l ≤ c) (hbytes : (i.bytes : Int) * c ≤ 281474976710656) (h63 : c ≤ 9223372036854775807) {z : List A} (hz : ∀ w O, relL w O z i.zero.cells.toList) (hone : OneCells i.zero.cells.toList) {nid : Nat} :
    TOp P X o ρ ⟨.row nid, [.fresh nid], [.obj nid (.row i.size (List.replicate l.toNat z))]⟩ := by
  intro w O0 m st ev hst hg hr _hc
  have hx' := hr x (by simp [ho, Op.operands])
  have hy' := hr y (by simp [ho, Op.operands])
  rw [hx, ha] at hx'
  rw [hy, hb] at hy'
  simp only [relV, rel] at hx' hy'
  obtain ⟨j, hj, j1, j2, j3⟩ := hi.some_info
  have hrun := run_make (P := P) w t e j i.zero ht hj j3 kl kc l c h0 hlc (by rw [j2]; exact hbytes) h63
  have hzl : i.zero.cells.toList.length = i.size := by simpa using hi.zsize
  have hzl2 : z.length = i.size := by rw [← relL_length (hz w fun _ => False)]; exact hzl
  have key : ∀ (n cn : Nat), n ≤ cn → ((madeCells i.zero.cells (cn * i.size)).toList.take (n * i.size)) = (List.replicate n i.zero.cells.toList).flatten := by
    intro n cn hn
    apply List.ext_getElem?
    intro q
    by_cases hq : q < n * i.size
    · have hpos : 0 < i.size := Nat.pos_of_ne_zero fun e0 => by rw [e0] at hq; simp at hq
      have h1 : (List.replicate n i.zero.cells.toList).flatten[q]? = i.zero.cells.toList[q % i.size]? := by
        clear hn
        induction n generalizing q with
        | zero => simp at hq
        | succ n ih =>
          rw [List.replicate_succ, List.flatten_cons]
          by_cases hq2 : q < i.size
          · rw [List.getElem?_append_left (by omega), Nat.mod_eq_of_lt hq2]
          · have hq3 : q - i.size < n * i.size := by
              rw [Nat.add_mul, Nat.one_mul] at hq; omega
            have hm2 := Nat.mod_eq_sub_mod (a := q) (b := i.size) (by omega)
            rw [List.getElem?_append_right (by omega), hzl, ih (q - i.size) hq3, ← hm2]
      rw [h1, List.getElem?_take, if_pos hq]
      have hlt : q < cn * i.size := Nat.lt_of_lt_of_le hq (Nat.mul_le_mul_right _ hn)
      have hm : q % i.size < i.zero.cells.size := by rw [hi.zsize]; exact Nat.mod_lt _ hpos
      simp only [madeCells, Array.getElem?_toList, Array.getElem?_map, Array.getElem?_range, hlt, if_true, Option.map_some, hi.zsize]
      rw [getElem!_pos i.zero.cells (q % i.size) hm, Array.getElem?_eq_getElem hm]
    · rw [List.getElem?_eq_none (by simp; omega), List.getElem?_eq_none]
      simp only [List.length_flatten, List.map_replicate, hzl, List.sum_replicate_nat]
      omega
  have hrepl : ∀ n, relL w (Ow O0 m st) (List.replicate n z).flatten (List.replicate n i.zero.cells.toList).flatten := by
    intro n
    induction n with
    | zero => simp [relL]
    | succ n ih => simp only [List.replicate_succ, List.flatten_cons]; exact relL_append (hz _ _) ih
  have hones : ∀ n, OneCells (List.replicate n i.zero.cells.toList).flatten := fun n v hv => by
    obtain ⟨q, hq, hv⟩ := List.mem_flatten.1 hv
    rw [(List.mem_replicate.1 hq).2] at hv
    exact hone v hv
  have hf : st nid = .dead := hg (.fresh nid) (by simp)
  have hex : (execOp ev o).run P w = .ok (.value (.slice (some ⟨w.heap.size, 0, none⟩) l.toNat c.toNat)) (w.alloc (.cells (madeCells i.zero.cells (c.toNat * j.size)) e)) := by
    simp [execOp, ho, hx', hy', hrun]
  rw [hex]
  refine post_newrow hst (below_alloc w _) hf (hd := .blk w.heap.size c.toNat (List.replicate l.toNat z).length) (by simp [hdr]) (Or.inr ⟨c.toNat, _, e, rfl, by rw [size_alloc']; omega, by simp; omega, by omega, fun q hq => by rw [(List.mem_replicate.1 hq).2]; exact hzl2, heap_alloc_new w _, by rw [size_madeCells, j1], ?_, ?_⟩)
  · rw [List.length_replicate, j1, key _ _ (by omega)]; exact hones _
  · rw [List.length_replicate, j1, key _ _ (by omega)]; exact hrepl _
end
end
end Go.Proofs.YtnbjmmldjggkfaaGreat.Abs
