/- TREES ARE MADE. -/
import Derived.Test.YtjclanocnkankaaE11e
namespace Go.Proofs.Ytjclanocnkankaa.Abs
open Go Go.RowKit
noncomputable section

theorem blocksL_none : ∀ n, Hd.blocksL (List.replicate n .none) = []
  | 0 => by simp [Hd.blocksL]
  | n + 1 => by simp [List.replicate_succ, Hd.blocksL, Hd.blocks, blocksL_none n]

/-- Zero cells of a tree. -/
def treZ : List V → Option (List A)
  | [] => some []
  | .d (.val x) :: vs => (treZ vs).map (.val x :: ·)
  | .nil k :: vs => (treZ vs).map (.sl k [] :: ·)
  | _ => none
theorem treZ_ok {w w' : World} {O : Nat → Prop} {m : Asg} : ∀ {vs : List V} {z : List A} {us : List Value}, treZ vs = some z → relVL w O m vs us → treL w' z us (List.replicate z.length .none) ∧ relL w' O z us
  | [], z, us, h, hr => by simp only [treZ] at h; cases h; simp only [relVL] at hr; subst hr; simp [treL, relL]
  | v :: vs, z, us, h, hr => by
    simp only [relVL] at hr
    obtain ⟨u, r, rfl, h1, h2⟩ := hr
    unfold treZ at h
    split at h
    · rename_i e; cases e
    · rename_i x vs' e
      cases e
      obtain ⟨z', hz, rfl⟩ := Option.map_eq_some_iff.1 h
      obtain ⟨g1, g2⟩ := treZ_ok (w' := w') hz h2
      simp only [relV, rel] at h1
      subst h1
      refine ⟨?_, ?_⟩
      · rw [List.length_cons, List.replicate_succ]
        exact treL_cons.2 ⟨.val u, z', u, r, rfl, rfl, ⟨rfl, rfl⟩, g1⟩
      · simp only [relL, rel]; exact ⟨u, r, rfl, rfl, g2⟩
    · rename_i k vs' e
      cases e
      obtain ⟨z', hz, rfl⟩ := Option.map_eq_some_iff.1 h
      obtain ⟨g1, g2⟩ := treZ_ok (w' := w') hz h2
      simp only [relV] at h1
      obtain ⟨p, rfl⟩ := h1
      refine ⟨?_, ?_⟩
      · rw [List.length_cons, List.replicate_succ]
        exact treL_cons.2 ⟨.sl k [], z', _, r, rfl, rfl, ⟨⟨p, rfl⟩, by simp [treOk]⟩, g1⟩
      · simp only [relL, rel]; exact ⟨_, r, rfl, ⟨p, 0, rfl, by simp, by omega, Or.inl trivial⟩, g2⟩
    · cases h

theorem rel_treZ {w : World} {O : Nat → Prop} {z : List A} {us : List Value} (h : treL w z us (List.replicate z.length .none)) : relL w O z us :=
  treL_rel _ (fun b hb => by rw [blocksL_none] at hb; cases hb) h

section
variable {P : Program} {X : Ctx} {o : Oper} {ρ : Operand → V}

theorem TOp.makeTre {t : TypeId} {x y : Operand} (ho : o.op = .makeSlice t x y) {e : Nat} (ht : P.underlying t = some (.slice e)) {i : TI} (hi : TI.ok P e i) {a b : A} (hx : ρ x = .d a) (hy : ρ y = .d b) {kl kc : IntKind} {l c : Int} (ha : a = .val (.int kl l)) (hb : b = .val (.int kc c))
    (h0 : 0 ≤ l) (hlc : l ≤ c) (hbytes : (i.bytes : Int) * c ≤ 281474976710656) (h63 : c ≤ 9223372036854775807) {z : List A} (hz : ∀ w O, relL w O z i.zero.cells.toList) (hzt : ∀ w, treL w z i.zero.cells.toList (List.replicate z.length .none)) (hone : OneCells i.zero.cells.toList) {nid : Nat} :
    TOp P X o ρ ⟨.row nid, [.fresh nid], [.obj nid (.tre false i.size (List.replicate l.toNat z))]⟩ := by
  intro w O0 m st ev hst hg hr _hc
  have hx' := hr x (by simp [ho, Op.operands])
  have hy' := hr y (by simp [ho, Op.operands])
  rw [hx, ha] at hx'
  rw [hy, hb] at hy'
  simp only [relV, rel] at hx' hy'
  obtain ⟨j, hj, j1, j2, j3⟩ := hi.some_info
  have hrun := run_make (P := P) w t e j i.zero ht hj j3 kl kc l c h0 hlc (by rw [j2]; exact hbytes) h63
  have hzl : i.zero.cells.toList.length = i.size := by simpa using hi.zsize
  have hzl2 : z.length = i.size := by rw [← relL_length (hz w fun _ => False)]; exact hzl
  have key : ∀ (n cn : Nat), n ≤ cn → ((madeCells i.zero.cells (cn * i.size)).toList.take (n * i.size)) = (List.replicate n i.zero.cells.toList).flatten := by
    intro n cn hn
    apply List.ext_getElem?
    intro q
    by_cases hq : q < n * i.size
    · have hpos : 0 < i.size := Nat.pos_of_ne_zero fun e0 => by rw [e0] at hq; simp at hq
      have h1 : (List.replicate n i.zero.cells.toList).flatten[q]? = i.zero.cells.toList[q % i.size]? := by
        clear hn
        induction n generalizing q with
        | zero => simp at hq
        | succ n ih =>
          rw [List.replicate_succ, List.flatten_cons]
          by_cases hq2 : q < i.size
          · rw [List.getElem?_append_left (by omega), Nat.mod_eq_of_lt hq2]
          · have hq3 : q - i.size < n * i.size := by
              rw [Nat.add_mul, Nat.one_mul] at hq; omega
            have hm2 := Nat.mod_eq_sub_mod (a := q) (b := i.size) (by omega)
            rw [List.getElem?_append_right (by omega), hzl, ih (q - i.size) hq3, ← hm2]
      rw [h1, List.getElem?_take, if_pos hq]
      have hlt : q < cn * i.size := Nat.lt_of_lt_of_le hq (Nat.mul_le_mul_right _ hn)
      have hm : q % i.size < i.zero.cells.size := by rw [hi.zsize]; exact Nat.mod_lt _ hpos
      simp only [madeCells, Array.getElem?_toList, Array.getElem?_map, Array.getElem?_range, hlt, if_true, Option.map_some, hi.zsize]
      rw [getElem!_pos i.zero.cells (q % i.size) hm, Array.getElem?_eq_getElem hm]
    · rw [List.getElem?_eq_none (by simp; omega), List.getElem?_eq_none]
      simp only [List.length_flatten, List.map_replicate, hzl, List.sum_replicate_nat]
      omega
  have hreplT : ∀ (W : World) n, treL W (List.replicate n z).flatten (List.replicate n i.zero.cells.toList).flatten (List.replicate (n * z.length) .none) := by
    intro W n
    induction n with
    | zero => simp [treL]
    | succ n ih =>
      simp only [List.replicate_succ, List.flatten_cons]
      rw [Nat.add_one_mul, Nat.add_comm, ← List.replicate_append_replicate]
      exact treL_append (hzt W) ih
  have hones : ∀ n, OneCells (List.replicate n i.zero.cells.toList).flatten := fun n v hv => by
    obtain ⟨q, hq, hv⟩ := List.mem_flatten.1 hv
    rw [(List.mem_replicate.1 hq).2] at hv
    exact hone v hv
  have hf : st nid = .dead := hg (.fresh nid) (by simp)
  have hex : (execOp ev o).run P w = .ok (.value (.slice (some ⟨w.heap.size, 0, none⟩) l.toNat c.toNat)) (w.alloc (.cells (madeCells i.zero.cells (c.toNat * j.size)) e)) := by
    simp [execOp, ho, hx', hy', hrun]
  rw [hex]
  have hsz : w.heap.size < (w.alloc (.cells (madeCells i.zero.cells (c.toNat * j.size)) e)).heap.size := by rw [size_alloc']; omega
  obtain ⟨k1, k2⟩ := new_obj hst (below_alloc w (.cells (madeCells i.zero.cells (c.toNat * j.size)) e)) hf (hd := .tre false w.heap.size c.toNat (List.replicate l.toNat z).length (List.replicate (l.toNat * z.length) .none)) (o := .tre false i.size (List.replicate l.toNat z)) (fun h => by cases h)
    (fun b hb => by
      simp only [Hd.blocks, blocksL_none, List.mem_singleton] at hb
      subst hb
      exact ⟨Nat.le_refl _, hsz⟩)
    ⟨_, rfl, by
      simp only [treOk]
      refine ⟨trivial, trivial, by simp; omega, by omega, fun q hq => by rw [(List.mem_replicate.1 hq).2]; exact hzl2, _, e, heap_alloc_new w _, by rw [size_madeCells, j1], ?_, ?_⟩
      · rw [List.length_replicate, j1, key _ _ (by omega)]; exact hones _
      · rw [List.length_replicate, j1, key _ _ (by omega)]; exact hreplT _ _, by simp [Hd.blocks, blocksL_none]⟩
  exact ⟨_, k1, k2, by simp only [relV]; exact ⟨_, upd_self _ _ _, by simp [hdr]⟩⟩
end
end
end Go.Proofs.Ytjclanocnkankaa.Abs
