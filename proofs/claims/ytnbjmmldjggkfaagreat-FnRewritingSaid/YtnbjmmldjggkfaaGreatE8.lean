/- OPERATIONS THAT LOOK AND RECKON: the whole. -/
import Derived.Test.YtnbjmmldjggkfaaGreatE7
import Derived.Laws.BytesArg
namespace Go.Proofs.YtnbjmmldjggkfaaGreat.Abs
open Go Go.RowKit
noncomputable section

section
variable {X : Ctx} {o : Oper} {ρ : Operand → V} {C : Cfg} {M : Node → Option Out} {st : Stor}

theorem isBoolT_spec (hD : TyOk C.P C.D) {t : Nat} (h : isBoolT C t = true) : C.P.underlying t = some .bool := by
  unfold isBoolT at h
  split at h
  · rename_i i hi
    have hd := (hD _ _ hi).desc
    split at h
    · rename_i hk; rw [hk] at hd; exact hd
    · cases h
  · cases h

theorem kind_desc (hD : TyOk C.P C.D) {t : Nat} {i : TI} (h : C.D t = some i) {k : TK} (hk : i.kind = k) : k.desc C.P t := by
  have := (hD _ _ h).desc
  rwa [hk] at this

theorem ok_field (hD : TyOk C.P C.D) {s : TypeId} {x : Operand} {f : Nat} (ho : o.op = .field s x f) : DRok C.P X C M o ρ st (match fieldOf C s f with
    | some (off, j) => (match ρ x with
      | .agg cs => if j.kind.plain then (match cs[off]? with | some v => .val v [] | none => .no)
          else if Nat.ble (off + j.size) cs.length then .val (.agg ((cs.drop off).take j.size)) [] else .no
      | .d a => if j.kind.plain then .opt (.opt (pField off a)) [] else .opt (.opt (pFieldN off j.size a)) []
      | _ => .no)
    | none => .no) := by
  have hmem : x ∈ o.op.operands := by simp [ho, Op.operands]
  split
  · rename_i off j hf
    obtain ⟨i, fs, t, h1, h2, h3, h4, h5, h6⟩ := fieldOf_spec hD hf
    split
    · rename_i cs hx
      split
      · rename_i hp
        split
        · rename_i v hv
          refine ⟨TOp.same fun w O0 m st ev hs hg hr => ?_, by simp⟩
          have hx' := hr x hmem
          rw [hx] at hx'
          simp only [relV] at hx'
          obtain ⟨vs, g1, g2⟩ := hx'
          obtain ⟨u, g3, g4⟩ := relVL_get g2 hv
          have hl := (List.getElem?_eq_some_iff.1 g3).1
          obtain ⟨z, q1, q2⟩ := run_field (P := C.P) (w := w) ho h6 h3 (hD _ _ h4) h5 g1 (by rw [(hD _ _ h4).one hp]; omega)
          rcases q2 with ⟨_, q2⟩ | ⟨q2, _⟩
          · rw [g3] at q2; cases q2; exact ⟨_, q1, g4⟩
          · rw [hp] at q2; cases q2
        · trivial
      · rename_i hp
        split
        · rename_i hl
          rw [Nat.ble_eq] at hl
          refine ⟨TOp.same fun w O0 m st ev hs hg hr => ?_, by simp⟩
          have hx' := hr x hmem
          rw [hx] at hx'
          simp only [relV] at hx'
          obtain ⟨vs, g1, g2⟩ := hx'
          have hvl := relVL_length g2
          obtain ⟨z, q1, q2⟩ := run_field (P := C.P) (w := w) ho h6 h3 (hD _ _ h4) h5 g1 (by omega)
          rcases q2 with ⟨q2, _⟩ | ⟨_, rfl⟩
          · exact absurd q2 hp
          · refine ⟨_, q1, ?_⟩
            simp only [relV]
            exact ⟨_, rfl, relVL_take _ (relVL_drop _ g2)⟩
        · trivial
    · rename_i a hx
      split
      · rename_i hp
        refine DRok.opt1 fun r hr => TOp.data fun w O0 m st ev hs hg hrel => ?_
        have hx' := hrel x hmem
        rw [hx] at hx'
        simp only [relV] at hx'
        unfold pField at hr
        split at hr
        · simp only [rel] at hx'
          obtain ⟨vs, g1, g2⟩ := hx'
          obtain ⟨u, g3, g4⟩ := relL_get g2 hr
          have hl := (List.getElem?_eq_some_iff.1 g3).1
          obtain ⟨z, q1, q2⟩ := run_field (P := C.P) (w := w) ho h6 h3 (hD _ _ h4) h5 g1 (by rw [(hD _ _ h4).one hp]; omega)
          rcases q2 with ⟨_, q2⟩ | ⟨q2, _⟩
          · rw [g3] at q2; cases q2; exact ⟨_, q1, g4⟩
          · rw [hp] at q2; cases q2
        · cases hr
      · rename_i hp
        refine DRok.opt1 fun r hr => TOp.data fun w O0 m st ev hs hg hrel => ?_
        have hx' := hrel x hmem
        rw [hx] at hx'
        simp only [relV] at hx'
        unfold pFieldN at hr
        split at hr
        · split at hr
          · rename_i hl
            cases hr
            simp only [rel] at hx'
            obtain ⟨vs, g1, g2⟩ := hx'
            have hvl := relL_length g2
            obtain ⟨z, q1, q2⟩ := run_field (P := C.P) (w := w) ho h6 h3 (hD _ _ h4) h5 g1 (by omega)
            rcases q2 with ⟨q2, _⟩ | ⟨_, rfl⟩
            · exact absurd q2 hp
            · refine ⟨_, q1, ?_⟩
              simp only [rel]
              exact ⟨_, rfl, relL_take _ (relL_drop _ g2)⟩
          · cases hr
        · cases hr
    · trivial
  · trivial

theorem ok_fieldAddr (hD : TyOk C.P C.D) {s : TypeId} {x : Operand} {f : Nat} (ho : o.op = .fieldAddr s x f) : DRok C.P X C M o ρ st (match fieldOf C s f with
    | some (off, j) => if Nat.beq j.size 0 then .no else (match ρ x with
      | .ptr id p => .val (.ptr id (p + off)) []
      | .rptr id i k p => .val (.rptr id i k (p + off)) []
      | .d a => .opt (.opt (pAdd a off)) []
      | _ => .no)
    | none => .no) := by
  have hmem : x ∈ o.op.operands := by simp [ho, Op.operands]
  split
  · rename_i off j hf
    obtain ⟨i, fs, t, h1, h2, h3, h4, h5, h6⟩ := fieldOf_spec hD hf
    split
    · trivial
    · rename_i h0
      have h0 : j.size ≠ 0 := fun e => h0 (by rw [e]; rfl)
      split
      · rename_i id p hx
        refine ⟨TOp.same fun w O0 m st ev hs hg hr => ?_, by simp⟩
        have hx' := hr x hmem
        rw [hx] at hx'
        simp only [relV] at hx' ⊢
        obtain ⟨b, c, n, g1, g2⟩ := hx'
        exact ⟨_, run_fieldAddr ho h6 h3 (hD _ _ h4) h0 g2, b, c, n, g1, rfl⟩
      · rename_i id i k p hx
        refine ⟨TOp.same fun w O0 m st ev hs hg hr => ?_, by simp⟩
        have hx' := hr x hmem
        rw [hx] at hx'
        simp only [relV] at hx' ⊢
        obtain ⟨b, c, n, g1, g2⟩ := hx'
        exact ⟨_, run_fieldAddr ho h6 h3 (hD _ _ h4) h0 g2, b, c, n, g1, by rw [Nat.add_assoc]⟩
      · rename_i a hx
        refine DRok.opt1 fun r hr => TOp.data fun w O0 m st ev hs hg hrel => ?_
        have hx' := hrel x hmem
        rw [hx] at hx'
        simp only [relV] at hx'
        unfold pAdd at hr
        split at hr
        · cases hr
          simp only [rel] at hx' ⊢
          obtain ⟨b, o', g1, g2, g3, g4⟩ := hx'
          exact ⟨_, run_fieldAddr ho h6 h3 (hD _ _ h4) h0 g1, b, o', by simp [Nat.add_assoc], g2, g3, g4⟩
        · cases hr
      · trivial
  · trivial

theorem fro_rel {w : World} {O0 : Nat → Prop} {m : Asg} (hs : Sto X w O0 m st) {id k : Nat} {xs : List (List A)} (hf : st id = .fro k xs) {u : Value} (hr : relV w (Ow O0 m st) m (.row id) u) : rel w (Ow O0 m st) (.sl k xs) u := by
  simp only [relV] at hr
  obtain ⟨hd, h1, h2⟩ := hr
  have ho := hs.obj id
  rw [hf] at ho
  obtain ⟨hd', g1, g2⟩ := ho
  rw [h1] at g1
  cases g1
  exact g2.2 u h2

theorem tre_slice {w : World} {O0 : Nat → Prop} {m : Asg} (hs : Sto X w O0 m st) {id k : Nat} {f : Bool} {xs : List (List A)} (hf : st id = .tre f k xs) {u : Value} (hr : relV w (Ow O0 m st) m (.row id) u) : ∃ a c, u = .slice a xs.length c := by
  simp only [relV] at hr
  obtain ⟨hd, h1, h2⟩ := hr
  have ho := hs.obj id
  rw [hf] at ho
  obtain ⟨hd', g1, g2, _⟩ := ho
  rw [h1] at g1
  cases g1
  cases hd with
  | none => simp only [treOk] at g2; subst g2; simp only [hdr] at h2; obtain ⟨a, rfl⟩ := h2; exact ⟨a, 0, rfl⟩
  | blk b c n => simp [treOk] at g2
  | mp => simp [treOk] at g2
  | tre f' b c n ks => simp only [treOk] at g2; simp only [hdr] at h2; obtain ⟨_, rfl, _⟩ := g2; exact ⟨_, _, h2⟩

theorem row_slice {w : World} {O0 : Nat → Prop} {m : Asg} (hs : Sto X w O0 m st) {id k : Nat} {xs : List (List A)} (hf : st id = .row k xs) {u : Value} (hr : relV w (Ow O0 m st) m (.row id) u) : ∃ a c, u = .slice a xs.length c := by
  simp only [relV] at hr
  obtain ⟨hd, h1, h2⟩ := hr
  have ho := hs.obj id
  rw [hf] at ho
  obtain ⟨hd', g1, g2⟩ := ho
  rw [h1] at g1
  cases g1
  cases hd with
  | none => simp only [rowOk] at g2; subst g2; simp only [hdr] at h2; obtain ⟨a, rfl⟩ := h2; exact ⟨a, 0, rfl⟩
  | blk b c n => simp only [hdr] at h2; obtain ⟨rfl, _⟩ := g2; exact ⟨_, _, h2⟩
  | tre => exact g2.elim
  | mp => exact g2.elim

theorem ok_indexAddr (hD : TyOk C.P C.D) {t : TypeId} {x i : Operand} (ho : o.op = .indexAddr t x i) : DRok C.P X C M o ρ st (match C.D t, dat (ρ i) with
    | some ti, some n => (match ti.kind with
      | .slice e => (match C.D e with
        | some j => (match ρ x with
          | .d a => .opt (.opt (pIndexAddr j.size a n)) []
          | .row id => (match st id with | .fro k xs => .opt (.opt (pIndexAddr j.size (.sl k xs) n)) [.obj id (.fro k xs)] | _ => .no)
          | _ => .no)
        | none => .no)
      | _ => .no)
    | _, _ => .no) := by
  have hmem : x ∈ o.op.operands := by simp [ho, Op.operands]
  have hmem2 : i ∈ o.op.operands := by simp [ho, Op.operands]
  split
  · rename_i ti n ht hn
    split
    · rename_i e hk
      split
      · rename_i j hj
        split
        · rename_i a hx
          refine DRok.opt1 fun r hr => TOp.data fun w O0 m st ev hs hg hrel => ?_
          have hx' := hrel x hmem
          rw [hx] at hx'
          simp only [relV] at hx'
          exact run_indexAddr ho (kind_desc hD ht hk) (hD _ _ hj) hx' (rel_dat hn (hrel i hmem2)) hr
        · rename_i id hx
          split
          · rename_i k xs hst
            intro r hr
            refine ⟨TOp.data fun w O0 m st' ev hs hg hrel => ?_, by simpa [agr] using hst⟩
            have hx' := hrel x hmem
            rw [hx] at hx'
            have hf : st' id = .fro k xs := hg _ (List.mem_singleton.2 rfl)
            exact run_indexAddr ho (kind_desc hD ht hk) (hD _ _ hj) (fro_rel hs hf hx') (rel_dat hn (hrel i hmem2)) hr
          · trivial
        · trivial
      · trivial
    · trivial
  · trivial

theorem dat_map {y : Operand} {a : Option A} (h : (dat (ρ y)).map some = some a) : ∃ b, a = some b ∧ dat (ρ y) = some b := by
  rw [Option.map_eq_some_iff] at h
  obtain ⟨b, h1, rfl⟩ := h
  exact ⟨b, rfl, h1⟩

theorem bnd_spec {lo : Option Operand} {l : Option A} (h : (match lo with | none => some none | some y => (dat (ρ y)).map some) = some l) : (∀ y, lo = some y → ∃ a, l = some a ∧ dat (ρ y) = some a) ∧ (lo = none → l = none) := by
  cases lo with
  | none => simp only [Option.some.injEq] at h; exact ⟨fun y hy => (by cases hy), fun _ => h.symm⟩
  | some y => exact ⟨fun z hz => (by cases hz; exact dat_map h), fun hz => (by cases hz)⟩

theorem ok_slice (hD : TyOk C.P C.D) {t : TypeId} {x : Operand} {lo hi : Option Operand} (ho : o.op = .slice t x lo hi none) : DRok C.P X C M o ρ st (match C.D t with
    | some ti => (match ti.kind with
      | .slice e => (match C.D e with
        | some j => (match (match ρ x with
            | .d a => some (a, [])
            | .row id => (match st id with | .fro k xs => some (A.sl k xs, [Rd.obj id (.fro k xs)]) | _ => none)
            | _ => none), (match lo with | none => some none | some y => (dat (ρ y)).map some), (match hi with | none => some none | some y => (dat (ρ y)).map some) with
          | some (a, rds), some l, some h => .opt (.opt (pSlice j.size a l h)) rds
          | _, _, _ => .no)
        | none => .no)
      | .str => (match dat (ρ x), (match lo with | none => some none | some y => (dat (ρ y)).map some), (match hi with | none => some none | some y => (dat (ρ y)).map some) with
        | some a, some l, some h => .opt (.opt (pSliceS a l h)) []
        | _, _, _ => .no)
      | _ => .no)
    | none => .no) := by
  have hmem : x ∈ o.op.operands := by simp [ho, Op.operands]
  have hlo : ∀ y, lo = some y → y ∈ o.op.operands := fun y hy => by simp [ho, Op.operands, hy]
  have hhi : ∀ y, hi = some y → y ∈ o.op.operands := fun y hy => by simp [ho, Op.operands, hy]
  split
  · rename_i ti ht
    split
    · rename_i e hk
      split
      · rename_i j hj
        split
        · rename_i a rds l h h1 h2 h3
          obtain ⟨l1, l2⟩ := bnd_spec h2
          obtain ⟨u1, u2⟩ := bnd_spec h3
          intro r hr
          refine ⟨TOp.data fun w O0 m st' ev hs hg hrel => ?_, ?_⟩
          · have hx' : rel w (Ow O0 m st') a (ev x) := by
              have hx' := hrel x hmem
              split at h1
              · rename_i a' hx; cases h1; rw [hx] at hx'; simpa only [relV] using hx'
              · rename_i id hx
                split at h1
                · rename_i k xs hst
                  cases h1
                  rw [hx] at hx'
                  exact fro_rel hs (hg _ (List.mem_singleton.2 rfl)) hx'
                · cases h1
              · cases h1
            refine run_slice ho (kind_desc hD ht hk) (hD _ _ hj) hx' (fun y hy => ?_) l2 (fun y hy => ?_) u2 hr
            · obtain ⟨b, hb, hd⟩ := l1 y hy
              exact ⟨b, hb, rel_dat hd (hrel y (hlo y hy))⟩
            · obtain ⟨b, hb, hd⟩ := u1 y hy
              exact ⟨b, hb, rel_dat hd (hrel y (hhi y hy))⟩
          · split at h1
            · cases h1; simp
            · split at h1
              · rename_i hst; cases h1; simpa [agr] using hst
              · cases h1
            · cases h1
        · trivial
      · trivial
    · rename_i hk
      split
      · rename_i a l h h1 h2 h3
        obtain ⟨l1, l2⟩ := bnd_spec h2
        obtain ⟨u1, u2⟩ := bnd_spec h3
        refine DRok.opt1 fun r hr => TOp.data fun w O0 m st' ev hs hg hrel => ?_
        refine run_sliceS ho (kind_desc hD ht hk) (rel_dat h1 (hrel x hmem)) (fun y hy => ?_) l2 (fun y hy => ?_) u2 hr
        · obtain ⟨b, hb, hd⟩ := l1 y hy
          exact ⟨b, hb, rel_dat hd (hrel y (hlo y hy))⟩
        · obtain ⟨b, hb, hd⟩ := u1 y hy
          exact ⟨b, hb, rel_dat hd (hrel y (hhi y hy))⟩
      · trivial
    · trivial
  · trivial

theorem ok_slice0 (hD : TyOk C.P C.D) {t : TypeId} {x l h m : Operand} (ho : o.op = .slice t x (some l) (some h) (some m)) : DRok C.P X C M o ρ st (if !isConst3 l h m then .no else match C.D t, ρ l, ρ h, ρ m with
    | some ti, .d (.val (.int _ 0)), .d (.val (.int _ 0)), .d (.val (.int _ 0)) => (match ti.kind with
      | .slice e => (match C.D e with
        | some _ => (match ρ x with
          | .row id => (match st id with | .row k xs => .val (.nil k) [.obj id (.row k xs)] | .fro k xs => .val (.nil k) [.obj id (.fro k xs)] | _ => .no)
          | .nil k => .val (.nil k) []
          | _ => .no)
        | none => .no)
      | _ => .no)
    | _, _, _, _ => .no) := by
  have m1 : x ∈ o.op.operands := by simp [ho, Op.operands]
  have m2 : l ∈ o.op.operands := by simp [ho, Op.operands]
  have m3 : h ∈ o.op.operands := by simp [ho, Op.operands]
  have m4 : m ∈ o.op.operands := by simp [ho, Op.operands]
  split
  · trivial
  split
  · rename_i ti k1 k2 k3 ht hl hh hm
    split
    · rename_i e hk
      split
      · rename_i j hj
        have key : ∀ (w : World) (O0 : Nat → Prop) (mm : Asg) (st : Stor) (ev : Operand → Value), (∀ x ∈ o.op.operands, relV w (Ow O0 mm st) mm (ρ x) (ev x)) → ∀ a n c, ev x = .slice a n c →
            ∃ u, (execOp ev o).run C.P w = .ok (.value u) w ∧ ∀ k, relV w (Ow O0 mm st) mm (.nil k) u := by
          intro w O0 mm st ev hr a n c hx
          have e1 := hr l m2
          have e2 := hr h m3
          have e3 := hr m m4
          rw [hl] at e1
          rw [hh] at e2
          rw [hm] at e3
          simp only [relV, rel] at e1 e2 e3 ⊢
          exact ⟨_, run_slice0 ho (kind_desc hD ht hk) (hD _ _ hj) hx e1 e2 e3, fun _ => ⟨a, rfl⟩⟩
        split
        · rename_i id hx
          split
          · rename_i k xs hst
            refine ⟨TOp.same fun w O0 mm st' ev hs hg hr => ?_, by simpa [agr] using hst⟩
            have hx' := hr x m1
            rw [hx] at hx'
            obtain ⟨a, c, hv⟩ := row_slice hs (hg _ (List.mem_singleton.2 rfl)) hx'
            obtain ⟨u, k1, k2⟩ := key w O0 mm st' ev hr _ _ _ hv
            exact ⟨u, k1, k2 _⟩
          · rename_i k xs hst
            refine ⟨TOp.same fun w O0 mm st' ev hs hg hr => ?_, by simpa [agr] using hst⟩
            have hx' := hr x m1
            rw [hx] at hx'
            have := fro_rel hs (hg _ (List.mem_singleton.2 rfl)) hx'
            simp only [rel] at this
            obtain ⟨a, c, hv, _⟩ := this
            obtain ⟨u, k1, k2⟩ := key w O0 mm st' ev hr _ _ _ hv
            exact ⟨u, k1, k2 _⟩
          · trivial
        · rename_i hx
          refine ⟨TOp.same fun w O0 mm st' ev hs hg hr => ?_, by simp⟩
          have hx' := hr x m1
          rw [hx] at hx'
          simp only [relV] at hx'
          obtain ⟨a, hv⟩ := hx'
          obtain ⟨u, k1, k2⟩ := key w O0 mm st' ev hr _ _ _ hv
          exact ⟨u, k1, k2 _⟩
        · trivial
      · trivial
    · trivial
  · trivial

theorem ok_build (hD : TyOk C.P C.D) {t : TypeId} {ps : Array (Nat × Operand)} (ho : o.op = .build t ps) : DRok C.P X C M o ρ st (match C.D t with
    | some i => (match i.kind with
      | .struct fs => (match datL (zeroV C t i), allDat (partTys C fs (ps.toList.map fun p => (p.1, ρ p.2))) with
        | some z, some l => if fieldsKnown C fs then (if wholeD (partTys C fs (ps.toList.map fun p => (p.1, ρ p.2))) (zeroV C t i) fs.length then .opt (.opt (buildA (fieldOf C t) z l)) [] else .no) else .no
        | _, _ => .no)
      | _ => .no)
    | none => .no) := by
  split
  · rename_i i hi
    split
    · rename_i fs hk
      split
      · rename_i z l hz hl
        split
        · rename_i hfs
          split
          rotate_left
          · trivial
          refine DRok.opt1 fun r hr => TOp.data fun w O0 m st' ev hs hg hrel => ?_
          have h1 : relVL w (Ow O0 m st') m ((ps.toList.map fun p => (p.1, ρ p.2)).map Prod.snd) ((ps.toList.map fun p => (p.1, ev p.2)).map Prod.snd) := by
            rw [List.map_map, List.map_map]
            have := relVL_ev (w := w) (O := Ow O0 m st') (m := m) (ρ := ρ) (ev := ev) (ps.toList.map Prod.snd) fun x hx => hrel x (by
              rw [ho]
              simp only [Op.operands]
              simpa using hx)
            rw [List.map_map, List.map_map] at this
            exact this
          obtain ⟨h2, h3⟩ := partTys_rel (C := C) (fs := fs) h1
          obtain ⟨h4, h5⟩ := allDat_rel hl h2
          obtain ⟨cells', h6, h7⟩ := fill_relA (sz := fieldOf C t) (fun q off j hq hp => by
            obtain ⟨_, _, _, _, _, _, g4, _⟩ := fieldOf_spec hD hq
            exact (hD _ _ g4).one hp) l (ps.toList.map fun p => (p.1, ev p.2)) z i.zero.cells r (relL_datL (m := m) hz (relVL_zero t i)) (by
              rw [h5, h3]; simp) h4 hr
          exact ⟨_, run_build hD ho hi hk hfs h6, h7⟩
        · trivial
      · trivial
    · trivial
  · trivial

theorem ok_call (hM : PureM X C M) {f : Operand} {xs : Array Operand} {ts : Array TypeId} (ho : o.op = .call { callee := .value f, args := xs, argTypes := ts }) : DRok C.P X C M o ρ st (match ρ f with
      | .fn g caps => (match C.sig g with
        | some _ => if C.both g && (!C.sl g && (!C.stf g && !hasSt C (xs.toList.map ρ))) then (match toAL st 60 (nilL C.D ts.toList (xs.toList.map ρ) ++ caps) with | some (as, rds) => .opt (.call g as (aliveR rds)) rds | none => .no) else .no
        | none => (match toAL st 60 (nilL C.D ts.toList (xs.toList.map ρ) ++ caps) with
          | some (as, rds) => .opt (.call g as (aliveR rds)) rds
          | none => .no))
      | .d a => (match toAL st 60 (nilL C.D ts.toList (xs.toList.map ρ)) with
        | some (as, rds) => .opt (.callc a as (aliveR rds)) rds
        | none => .no)
      | _ => .no) := by
  have mf : f ∈ o.op.operands := by simp [ho, Op.operands, Call.operands]
  have mx : ∀ x ∈ xs.toList, x ∈ o.op.operands := fun x hx => by simp [ho, Op.operands, Call.operands]; exact Or.inr (by simpa using hx)
  split
  · rename_i g caps hf
    have gen : ∀ as rds, toAL st 60 (nilL C.D ts.toList (xs.toList.map ρ) ++ caps) = some (as, rds) → C.pureF g = true → DRok C.P X C M o ρ st (.opt (.call g as (aliveR rds)) rds) := by
      intro as rds hto hsig a ha
      simp only [DX.run] at ha
      rw [Option.bind_eq_some_iff] at ha
      obtain ⟨out, h1, h2⟩ := ha
      have hp := hM g as out hsig h1
      refine ⟨TOp.call ho hp (fun w O0 m st' ev hs hg hr => ?_) h2, ?_⟩
      · have hf' := hr f mf
        rw [hf] at hf'
        simp only [relV] at hf'
        obtain ⟨us, g1, g2⟩ := hf'
        have g3 := relVL_ev (w := w) (O := Ow O0 m st') (m := m) (ρ := ρ) (ev := ev) xs.toList fun x hx => hr x (mx x hx)
        exact ⟨us, g1, relL_toA hs 60 _ (toAL_agr 60 _ hto hg) (relVL_append (relVL_nilL g3) g2)⟩
      · exact fun r hr => toAL_rds 60 _ hto r hr
    split
    · split
      · rename_i hb
        split
        · rename_i as rds hto
          rw [Bool.and_eq_true] at hb
          exact gen as rds hto (by simp [Cfg.pureF, hb.1])
        · trivial
      · trivial
    · rename_i hsig
      split
      · rename_i as rds hto
        exact gen as rds hto (by simp [Cfg.pureF, hsig])
      · trivial
  · rename_i fa hf
    split
    · rename_i as rds hto
      intro a ha
      simp only [DX.run] at ha
      split at ha
      · rename_i g caps
        split at ha
        · rename_i hsig
          rw [Option.bind_eq_some_iff] at ha
          obtain ⟨out, h1, h2⟩ := ha
          have hp := hM g _ out (by simpa using hsig) h1
          refine ⟨TOp.call ho hp (fun w O0 m st' ev hs hg hr => ?_) h2, ?_⟩
          · have hf' := hr f mf
            rw [hf] at hf'
            simp only [relV, rel] at hf'
            obtain ⟨us, g1, g2⟩ := hf'
            have g3 := relVL_ev (w := w) (O := Ow O0 m st') (m := m) (ρ := ρ) (ev := ev) xs.toList fun x hx => hr x (mx x hx)
            exact ⟨us, g1, relL_append (relL_toA hs 60 _ (toAL_agr 60 _ hto hg) (relVL_nilL g3)) (relL_mono (MonoW.sub (Oc_sub _)) _ _ g2)⟩
          · exact fun r hr => toAL_rds 60 _ hto r hr
        · cases ha
      · cases ha
    · trivial
  · trivial

theorem bytesOf_get : ∀ {xs : List (List A)} {ns : List Int}, bytesOf xs = some ns → ns.length = xs.length ∧ ∀ (i : Nat) (n : Int), ns[i]? = some n → xs[i]? = some [.val (.int .u8 n)]
  | [], ns, h => by simp only [bytesOf] at h; cases h; simp
  | x :: xs, ns, h => by
    unfold bytesOf at h
    split at h
    · rename_i e; cases e
    · rename_i n r e
      cases e
      obtain ⟨l, hl, rfl⟩ := Option.map_eq_some_iff.1 h
      obtain ⟨h1, h2⟩ := bytesOf_get hl
      refine ⟨by simp [h1], fun i m hi => ?_⟩
      cases i with
      | zero => simp at hi; subst hi; rfl
      | succ i => simpa using h2 i m (by simpa using hi)
    · cases h
theorem pBytes_flat {a r : A} (h : pBytes a = some r) : flatA r = true := by
  unfold pBytes at h
  split at h
  · obtain ⟨ns, _, rfl⟩ := Option.map_eq_some_iff.1 h
    rfl
  · cases h
theorem run_bytes {P : Program} {w : World} {O : Nat → Prop} {o : Oper} {ev : Operand → Value} {s d e : TypeId} {x : Operand} (ho : o.op = .convert s d x) (hs : P.underlying s = some (.slice e)) (he : P.underlying e = some (.int .u8)) (hd : P.underlying d = some .string) {a : A} (hx : rel w O a (ev x)) {r : A} (h : pBytes a = some r) :
    ∃ z, (execOp ev o).run P w = .ok (.value z) w ∧ rel w O r z := by
  unfold pBytes at h
  split at h
  · rename_i k xs
    obtain ⟨ns, hns, rfl⟩ := Option.map_eq_some_iff.1 h
    obtain ⟨hl, hget⟩ := bytesOf_get hns
    simp only [rel] at hx
    obtain ⟨ad, cap, hv, _, _, hor⟩ := hx
    have hconv : (convert s d (ev x)).run P w = .ok (.string (Go.strOfNums ns)) w := by
      rw [hv]
      rcases hor with rfl | ⟨b, off, rfl, _, _, hrows⟩
      · have hn0 : ns = [] := by simpa using hl
        subst hn0
        rw [run_convert_bytes_string w s d e _ _ cap hs he hd]
        cases ad with
        | none => simp [Conv.bytesToString, Sem.run_pure]; rfl
        | some ad =>
          rw [run_bytesToString w ad _ cap [] (by simp [loadCells, loadCellsFrom, Sem.run_pure])]
          rfl
      · refine run_convert_bytes_arg w s e hs he b off xs.length cap ns hl (fun i hi => ?_) d hd
        have hi' : i < ns.length := by omega
        have hx := hget i ns[i] (List.getElem?_eq_getElem hi')
        obtain ⟨g1, g2⟩ := relRows_get hrows hx
        simp only [List.length_cons, List.length_nil] at g1
        rw [← g1, Nat.mul_one] at g2
        simp only [relCells] at g2
        obtain ⟨⟨v, q1, _, q2⟩, _⟩ := g2
        simp only [rel] at q2
        rw [q1, q2]
        simp [List.getD_eq_getElem?_getD, hi']
    refine ⟨.string (Go.strOfNums ns), ?_, ?_⟩
    · simp [execOp, ho, hconv]
    · simp only [rel, strOfNums]
  · cases h

/-- What looks and reckons comes to what 'evD' says. -/
theorem evD_sound (hD : TyOk C.P C.D) (hM : PureM X C M) : DRok C.P X C M o ρ st (evD C o ρ st) := by
  unfold evD
  split
  · rename_i x ho
    refine ⟨TOp.same fun w O0 m st ev hs hg hr => ⟨_, run_move (Or.inl ho) w, rel_nilV (hr x (by simp [ho, Op.operands]))⟩, by simp⟩
  · rename_i x ho
    refine ⟨TOp.same fun w O0 m st ev hs hg hr => ⟨_, run_move (Or.inr ho) w, rel_nilV (hr x (by simp [ho, Op.operands]))⟩, by simp⟩
  · rename_i c a b ho
    split
    · rename_i c' a' b' hc ha hb
      refine DRok.opt1 fun r hr => TOp.data fun w O0 m st ev hs hg hrel => ?_
      unfold pPick at hr
      rw [Option.map_eq_some_iff] at hr
      obtain ⟨t, h1, rfl⟩ := hr
      have h2 := rel_dat hc (hrel c (by simp [ho, Op.operands]))
      unfold pBool at h1
      split at h1
      · cases h1
        simp only [rel] at h2
        refine ⟨_, run_pick ho h2, ?_⟩
        cases t
        · exact rel_dat hb (rel_nilV (hrel b (by simp [ho, Op.operands])))
        · exact rel_dat ha (rel_nilV (hrel a (by simp [ho, Op.operands])))
      · cases h1
    · trivial
  · rename_i op t x y u ho
    split
    · trivial
    split
    · rename_i a b ha hb
      refine DRok.opt1 fun r hr => TOp.data fun w O0 m st ev hs hg hrel => ?_
      exact run_bin ho (isBoolT_spec hD) (rel_dat ha (hrel x (by simp [ho, Op.operands]))) (rel_dat hb (hrel y (by simp [ho, Op.operands]))) hr
    · trivial
  · rename_i op t x ho
    split
    · rename_i a ha
      refine DRok.opt1 fun r hr => TOp.data fun w O0 m st ev hs hg hrel => ?_
      exact run_un ho (rel_dat ha (hrel x (by simp [ho, Op.operands]))) hr
    · trivial
  · rename_i t x ho
    obtain ⟨h1, h2⟩ := evLoad_sound (X := X) (ρ := ρ) hD ho (st := st)
    cases he : evLoad C t (ρ x) st with
    | no => trivial
    | val v rds => exact h1 v rds he
    | opt y rds =>
      cases y with
      | opt y => exact fun a ha => h2 y rds a he ha
      | _ =>
        exfalso
        unfold evLoad at he
        repeat' (first | split at he | cases he)
  · rename_i s x f ho; exact ok_fieldAddr hD ho
  · rename_i s x f ho; exact ok_field hD ho
  · rename_i t x i ho; exact ok_indexAddr hD ho
  · rename_i t x i ho
    split
    · rename_i ti a n ht ha hn
      split
      · rename_i hk
        refine DRok.opt1 fun r hr => TOp.data fun w O0 m st ev hs hg hrel => ?_
        exact run_indexS ho (kind_desc hD ht hk) (rel_dat ha (hrel x (by simp [ho, Op.operands]))) (rel_dat hn (hrel i (by simp [ho, Op.operands]))) hr
      · trivial
    · trivial
  · rename_i t x k c ho
    split
    · rename_i ti ka ht hka
      split
      · rename_i kt et hk
        have hu := kind_desc hD ht hk
        split
        · rename_i ki ei hki hei
          split
          · rename_i ks z hks hz
            split
            · rename_i hzo
              have hkt := keyK_desc hks (hD _ _ hki).desc
              split
              · rename_i a hx
                refine DRok.opt1 fun r hr => TOp.data fun w O0 m st ev hs hg hrel => ?_
                have hx' := hrel x (by simp [ho, Op.operands])
                rw [hx] at hx'
                simp only [relV] at hx'
                have hk' := rel_dat hka (hrel k (by simp [ho, Op.operands]))
                unfold pLook at hr
                split at hr
                · rename_i hok
                  obtain ⟨xs, g1, g2⟩ := Option.bind_eq_some_iff.1 hr
                  rw [Option.map_eq_some_iff] at g2
                  obtain ⟨r', g2, rfl⟩ := g2
                  exact run_look ho hu hkt (hD _ _ hei) hzo hz (mapA_of g1 hx') hk' hok g2
                · cases hr
              · rename_i id hx
                split
                · rename_i xs hst
                  intro r hr
                  refine ⟨TOp.data fun w O0 m st' ev hs hg hrel => ?_, by simpa [agr] using hst⟩
                  have hx' := hrel x (by simp [ho, Op.operands])
                  rw [hx] at hx'
                  have hst' : st' id = .map xs := hg _ (List.mem_singleton.2 rfl)
                  have hk' := rel_dat hka (hrel k (by simp [ho, Op.operands]))
                  simp only [DX.run] at hr
                  unfold pLook at hr
                  split at hr
                  · rename_i hok
                    obtain ⟨xs', g1, g2⟩ := Option.bind_eq_some_iff.1 hr
                    simp only [mapA, Option.some.injEq] at g1
                    subst g1
                    rw [Option.map_eq_some_iff] at g2
                    obtain ⟨r', g2, rfl⟩ := g2
                    obtain ⟨b, es, clock, _, q2, q3, q4⟩ := map_at hs hst' hx'
                    exact run_look ho hu hkt (hD _ _ hei) hzo hz (Or.inr ⟨b, es, clock, q2, q3, q4⟩) hk' hok g2
                  · cases hr
                · trivial
              · trivial
            · trivial
          · trivial
        · trivial
      · trivial
    · trivial
  · rename_i t x lo hi ho; exact ok_slice hD ho
  · rename_i t x l h m ho; exact ok_slice0 hD ho
  · rename_i s d x ho
    split
    · rename_i si di hs' hd
      split
      · rename_i k k' hk hk'
        split
        · rename_i a ha
          refine DRok.opt1 fun r hr => TOp.data fun w O0 m st ev hs hg hrel => ?_
          exact run_conv ho ⟨_, kind_desc hD hs' hk⟩ (kind_desc hD hd hk') (rel_dat ha (hrel x (by simp [ho, Op.operands]))) hr
        · trivial
      · rename_i e hk hk'
        split
        · rename_i j a rds hj ha
          split
          · rename_i hj'
            intro r hr
            refine ⟨TOp.data fun w O0 m st' ev hs hg hrel => ?_, toA_rds 60 _ ha⟩
            have ha' := toA_agr 60 _ ha hg
            obtain ⟨z, q1, q2⟩ := run_bytes ho (kind_desc hD hs' hk) (kind_desc hD hj hj') (kind_desc hD hd hk') (rel_toA hs 60 _ ha' (hrel x (by simp [ho, Op.operands]))) hr
            exact ⟨z, q1, rel_flat r z (pBytes_flat hr) q2⟩
          · trivial
        · trivial
      · trivial
    · trivial
  · rename_i g fs cs ho
    split
    · rename_i h0
      obtain rfl : fs = #[] := by simpa using h0
      refine ⟨TOp.same fun w O0 m st ev hs hg hr => ?_, by simp⟩
      have h2 := relVL_ev (w := w) (O := Ow O0 m st) (m := m) (ρ := ρ) (ev := ev) cs.toList fun x hx => hr x (by simp [ho, Op.operands]; simpa using hx)
      have e : (cs.toList.map ev).toArray = cs.map ev := by rw [← Array.toList_map, Array.toArray_toList]
      refine ⟨.func (.func g) #[] (cs.map ev), by simp only [execOp, ho, Instr.makeFunc, Sem.run_bind, Sem.run_pure, Result.andThen_ok]; simp, ?_⟩
      simp only [relV]
      exact ⟨cs.toList.map ev, by rw [e], h2⟩
    · trivial
  · rename_i x n ho
    split
    · rename_i cs hx
      split
      · rename_i v hv
        refine ⟨TOp.same fun w O0 m st ev hs hg hr => ?_, by simp⟩
        have hx' := hr x (by simp [ho, Op.operands])
        rw [hx] at hx'
        simp only [relV] at hx'
        obtain ⟨vs, h1, h2⟩ := hx'
        obtain ⟨u, h3, h4⟩ := relVL_get h2 hv
        exact ⟨u, run_extract ho h1 h3, h4⟩
      · trivial
    · rename_i a hx
      refine DRok.opt1 fun r hr => TOp.data fun w O0 m st ev hs hg hrel => ?_
      have hx' := hrel x (by simp [ho, Op.operands])
      rw [hx] at hx'
      simp only [relV] at hx'
      unfold pTup at hr
      split at hr
      · simp only [rel] at hx'
        obtain ⟨vs, h1, h2⟩ := hx'
        obtain ⟨u, h3, h4⟩ := relL_get h2 hr
        exact ⟨u, run_extract ho h1 h3, h4⟩
      · cases hr
    · trivial
  · rename_i x ho
    have m1 : x ∈ o.op.operands := by simp [ho, Op.operands]
    split
    · rename_i id off hx
      refine ⟨TOp.same fun w O0 m st ev hs hg hr => ?_, by simp⟩
      have hx' := hr x m1
      rw [hx] at hx'
      have h2 := hx'
      simp only [relV] at hx'
      obtain ⟨b, c, n, _, h1⟩ := hx'
      exact ⟨ev x, by simp [execOp, ho, h1], h2⟩
    · rename_i id i k j hx
      refine ⟨TOp.same fun w O0 m st ev hs hg hr => ?_, by simp⟩
      have hx' := hr x m1
      rw [hx] at hx'
      have h2 := hx'
      simp only [relV] at hx'
      obtain ⟨b, c, n, _, h1⟩ := hx'
      exact ⟨ev x, by simp [execOp, ho, h1], h2⟩
    · rename_i f cs hx
      refine ⟨TOp.same fun w O0 m st ev hs hg hr => ?_, by simp⟩
      have hx' := hr x m1
      rw [hx] at hx'
      have h2 := hx'
      simp only [relV] at hx'
      obtain ⟨vs, h1, _⟩ := hx'
      exact ⟨ev x, by simp [execOp, ho, h1], h2⟩
    · rename_i a hx
      refine DRok.opt1 fun r hr => TOp.data fun w O0 m st ev hs hg hrel => ?_
      have hx' := hrel x m1
      rw [hx] at hx'
      simp only [relV] at hx'
      have h2 := hx'
      unfold pChk at hr
      split at hr
      · cases hr; simp only [rel] at hx'; obtain ⟨b, o', h1, _⟩ := hx'; exact ⟨ev x, by simp [execOp, ho, h1], h2⟩
      · cases hr; simp only [rel] at hx'; obtain ⟨vs, h1, _⟩ := hx'; exact ⟨ev x, by simp [execOp, ho, h1], h2⟩
      · cases hr
    · trivial
  · rename_i t ps ho; exact ok_build hD ho
  · rename_i c ho
    obtain ⟨callee, args, ts⟩ := c
    dsimp only
    split
    · split
      · rename_i x t hxs hts
        obtain ⟨y, rfl⟩ : ∃ y, args = #[y] := by
          obtain ⟨l⟩ := args; simp only at hxs; subst hxs; exact ⟨_, rfl⟩
        obtain rfl : ts = #[t] := by apply Array.ext'; simpa using hts
        simp only [List.cons.injEq, and_true] at hxs
        subst hxs
        have m1 : y ∈ o.op.operands := by simp [ho, Op.operands, Call.operands]
        split
        · rename_i ti ht
          split
          · rename_i e hk
            have hu := kind_desc hD ht hk
            split
            · rename_i hx
              refine ⟨TOp.data fun w O0 m st ev hs hg hr => ?_, by simp⟩
              have hx' := hr y m1
              rw [hx] at hx'
              simp only [relV] at hx'
              obtain ⟨a, h1⟩ := hx'
              exact ⟨_, run_len_slice ho rfl rfl hu h1, by simp [rel]⟩
            · rename_i id hx
              split
              · rename_i k xs hst
                refine ⟨TOp.data fun w O0 m st' ev hs hg hr => ?_, by simp [agr, hst]⟩
                have hx' := hr y m1
                rw [hx] at hx'
                obtain ⟨xs', g1, g2⟩ := hg _ (List.mem_singleton.2 rfl)
                obtain ⟨a, c, hv⟩ := row_slice hs g1 hx'
                exact ⟨_, run_len_slice ho rfl rfl hu hv, by simp [rLen, rel, g2]⟩
              · rename_i k xs hst
                refine ⟨TOp.data fun w O0 m st' ev hs hg hr => ?_, by simpa [agr] using hst⟩
                have hx' := hr y m1
                rw [hx] at hx'
                have := fro_rel hs (hg _ (List.mem_singleton.2 rfl)) hx'
                simp only [rel] at this
                obtain ⟨a, c, hv, _⟩ := this
                exact ⟨_, run_len_slice ho rfl rfl hu hv, by simp [rLen, rel]⟩
              · rename_i f' k xs hst
                refine ⟨TOp.data fun w O0 m st' ev hs hg hr => ?_, by simp [agr, hst]⟩
                have hx' := hr y m1
                rw [hx] at hx'
                obtain ⟨xs', g1, g2⟩ := hg _ (List.mem_singleton.2 rfl)
                obtain ⟨a, c, hv⟩ := tre_slice hs g1 hx'
                exact ⟨_, run_len_slice ho rfl rfl hu hv, by simp [rLen, rel, g2]⟩
              · trivial
            · rename_i a hx
              refine DRok.opt1 fun r hr => TOp.data fun w O0 m st ev hs hg hrel => ?_
              have hx' := hrel y m1
              rw [hx] at hx'
              simp only [relV] at hx'
              unfold pLenL at hr
              split at hr
              · cases hr
                simp only [rel] at hx'
                obtain ⟨a, c, h1, _⟩ := hx'
                exact ⟨_, run_len_slice ho rfl rfl hu h1, by simp [rel]⟩
              · cases hr
            · rename_i id k off n hx
              refine ⟨TOp.data fun w O0 m st ev hs hg hr => ?_, by simp⟩
              have hx' := hr y m1
              rw [hx] at hx'
              simp only [relV] at hx'
              obtain ⟨hd, _, h1⟩ := hx'
              obtain ⟨a, c, h1⟩ : ∃ a c, ev y = .slice a n c := by
                cases hd with
                | none => simp only [winV] at h1; obtain ⟨_, rfl, a, h1⟩ := h1; exact ⟨a, 0, h1⟩
                | blk b c l => simp only [winV] at h1; obtain ⟨_, q, h1, _⟩ := h1; exact ⟨_, _, h1⟩
                | tre => exact h1.elim
                | mp => exact h1.elim
              exact ⟨_, run_len_slice ho rfl rfl hu h1, by simp [rel, nA]⟩
            · trivial
          · rename_i hk
            have hu := kind_desc hD ht hk
            split
            · rename_i a ha
              refine DRok.opt1 fun r hr => TOp.data fun w O0 m st ev hs hg hrel => ?_
              have hx' := rel_dat ha (hrel y m1)
              unfold pLenS at hr
              split at hr
              · cases hr
                simp only [rel] at hx'
                exact ⟨_, run_len_str ho rfl rfl hu hx', by simp [rel, size_bs]⟩
              · cases hr
            · trivial
          · trivial
        · trivial
      · trivial
    · split
      · rename_i x y hxs
        obtain rfl : args = #[x, y] := by apply Array.ext'; simpa using hxs
        split
        · rename_i a b ha hb
          refine DRok.opt1 fun r hr => TOp.data fun w O0 m st ev hs hg hrel => ?_
          exact run_max ho rfl (rel_dat ha (hrel x (by simp [ho, Op.operands, Call.operands]))) (rel_dat hb (hrel y (by simp [ho, Op.operands, Call.operands]))) hr
        · trivial
      · trivial
    · split
      · rename_i x y hxs
        obtain rfl : args = #[x, y] := by apply Array.ext'; simpa using hxs
        split
        · rename_i a b ha hb
          refine DRok.opt1 fun r hr => TOp.data fun w O0 m st ev hs hg hrel => ?_
          exact run_min ho rfl (rel_dat ha (hrel x (by simp [ho, Op.operands, Call.operands]))) (rel_dat hb (hrel y (by simp [ho, Op.operands, Call.operands]))) hr
        · trivial
      · trivial
    · exact ok_call hM ho
    · trivial
  · trivial
end
end
end Go.Proofs.YtnbjmmldjggkfaaGreat.Abs
