/- FEW NUMBERS SORTED, DELETED, JOINED: the library's functions and the reference's; ResolveOn. -/
import Derived.Test.YtjclanocnkankaaPs
namespace Go.Proofs.Ytjclanocnkankaa
open Go Go.RowKit Go.Proofs.Ytjclanocnkankaa.Abs

set_option linter.unusedSimpArgs false
set_option linter.unusedVariables false
set_option maxHeartbeats 1000000

/-! ### Order -/
theorem isNaN_eq (x : Int) : G 73 [vi x] = some (vb false, []) := by
  rw [g73]
  simp -implicitDefEqProofs only [evs, Nat.reduceAdd, reduceIte]
theorem compare_lt (a b : Int) : ∃ z : Int, G 58 [vi a, vi b] = some (vi z, []) ∧ decide (z < 0) = decide (a < b) := by
  have e1 := isNaN_eq a
  have e2 := isNaN_eq b
  rw [g58]
  by_cases h : a < b
  · exact ⟨-1, by simp -implicitDefEqProofs only [evs, Nat.reduceAdd, reduceIte, e1, e2, h], by rw [decide_eq_true h]; rfl⟩
  · by_cases h2 : b < a
    · exact ⟨1, by simp -implicitDefEqProofs only [evs, Nat.reduceAdd, reduceIte, e1, e2, h, h2], by rw [decide_eq_false h]; rfl⟩
    · exact ⟨0, by simp -implicitDefEqProofs only [evs, Nat.reduceAdd, reduceIte, e1, e2, h, h2], by rw [decide_eq_false h]; rfl⟩
theorem byVariable_eq (a b : Int) (ha : (a.natAbs : Int) ≤ 12) (hb : (b.natAbs : Int) ≤ 12) : ∃ z : Int, G 36 [vi a, vi b] = some (vi z, []) ∧ decide (z < 0) = decide (a.natAbs < b.natAbs) := by
  have e1 := absolute_eq a (by omega) (by omega)
  have e2 := absolute_eq b (by omega) (by omega)
  obtain ⟨z, e3, e4⟩ := compare_lt ((a.natAbs : Nat) : Int) ((b.natAbs : Nat) : Int)
  refine ⟨z, ?_, by rw [e4]; exact decide_eq_decide.2 (by omega)⟩
  rw [g36]
  simp -implicitDefEqProofs only [evs, Nat.reduceAdd, reduceIte, e1, e2, e3]

/-! ### Insertion sort -/
noncomputable abbrev iS (n i : Nat) (r : List Int) : Option Out := L63c0_0 (vi 0) (vi (n : Nat)) (vi (i : Nat)) (r.map ci)
theorem sink_eq (n i : Nat) (hi : i < n) (hn : n ≤ 12) (x : Int) (rest : List Int) (hx : (x.natAbs : Int) ≤ 12) : ∀ (R B : List Int), R.length ≤ 12 → (∀ y ∈ R, (y.natAbs : Int) ≤ 12) →
    L63c0_1 (vi 0) (vi (n : Nat)) (vi (i : Nat)) (vi (R.length : Nat)) ((R.reverse ++ x :: (B ++ rest)).map ci) = iS n (i + 1) (sink x R B ++ rest)
  | [], B, _, _ => by
    have h5 := add_one (i := i) (n := n) hi (by omega)
    rw [l63c0_1]
    simp -implicitDefEqProofs only [evs, Nat.reduceAdd, reduceIte, h5, Int.natCast_zero]
    rfl
  | y :: R, B, hl, hy => by
    simp only [List.length_cons] at hl
    have h0 : (0 : Int) < ((R.length + 1 : Nat) : Int) := by omega
    have e1 : ck (((R.length + 1 : Nat) : Int) - 1) = some (vi (R.length : Nat)) := by rw [show ((R.length + 1 : Nat) : Int) - 1 = (R.length : Nat) by omega]; exact ck_le (by omega) (by omega)
    have hyy := hy y (by simp)
    have h5 := add_one (i := i) (n := n) hi (by omega)
    obtain ⟨z, ez, hz⟩ := byVariable_eq x y hx hyy
    have q1 : (y :: R).reverse ++ x :: (B ++ rest) = (R.reverse ++ [y]) ++ x :: (B ++ rest) := by simp
    have q2 : (y :: R).reverse ++ x :: (B ++ rest) = R.reverse ++ y :: (x :: (B ++ rest)) := by simp
    have l1 : (R.reverse ++ [y]).length = R.length + 1 := by simp
    have l2 : R.reverse.length = R.length := by simp
    generalize hW : ((y :: R).reverse ++ x :: (B ++ rest)).map ci = W at *
    have f1 : pIx W.length (vi ((R.length + 1 : Nat) : Int)) = some (R.length + 1) := by rw [← hW, q1, ← l1]; exact mid_ix (f := ci) _ _ _
    have f5 : rGet W (R.length + 1) = some (ci x) := by rw [← hW, q1, ← l1]; exact mid_get (f := ci) _ _ _
    have f2 : pRowP W (R.length + 1) 0 = some (vi x) := by
      unfold rGet at f5
      unfold pRowP
      rw [f5]; rfl
    have f3 : pIx W.length (vi (R.length : Nat)) = some R.length := by rw [← hW, q2, ← l2]; exact mid_ix (f := ci) _ _ _
    have f4 : pRowP W R.length 0 = some (vi y) := by
      have := mid_get (f := ci) R.reverse (x :: (B ++ rest)) y
      rw [← q2, hW, l2] at this
      unfold rGet at this
      unfold pRowP
      rw [this]; rfl
    rw [l63c0_1, List.length_cons, sink]
    by_cases hlt : x.natAbs < y.natAbs
    · rw [decide_eq_true hlt, decide_eq_true_iff] at hz
      have f6 : rSet W (R.length + 1) (ci y) = (R.reverse ++ y :: (y :: (B ++ rest))).map ci := by
        rw [← hW, q1, ← l1, mid_set (f := ci)]
        simp
      have f7 := mid_get (f := ci) R.reverse (y :: (B ++ rest)) y
      have f8 := mid_set (f := ci) R.reverse (y :: (B ++ rest)) y x
      have f9 := mid_ix (f := ci) R.reverse (y :: (B ++ rest)) y
      rw [l2] at f7 f8 f9
      have ih := sink_eq n i hi hn x rest hx R (y :: B) (by omega) fun y' h => hy y' (by simp [h])
      have q3 : R.reverse ++ [x] ++ y :: (B ++ rest) = R.reverse ++ x :: (y :: B ++ rest) := by simp
      rw [q3] at f8
      generalize hW2 : (R.reverse ++ y :: (y :: (B ++ rest))).map ci = W2 at *
      rw [if_pos hlt]
      simp -implicitDefEqProofs only [evs, Nat.reduceAdd, reduceIte, h0, f1, f2, e1, f3, f4, ez, hz, f5, cOver_1, f6, f9, f7, f8, ih]
    · rw [decide_eq_false hlt, decide_eq_false_iff_not] at hz
      rw [if_neg hlt]
      simp -implicitDefEqProofs only [evs, Nat.reduceAdd, reduceIte, h0, f1, f2, e1, f3, f4, ez, hz, h5]
      rw [← hW]
      simp [iS]
theorem insert_loop (n : Nat) (hn : n ≤ 12) : ∀ (rest S : List Int), S.length + rest.length = n → (∀ x ∈ S ++ rest, (x.natAbs : Int) ≤ 12) → incr S → diffv rest → (∀ x ∈ rest, ∀ c ∈ S, c.natAbs ≠ x.natAbs) →
    iS n S.length (S ++ rest) = some (.top, [ints (puts S rest)])
  | [], S, hl, _, _, _, _ => by
    have h : ¬ ((S.length : Nat) : Int) < ((n : Nat) : Int) := by simp at hl; omega
    rw [iS, l63c0_0]
    simp -implicitDefEqProofs only [evs, Nat.reduceAdd, reduceIte, h, List.append_nil]
    rfl
  | x :: rest, S, hl, hs, hi, hd, hx => by
    simp only [List.length_cons] at hl
    have h : ((S.length : Nat) : Int) < ((n : Nat) : Int) := by omega
    have e1 := sink_eq n S.length (by omega) hn x rest (hs x (by simp)) S.reverse [] (by simp; omega) (fun y hy => hs y (by simp at hy; simp [hy]))
    have hsp := sink_put x S.reverse [] (by simpa using hi) (fun c hc => hx x (by simp) c (by simpa using hc))
    rw [List.reverse_reverse, List.append_nil] at hsp
    rw [List.reverse_reverse, List.length_reverse, List.nil_append, hsp] at e1
    have ih := insert_loop n hn rest (put S x) (by rw [put_length]; omega) (fun y hy => by
      rcases List.mem_append.1 hy with hy | hy
      · rcases put_mem.1 hy with hy | rfl
        · exact hs y (by simp [hy])
        · exact hs y (by simp)
      · exact hs y (by simp [hy])) (incr_put hi (hx x (by simp))) hd.2 (fun y hy c hc => by
      rcases put_mem.1 hc with hc | rfl
      · exact hx y (by simp [hy]) c hc
      · exact fun e => hd.1 y hy e.symm)
    rw [put_length] at ih
    rw [iS, l63c0_0]
    simp -implicitDefEqProofs only [evs, Nat.reduceAdd, reduceIte, h]
    rw [e1, ih]
    rfl
theorem insertionSort_eq (l : List Int) (hl : l.length ≤ 12) (hs : ∀ x ∈ l, (x.natAbs : Int) ≤ 12) (hd : diffv l) : C63_0 (vi 0) (vi (l.length : Nat)) (l.map ci) = some (.top, [ints (puts [] l)]) := by
  have e0 : ck ((0 : Int) + 1) = some (vi 1) := ck_le (by decide) (by decide)
  rw [c63_0]
  cases l with
  | nil =>
    simp -implicitDefEqProofs only [evs, Nat.reduceAdd, reduceIte, e0]
    rw [l63c0_0]
    simp -implicitDefEqProofs only [evs, Nat.reduceAdd, reduceIte]
    rfl
  | cons x r =>
    have e1 := insert_loop (x :: r).length hl r [x] (by simp; omega) (by simpa using hs) (by simp [incr]) hd.2 (fun y hy c hc => by simp at hc; subst hc; exact fun e => hd.1 y hy e.symm)
    rw [pBin_add, e0]
    exact e1

/-! ### The library's sort, of few -/
theorem pBinU_geq (a b : Int) : pBin .geq false (.val (.int .u64 a)) (.val (.int .u64 b)) = some (vb (decide (b ≤ a))) := rfl
theorem pConv_u8 (k : IntKind) (a : Int) : pConv .u8 (.val (.int k a)) = some (vy (IntKind.u8.wrap a)) := rfl
theorem pConv_u64 (k : IntKind) (a : Int) : pConv .u64 (.val (.int k a)) = some (.val (.int .u64 (IntKind.u64.wrap a))) := rfl
theorem pConv_i64 (k : IntKind) (a : Int) : pConv .i64 (.val (.int k a)) = ck a := rfl
theorem wrap_few : ∀ n : Fin 13, IntKind.u8.wrap ((n.val : Nat) : Int) = ((n.val : Nat) : Int) ∧ IntKind.u64.wrap ((n.val : Nat) : Int) = ((n.val : Nat) : Int) := by decide
theorem pIndexS_lt {l : List UInt8} {m : Nat} (h : m < l.length) : pIndexS (sv l) (vy (m : Nat)) = some (vy (((l.getD m 0).toNat : Nat) : Int)) := by
  show (if _ then _ else _) = _
  rw [if_pos ⟨by omega, by simp only [bs_mk]; omega⟩]
  simp
set_option maxRecDepth 100000 in
theorem bitsLen_few (n : Nat) (hn : n ≤ 12) : ∃ x, G 57 [.val (.int .u64 (n : Nat))] = some (x, []) := by
  have key : ∀ l : List UInt8, l.length = 256 → ∃ x, ((pConv .u8 (.val (.int .u64 ((n : Nat) : Int)))).bind fun t55 => (pIndexS (sv l) t55).bind fun t56 => (pConv .i64 t56).bind fun t57 => (pBin .add false (vi 0) t57).bind fun t58 => some (t58, ([] : List A))) = some (x, []) := by
    intro l hl
    have hw := (wrap_few ⟨n, by omega⟩).1
    simp only at hw
    have hb : (l.getD n 0).toNat < 256 := UInt8.toNat_lt _
    have c1 : ck (((l.getD n 0).toNat : Nat) : Int) = some (vi (((l.getD n 0).toNat : Nat) : Int)) := ck_le (by omega) (by omega)
    have c2 : ck (0 + (((l.getD n 0).toNat : Nat) : Int)) = some (vi (0 + (((l.getD n 0).toNat : Nat) : Int))) := ck_le (by omega) (by omega)
    exact ⟨vi (0 + (((l.getD n 0).toNat : Nat) : Int)), by simp only [pConv_u8, hw, Option.bind_some, pIndexS_lt (show n < l.length by omega), pConv_i64, c1, pBin_add, c2]⟩
  have d1 : decide ((4294967296 : Int) ≤ ((n : Nat) : Int)) = false := decide_eq_false (by omega)
  have d2 : decide ((65536 : Int) ≤ ((n : Nat) : Int)) = false := decide_eq_false (by omega)
  have d3 : decide ((256 : Int) ≤ ((n : Nat) : Int)) = false := decide_eq_false (by omega)
  have e : ∃ x, G 72 [.val (.int .u64 (n : Nat))] = some (x, []) := by
    rw [g72]
    simp only [pBinU_geq, d1, d2, d3, Option.bind_some, pBool_vb, brn_false]
    exact key _ rfl
  obtain ⟨x, e⟩ := e
  rw [g57]
  exact ⟨x, by simp only [Option.bind_some, pBool_vb, brn_false, e, fin_pair]⟩

theorem sortFunc_eq (l : List Int) (hl : l.length ≤ 12) (hs : ∀ x ∈ l, (x.natAbs : Int) ≤ 12) (hd : diffv l) : C35_0 (l.map ci) = some (.top, [ints (puts [] l)]) := by
  obtain ⟨x, ex⟩ := bitsLen_few l.length hl
  have e1 := insertionSort_eq l hl hs hd
  have hw := (wrap_few ⟨l.length, by omega⟩).2
  simp only at hw
  have e2 : C56_0 (vi 0) (vi (l.length : Nat)) x (l.map ci) = some (.top, [ints (puts [] l)]) := by
    have c1 : ck (((l.length : Nat) : Int) - 0) = some (vi (l.length : Nat)) := by rw [Int.sub_zero]; exact ck_le (by omega) (by omega)
    have h12 : ((l.length : Nat) : Int) ≤ 12 := by omega
    rw [c56_0, l56c0_0]
    simp -implicitDefEqProofs only [evs, Nat.reduceAdd, reduceIte, c1, h12, e1]
  rw [c35_0]
  simp -implicitDefEqProofs only [evs, Nat.reduceAdd, reduceIte, pConv_u64, hw, ex, e2]

/-! ### Copies without some -/
theorem clone_ints (l : List Int) (hl : l.length ≤ 1048576) : C40_0 (ints l) = some (.top, [ints l]) := by
  have hf := pFit_8 (n := l.length) (by omega)
  rw [c40_0]
  cases l with
  | nil =>
    have : (nz (rCnt ([] : List (List A)))) = true := rfl
    simp -implicitDefEqProofs only [evs, Nat.reduceAdd, reduceIte, List.map_nil, pSlA, this, bth_self, hf]
    simp [pFit, bth_self]
  | cons t ts =>
    have : nz (rCnt ((t :: ts).map ci)) = false := rfl
    rw [List.length_cons] at hf
    simp -implicitDefEqProofs only [evs, Nat.reduceAdd, reduceIte, pSlA, this, hf]
theorem del_eq (x : Int) (a : List Int) (hx : (x.natAbs : Int) ≤ 12) (ha : a.length ≤ 9223372036854775807) : G 62 [vi x, .elt [ints a] 0] = some (vb (hasI a (-x)), []) := by
  have e1 := contains_eq a (-x) ha
  have en := wneg_of (x := x) (by omega) (by omega)
  rw [g62]
  simp -implicitDefEqProofs only [evs, Nat.reduceAdd, reduceIte, pUn_neg, en, e1]
theorem delI_loop (a : List Int) (ha : a.length ≤ 9223372036854775807) : ∀ (rest acc mid : List Int), mid ≠ [] → (∀ x ∈ rest, (x.natAbs : Int) ≤ 12) → (acc ++ mid ++ rest).length ≤ 9223372036854775807 →
    L61c0_0 (vi (acc.length : Nat)) (vi ((acc ++ mid).length : Nat)) (ints a) ((acc ++ mid ++ rest).map ci) = some (.top, [ints a, ints (acc ++ openL a rest)])
  | [], acc, mid, hm, hs, hl => by
    rw [l61c0_0]
    simp only [List.append_nil] at hl ⊢
    generalize hN : (acc ++ mid).length = N at *
    have hn : ((acc ++ mid).map ci).length = N := by rw [List.length_map, hN]
    have hle : acc.length ≤ N := by rw [← hN]; simp
    have e1 : decide (((N : Nat) : Int) < ((N : Nat) : Int)) = false := decide_eq_false (by omega)
    have p1 : pB N N none = some N := pB_none_le (Nat.le_refl _)
    have p2 : ∀ d, pB d N (some (vi ((acc.length : Nat) : Int))) = some acc.length := fun d => pB_le hle
    have hl2 : (rOver ((acc ++ mid).map ci) (0 + acc.length) (rRep (nSub N acc.length) [vi 0])).length = N := by
      rw [rOver_eq, rRep, nSub_eq]
      simp
      simp at hN
      omega
    have ht : List.take acc.length (rOver ((acc ++ mid).map ci) (0 + acc.length) (rRep (nSub N acc.length) [vi 0])) = acc.map ci := by
      rw [rOver_eq, Nat.zero_add, List.append_assoc, List.take_append_of_le_length (by simp), List.take_take, Nat.min_self, List.map_append, List.take_append_of_le_length (by simp), List.take_of_length_le (by simp)]
    have hc : rCnt ((acc ++ mid).map ci) = N := hn
    have hr : rRem ((acc ++ mid).map ci) 0 = N := by rw [rRem_eq, hn]; rfl
    have hc2 : rCnt (rOver ((acc ++ mid).map ci) (0 + acc.length) (rRep (nSub N acc.length) [vi 0])) = N := hl2
    have hr2 : rRem (rOver ((acc ++ mid).map ci) (0 + acc.length) (rRep (nSub N acc.length) [vi 0])) 0 = N := by rw [rRem_eq, hl2]; rfl
    have ho : openL a [] = [] := rfl
    simp only [rLen_eq, hn, pBin_lss, e1, Option.bind_some, pBool_vb, brn_false, hc, hr, p1, p2, hc2, hr2, ho, List.append_nil]
    rw [nSub_eq acc.length, Nat.sub_zero, ht]
  | v :: rest, acc, mid, hm, hs, hl => by
    obtain ⟨x, mid, rfl⟩ := List.exists_cons_of_ne_nil hm
    have hv := del_eq v a (hs v (by simp)) ha
    rw [l61c0_0]
    generalize hN : ((acc ++ x :: mid) ++ v :: rest).length = N at *
    have hlt : (acc ++ x :: mid).length < N := by rw [← hN]; simp
    have hlt' : acc.length < N := by simp at hlt; omega
    have hn : (((acc ++ x :: mid) ++ v :: rest).map ci).length = N := by rw [List.length_map, hN]
    have e1 : decide ((((acc ++ x :: mid).length : Nat) : Int) < ((N : Nat) : Int)) = true := decide_eq_true (by omega)
    have e2 : pIx N (vi (((acc ++ x :: mid).length : Nat) : Int)) = some (acc ++ x :: mid).length := pIx_lt hlt
    have e3 : pRowP (((acc ++ x :: mid) ++ v :: rest).map ci) (acc ++ x :: mid).length 0 = some (vi v) := by
      unfold pRowP
      rw [List.getElem?_map, List.getElem?_append_right (Nat.le_refl _)]
      simp
    have e5 := add_one hlt (show N ≤ 9223372036854775807 from hl)
    have e6 := add_one hlt' (show N ≤ 9223372036854775807 from hl)
    cases hst : hasI a (-v) with
    | true =>
      have ho : openL a (v :: rest) = openL a rest := by simp [openL, hst]
      have ih := delI_loop a ha rest acc (x :: mid ++ [v]) (by simp) (fun y hy => hs y (by simp [hy])) (by simp at hl hN ⊢; omega)
      have q1 : acc ++ (x :: mid ++ [v]) ++ rest = acc ++ x :: mid ++ v :: rest := by simp
      have q2 : ((acc ++ (x :: mid ++ [v])).length : Nat) = (acc ++ x :: mid).length + 1 := by simp; omega
      rw [q1, q2] at ih
      rw [hst] at hv
      rw [ho]
      simp only [rLen_eq, rLenN_eq, hn, pBin_lss, e1, Option.bind_some, pBool_vb, brn_true, e2, e3, hv, fin_vb, pUn_not, Bool.not_true, brn_false, e5, ih]
    | false =>
      have ho : openL a (v :: rest) = v :: openL a rest := by simp [openL, hst]
      have ih := delI_loop a ha rest (acc ++ [v]) (mid ++ [v]) (by simp) (fun y hy => hs y (by simp [hy])) (by simp at hl hN ⊢; omega)
      have q2 : ((acc ++ [v] ++ (mid ++ [v])).length : Nat) = (acc ++ x :: mid).length + 1 := by simp; omega
      have q3 : (acc ++ [v]).length = acc.length + 1 := by simp
      rw [q2, q3] at ih
      rw [hst] at hv
      have e8 : pIx N (vi ((acc.length : Nat) : Int)) = some acc.length := pIx_lt hlt'
      have e9 : rGet (((acc ++ x :: mid) ++ v :: rest).map ci) acc.length = some (ci x) := by
        rw [List.append_assoc]
        exact mid_get (f := ci) _ _ _
      have e10 : rSet (((acc ++ x :: mid) ++ v :: rest).map ci) acc.length (ci v) = ((acc ++ [v] ++ (mid ++ [v]) ++ rest).map ci) := by
        rw [List.append_assoc]
        rw [show acc ++ (x :: mid ++ v :: rest) = acc ++ x :: (mid ++ v :: rest) from rfl, mid_set (f := ci)]
        simp
      rw [ho]
      simp only [rLen_eq, rLenN_eq, hn, pBin_lss, e1, Option.bind_some, pBool_vb, brn_true, e2, e3, hv, fin_vb, pUn_not, Bool.not_false, e8, okA_vi, e9, cOver_1, e6, e5, e10, ih]
      simp
theorem open_none {a : List Int} : ∀ {c : List Int}, c.findIdx? (fun l => hasI a (-l)) = none → openL a c = c := by
  intro c h
  rw [List.findIdx?_eq_none_iff] at h
  unfold openL
  rw [List.filter_eq_self]
  intro x hx
  simp [h x hx]
theorem open_some {a c : List Int} {i : Nat} (h : c.findIdx? (fun l => hasI a (-l)) = some i) : ∃ acc x rest, c = acc ++ x :: rest ∧ i = acc.length ∧ openL a c = acc ++ openL a rest := by
  rw [List.findIdx?_eq_some_iff_getElem] at h
  obtain ⟨hi, h1, h2⟩ := h
  refine ⟨c.take i, c[i], c.drop (i + 1), by rw [List.getElem_cons_drop, List.take_append_drop], by simp; omega, ?_⟩
  have e : c = c.take i ++ c[i] :: c.drop (i + 1) := by rw [List.getElem_cons_drop, List.take_append_drop]
  have e1 : openL a (c.take i) = c.take i := by
    unfold openL
    rw [List.filter_eq_self]
    intro x hx
    obtain ⟨j, hj, rfl⟩ := List.mem_iff_getElem.1 hx
    have hji : j < i := by simp at hj; omega
    have := h2 j hji
    simp at this ⊢
    exact this
  have e2 : openL a (c[i] :: c.drop (i + 1)) = openL a (c.drop (i + 1)) := by
    unfold openL
    rw [List.filter_cons_of_neg]
    simpa using h1
  have e3 : ∀ p q : List Int, openL a (p ++ q) = openL a p ++ openL a q := fun p q => by unfold openL; rw [List.filter_append]
  calc openL a c = openL a (c.take i ++ c[i] :: c.drop (i + 1)) := by rw [← e]
    _ = _ := by rw [e3, e1, e2]
theorem deleteFuncI_eq (c a : List Int) (hc : Sm c) (ha : a.length ≤ 9223372036854775807) : C61_0 (ints a) (c.map ci) = some (.top, [ints a, ints (openL a c)]) := by
  have e1 := indexFuncI (f := 62) (caps := [.elt [ints a] 0]) rfl (fun l => hasI a (-l)) c hc.1 (fun x hx => del_eq x a (hc.2 x hx) ha)
  rw [c61_0]
  unfold ixP at e1
  cases hf : c.findIdx? (fun l => hasI a (-l)) with
  | none =>
    rw [hf] at e1
    rw [open_none hf]
    simp -implicitDefEqProofs only [evs, Nat.reduceAdd, reduceIte, e1]
  | some i =>
    rw [hf] at e1
    obtain ⟨acc, x, rest, rfl, rfl, ho⟩ := open_some hf
    have hs := hc.2
    have hcl := hc.1
    have e2 := delI_loop a ha rest acc [x] (by simp) (fun y hy => hs y (by simp [hy])) (by simpa using hcl)
    have q1 : acc ++ [x] ++ rest = acc ++ x :: rest := by simp
    have q2 : (acc ++ [x]).length = acc.length + 1 := by simp
    rw [q1, q2] at e2
    have e4 : ¬ ((acc.length : Nat) : Int) = -1 := by omega
    have e5 := add_one (i := acc.length) (n := (acc ++ x :: rest).length) (by simp) hcl
    rw [ho]
    simp -implicitDefEqProofs only [evs, Nat.reduceAdd, reduceIte, e1, e4, e5, e2]
theorem openLiterals_eq (c a : List Int) (hc : Sm c) (hl : c.length ≤ 1048576) (ha : a.length ≤ 9223372036854775807) : C44_0 (ints c) (ints a) = some (.top, [ints (openL a c)]) := by
  have e1 := clone_ints c hl
  have e2 := deleteFuncI_eq c a hc ha
  rw [c44_0]
  simp -implicitDefEqProofs only [evs, Nat.reduceAdd, reduceIte, e1, e2, List.getElem?_cons_zero]

/-! ### Insertion by the reference -/
theorem l15Put_eq (c : List Int) (x : Int) (hl : c.length ≤ 1048576) (hc : ∀ y ∈ c, (y.natAbs : Int) ≤ 12) (hx : (x.natAbs : Int) ≤ 12) : C39_0 (ints c) (vi x) = some (.top, [ints (put c x)]) := by
  have ex := l15Abs_eq x
  rw [sAbs_of (by omega) (by omega)] at ex
  have out : ∀ k, k ≤ c.length → ((pSlice 1 (ints c) none (some (vi (k : Nat)))).bind fun t13 => (pRows 1 t13).bind fun t14 => brn (pFit (rLenN t14) 8) (brn (okA (vi x)) (brn (pFit ((rLenN t14) + (rLenN [[vi x]])) 8) ((pSlice 1 (ints c) (some (vi (k : Nat))) none).bind fun t15 => (pRows 1 t15).bind fun t16 => brn (pFit ((rLenN (rApp t14 [[vi x]])) + (rLenN t16)) 8) (some ((A.top, [A.sl 1 (rApp (rApp t14 [[vi x]]) t16)]))) none) none) none) none) = some (.top, [ints (c.take k ++ x :: c.drop k)]) := by
    intro k hk
    have s1 : pSlice 1 (ints c) none (some (vi (k : Nat))) = some (ints (c.take k)) := by rw [pSlice_take (by simpa using hk), ← List.map_take]
    have s2 : pSlice 1 (ints c) (some (vi (k : Nat))) none = some (ints (c.drop k)) := by rw [pSlice_drop (by simpa using hk), ← List.map_drop]
    have p1 : pFit (c.take k).length 8 = true := pFit_8 (by simp; omega)
    have p2 : pFit ((c.take k).length + 1) 8 = true := pFit_8 (by simp; omega)
    have p3 : pFit ((c.take k ++ [x]).length + (c.drop k).length) 8 = true := pFit_8 (by simp; omega)
    simp only [s1, s2, Option.bind_some, pRows_sl, rLenN_eq, List.length_map, p1, brn_true, okA_vi, List.length_cons, List.length_nil, Nat.zero_add, p2, rApp_ci, p3, rApp_ints]
    simp
  have key := upto (P := fun k => (∀ j (h : j < c.length), j < k → c[j].natAbs < x.natAbs) → L39c0_0 (ints c) (vi x) (vi (k : Nat)) = some (.top, [ints (c.take k ++ put (c.drop k) x)])) (n := c.length) ?_ ?_ 0 (Nat.zero_le _) (fun j _ h => by omega)
  · rw [c39_0]
    simpa only [Int.natCast_zero, List.drop_zero, List.take_zero, List.nil_append] using key
  · intro _
    have ho := out c.length (Nat.le_refl _)
    rw [l39c0_0, List.drop_length, put]
    rw [List.drop_length] at ho
    have h : ¬ ((c.length : Nat) : Int) < ((c.length : Nat) : Int) := by omega
    simp only [pLenL_sl, List.length_map, Option.bind_some, pBin_lss, decide_eq_false h, pG_vb, Bool.false_eq_true, if_false, pPick_vb, pBool_vb, brn_false]
    exact ho
  · intro k hk ih hs
    have ho := out k (Nat.le_of_lt hk)
    have h : ((k : Nat) : Int) < ((c.length : Nat) : Int) := by omega
    have hy := hc c[k] (List.getElem_mem hk)
    have ey := l15Abs_eq c[k]
    rw [sAbs_of (by omega) (by omega)] at ey
    have h5 := add_one hk (show c.length ≤ 9223372036854775807 by omega)
    rw [l39c0_0, drop_cons hk, put]
    rw [drop_cons hk] at ho
    by_cases hlt : c[k].natAbs < x.natAbs
    · have hlt' : ((c[k].natAbs : Nat) : Int) < ((x.natAbs : Nat) : Int) := by omega
      have ih := ih fun j hj hjk => by
        by_cases hj' : j = k
        · subst hj'; exact hlt
        · exact hs j hj (by omega)
      rw [if_pos hlt]
      have q : c.take (k + 1) ++ put (c.drop (k + 1)) x = c.take k ++ c[k] :: put (c.drop (k + 1)) x := by
        rw [← List.take_append_getElem hk, List.append_assoc]; rfl
      rw [q] at ih
      simp -implicitDefEqProofs only [evs, Nat.reduceAdd, reduceIte, h, pIndexAddr_map hk, ey, ex, hlt', h5, ih]
    · have hlt' : ¬ ((c[k].natAbs : Nat) : Int) < ((x.natAbs : Nat) : Int) := by omega
      rw [if_neg hlt]
      simp only [pLenL_sl, List.length_map, Option.bind_some, pBin_lss, decide_eq_true h, pG_vb, if_true, pIndexAddr_map hk, pLoadP_0, ey, ex, fin_vi, decide_eq_false hlt', pPick_vb, pBool_vb, brn_false]
      exact ho

/-! ### Two lists joined -/
theorem growI_eq (n : Nat) (hl : n ≤ 1048576) : C55_0 (vi (n : Nat)) = some (.top, [.sl 1 []]) := by
  rw [c55_0]
  have h0 : ¬ ((n : Nat) : Int) < 0 := by omega
  have hs : ck ((0 : Int) - 0) = some (vi 0) := ck_le (by decide) (by decide)
  have hs2 : ck (((n : Nat) : Int) - 0) = some (vi (n : Nat)) := by rw [Int.sub_zero]; exact ck_le (by omega) (by omega)
  by_cases hn : n = 0
  · subst hn
    simp -implicitDefEqProofs only [evs, Nat.reduceAdd, reduceIte, hs, hs2, Int.natCast_zero]
  · have h1 : (0 : Int) < ((n : Nat) : Int) := by omega
    have hm := pMake_8 hl
    have p1 : pB 0 0 (some (vi 0)) = some 0 := rfl
    have p2 : pB (rCnt (rRep n [vi 0])) (rRem (rRep n [vi 0]) 0) (some (vi 0)) = some 0 := pB_le (n := 0) (Nat.zero_le _)
    simp -implicitDefEqProofs only [evs, Nat.reduceAdd, reduceIte, hs, hs2, h0, h1, hm, p1, p2, pFit_8 (show n ≤ 4194304 by omega), nSub_eq, List.take_zero, Nat.sub_self]
theorem concatI_eq (a b : List Int) (hl : a.length + b.length ≤ 1048576) : C34_0 [[ints a], [ints b]] = some (.top, [ints (a ++ b)]) := by
  have hg := growI_eq (a.length + b.length) hl
  have i0 : pIx 2 (vi 0) = some 0 := rfl
  have i1 : pIx 2 (vi 1) = some 1 := rfl
  have r0 : pRowP [[ints a], [ints b]] 0 0 = some (ints a) := rfl
  have r1 : pRowP [[ints a], [ints b]] 1 0 = some (ints b) := rfl
  have s1 : ck ((0 : Int) + (a.length : Nat)) = some (vi (a.length : Nat)) := by rw [Int.zero_add]; exact ck_le (by omega) (by omega)
  have s2 : ck (((a.length : Nat) : Int) + (b.length : Nat)) = some (vi ((a.length + b.length : Nat) : Int)) := by rw [Int.natCast_add]; exact ck_le (by omega) (by omega)
  have n1 : ¬ ((a.length : Nat) : Int) < 0 := by omega
  have n2 : ¬ ((a.length + b.length : Nat) : Int) < 0 := by omega
  have t1 : ck ((0 : Int) + 1) = some (vi 1) := ck_le (by decide) (by decide)
  have t2 : ck ((1 : Int) + 1) = some (vi 2) := ck_le (by decide) (by decide)
  have l1 : ((0 : Int) < 2) = True := by simp
  have l2 : ((1 : Int) < 2) = True := by simp
  have l3 : ((2 : Nat) : Int) = 2 := rfl
  have e3 : L34c0_1 (vi 2) (vi 2) (rApp (rApp [] (a.map ci)) (b.map ci)) [[ints a], [ints b]] = some (.top, [ints (a ++ b)]) := by
    rw [l34c0_1]
    simp -implicitDefEqProofs only [evs, Nat.reduceAdd, reduceIte, rApp, List.nil_append]
    show _ = some (A.top, [A.sl 1 ((a ++ b).map ci)])
    rw [List.map_append]
  have e2 : L34c0_1 (vi 2) (vi 1) (rApp [] (a.map ci)) [[ints a], [ints b]] = some (.top, [ints (a ++ b)]) := by
    have hf : pFit ((rApp [] (a.map ci)).length + b.length) 8 = true := pFit_8 (by simp only [rApp, List.nil_append, List.length_map]; omega)
    rw [l34c0_1]
    simp -implicitDefEqProofs only [evs, Nat.reduceAdd, reduceIte, l2, i1, r1, hf, t2, e3]
  have e1 : L34c0_1 (vi 2) (vi 0) [] [[ints a], [ints b]] = some (.top, [ints (a ++ b)]) := by
    have hf : pFit a.length 8 = true := pFit_8 (by omega)
    rw [l34c0_1]
    simp -implicitDefEqProofs only [evs, Nat.reduceAdd, reduceIte, l1, i0, r0, hf, t1, e2]
  have d2 : L34c0_0 (vi ((a.length + b.length : Nat) : Int)) (vi 2) (vi 2) [[ints a], [ints b]] = some (.top, [ints (a ++ b)]) := by
    rw [l34c0_0]
    simp -implicitDefEqProofs only [evs, Nat.reduceAdd, reduceIte, hg, l3, e1]
  have d1 : L34c0_0 (vi (a.length : Nat)) (vi 2) (vi 1) [[ints a], [ints b]] = some (.top, [ints (a ++ b)]) := by
    rw [l34c0_0]
    simp -implicitDefEqProofs only [evs, Nat.reduceAdd, reduceIte, l2, i1, r1, s2, n2, t2, d2]
  rw [c34_0, l34c0_0]
  simp -implicitDefEqProofs only [evs, Nat.reduceAdd, reduceIte, l3, l1, i0, r0, s1, n1, t1, d1]
end Go.Proofs.Ytjclanocnkankaa
