/- LAWS THAT MARK: copies, marks and comparisons of terms, orderings, clauses. -/
import Derived.Test.YtjclanocnkankaaGreatLj
namespace Go.Proofs.YtjclanocnkankaaGreat
open Go Go.RowKit Go.Proofs.YtjclanocnkankaaGreat.Abs

set_option linter.unusedSimpArgs false
set_option linter.unusedVariables false
set_option maxHeartbeats 1000000

/-! ### Copies -/
theorem to_strsC (l : List (List UInt8)) (hl : l.length ≤ 1048576) : C54_0 (strs l) = some (.top, [strs l]) := by
  have key := (upto (P := fun i => L54c0_0 (strs l) (vi i) (part cs [sv []] l i) = some (.top, [strs l])) (n := l.length) ?_ ?_ 0 (Nat.zero_le _))
  · rw [c54_0]
    have hm := pMake_len (b := 16) (n := l.length) (by omega) hl
    simp only [Int.natCast_zero, ← part_zero] at key
    simp -implicitDefEqProofs only [evs, Nat.reduceAdd, reduceIte, hm, key]
  · rw [l54c0_0, part_end]
    simp -implicitDefEqProofs only [evs, Nat.reduceAdd, reduceIte]
  · intro i hi ih
    have h1 := part_length (f := cs) (z := [sv []]) (Nat.le_of_lt hi)
    have h2 : pIx (part cs [sv []] l i).length (vi i) = some i := pIx_lt (by omega)
    have h4 := part_set (f := cs) (z := [sv []]) hi
    have h5 := add_one hi (Nat.le_trans hl (by decide))
    rw [l54c0_0]
    simp -implicitDefEqProofs only [evs, Nat.reduceAdd, reduceIte, hi, Int.ofNat_lt, pIndexAddr_map hi, h2, part_get hi, cOver_1, h4, h5, ih]
theorem to_intsC (l : List Int) (hl : l.length ≤ 1048576) : C55_0 (ints l) = some (.top, [ints l]) := by
  have key := (upto (P := fun i => L55c0_0 (ints l) (vi i) (part ci [vi 0] l i) = some (.top, [ints l])) (n := l.length) ?_ ?_ 0 (Nat.zero_le _))
  · rw [c55_0]
    have hm := pMake_len (b := 8) (n := l.length) (by omega) hl
    simp only [Int.natCast_zero, ← part_zero] at key
    simp -implicitDefEqProofs only [evs, Nat.reduceAdd, reduceIte, hm, key]
  · rw [l55c0_0, part_end]
    simp -implicitDefEqProofs only [evs, Nat.reduceAdd, reduceIte]
  · intro i hi ih
    have h1 := part_length (f := ci) (z := [vi 0]) (Nat.le_of_lt hi)
    have h2 : pIx (part ci [vi 0] l i).length (vi i) = some i := pIx_lt (by omega)
    have h4 := part_set (f := ci) (z := [vi 0]) hi
    have h5 := add_one hi (Nat.le_trans hl (by decide))
    rw [l55c0_0]
    simp -implicitDefEqProofs only [evs, Nat.reduceAdd, reduceIte, hi, Int.ofNat_lt, pIndexAddr_map hi, h2, part_get hi, cOver_1, h4, h5, ih]
theorem to_ordC (o : Ord') (h : osz o ≤ 1048576) : C12_0 (strs o.syms) (ints o.ws) (vi o.var) = some (.top, [vi o.var, strs o.syms, ints o.ws]) := by
  have e1 := to_strsC o.syms (by unfold osz at h; omega)
  have e2 := to_intsC o.ws (by unfold osz at h; omega)
  rw [c12_0]
  simp -implicitDefEqProofs only [evs, Nat.reduceAdd, reduceIte, e1, e2]
theorem isVal_sv (s : List UInt8) : isVal (sv s) = true := rfl
theorem isVal_vb (b : Bool) : isVal (vb b) = true := rfl
theorem isVal_vi' (n : Int) : isVal (vi n) = true := rfl
theorem isSlA_sl (k : Nat) (xs : List (List A)) : isSlA (.sl k xs) = true := rfl
theorem to_termsC (ts : List T) (hl : ts.length ≤ 1048576) (ih : ∀ t ∈ ts, C13_1 (tm t) = some (.top, [sv t.name, .sl 66 (t.args.map tcells)])) : C22_0 (tms ts) = some (.top, [.sl 66 (ts.map tcells)]) := by
  have key := (upto (P := fun i => L22c0_0 (tms ts) (vi i) (part tcells [sv [], .sl 2 []] ts i) = some (.top, [.sl 66 (ts.map tcells)])) (n := ts.length) ?_ ?_ 0 (Nat.zero_le _))
  · rw [c22_0]
    have hm := pMake_len (b := 40) (n := ts.length) (by omega) hl
    simp only [Int.natCast_zero, ← part_zero] at key
    simp -implicitDefEqProofs only [evs, Nat.reduceAdd, reduceIte, hm, key]
  · rw [l22c0_0, part_end]
    simp -implicitDefEqProofs only [evs, Nat.reduceAdd, reduceIte]
  · intro i hi ih'
    have h1 := part_length (f := tcells) (z := [sv [], .sl 2 []]) (Nat.le_of_lt hi)
    have h2 : pIx (part tcells [sv [], .sl 2 []] ts i).length (vi i) = some i := pIx_lt (by omega)
    have h4 := part_set (f := tcells) (z := [sv [], .sl 2 []]) hi
    rw [tcells_eq] at h4
    have h5 := add_one hi (Nat.le_trans hl (by decide))
    have e1 := ih ts[i] (List.getElem_mem _)
    rw [l22c0_0]
    simp -implicitDefEqProofs only [evs, Nat.reduceAdd, reduceIte, hi, Int.ofNat_lt, pIndexAddr_map hi, pLoadN_tcells, e1, List.getElem?_cons_zero, isVal_sv, h2, part_get hi, cOver_2, h4, h5, ih']
theorem to_term1 (t : T) (ht : C22_0 (tms t.args) = some (.top, [.sl 66 (t.args.map tcells)])) : C13_1 (tm t) = some (.top, [sv t.name, .sl 66 (t.args.map tcells)]) := by
  rw [c13_1]
  simp -implicitDefEqProofs only [evs, Nat.reduceAdd, reduceIte, ht]
theorem to_args (t : T) : tsz t ≤ 1048576 → C22_0 (tms t.args) = some (.top, [.sl 66 (t.args.map tcells)]) := by
  refine T.ind (p := fun t => tsz t ≤ 1048576 → C22_0 (tms t.args) = some (.top, [.sl 66 (t.args.map tcells)])) ?_ t
  intro t ih h
  rw [tsz_eq] at h
  exact to_termsC t.args (by omega) fun u hu => to_term1 u (ih u hu (by have := tsz_mem hu; omega))
theorem to_term0 (t : T) (h : tsz t ≤ 1048576) : C13_0 (sv t.name) (tms t.args) = some (.top, [sv t.name, .sl 66 (t.args.map tcells)]) := by
  have e1 := to_args t h
  rw [c13_0]
  simp -implicitDefEqProofs only [evs, Nat.reduceAdd, reduceIte, e1]

/-! ### Marks -/
theorem pBytes_1 (n : Int) : pBytes (.sl 1 [[vy n]]) = some (sv [UInt8.ofNat n.toNat]) := rfl
theorem pBin_rem10 (x : Int) : pBin .rem false (vi x) (vi 10) = some (vi (x.tmod 10)) := rfl
theorem pBin_rem3 (x : Int) : pBin .rem false (vi x) (vi 3) = some (vi (x.tmod 3)) := rfl
theorem pBin_quo10 (x : Int) : pBin .quo false (vi x) (vi 10) = ck (x.tdiv 10) := rfl
theorem pConvU8 (k : IntKind) (a : Int) : pConv .u8 (.val (.int k a)) = some (vy (IntKind.u8.wrap a)) := rfl
theorem okA_vy (n : Int) : okA (vy n) = true := rfl
theorem markText_loop : ∀ (k : Nat) (out : List UInt8), out.length + k ≤ 1000000000 → ∃ s, L75_0 (vi (k : Nat)) (sv out) = some (sv s, []) := by
  intro k
  induction k using Nat.strongRecOn with
  | ind k ih =>
    intro out hl
    by_cases hk : (0 : Int) < (k : Nat)
    · have h1 : ((k : Nat) : Int).tdiv 10 = ((k / 10 : Nat) : Int) := by rw [Int.tdiv_eq_ediv_of_nonneg (by omega)]; rfl
      have h2 : ((k : Nat) : Int).tmod 10 = ((k % 10 : Nat) : Int) := by rw [Int.tmod_eq_emod_of_nonneg (by omega)]; rfl
      have c1 : ck ((k / 10 : Nat) : Int) = some (vi ((k / 10 : Nat) : Int)) := ck_le (by omega) (by omega)
      have c2 : ck (48 + ((k % 10 : Nat) : Int)) = some (vi (48 + ((k % 10 : Nat) : Int))) := ck_le (by omega) (by omega)
      generalize hc : UInt8.ofNat (IntKind.u8.wrap (48 + ((k % 10 : Nat) : Int))).toNat = c
      have e1 : pBin .add false (sv [c]) (sv out) = some (sv ([c] ++ out)) := by rw [pBin_sadd, if_pos (by simp; omega)]
      obtain ⟨s, hs⟩ := ih (k / 10) (by omega) ([c] ++ out) (by simp; omega)
      refine ⟨s, ?_⟩
      rw [l75_0]
      simp -implicitDefEqProofs only [evs, Nat.reduceAdd, reduceIte, hk, pBin_rem10, h2, c2, pConvU8, okA_vy, pBytes_1, hc, e1, pBin_quo10, h1, c1, hs]
    · have e1 : pBin .add false (sv [109]) (sv out) = some (sv ([109] ++ out)) := by rw [pBin_sadd, if_pos (by simp; omega)]
      refine ⟨[109] ++ out, ?_⟩
      rw [l75_0]
      simp -implicitDefEqProofs only [evs, Nat.reduceAdd, reduceIte, hk, e1]
theorem markText_eq (k : Nat) (h : k ≤ 1000000000) : ∃ s, G 75 [vi (k : Nat)] = some (sv s, []) := by
  rw [g75]
  by_cases hk : ((k : Nat) : Int) ≤ 0
  · exact ⟨[109, 48], by simp -implicitDefEqProofs only [evs, Nat.reduceAdd, reduceIte, hk]⟩
  · obtain ⟨s, hs⟩ := markText_loop k [] (by simpa using h)
    exact ⟨s, by simp -implicitDefEqProofs only [evs, Nat.reduceAdd, reduceIte, hk, hs]⟩
theorem markStringS_loop : ∀ (r : List (List UInt8)) (M : List (List A)) (k : Nat), k + r.length ≤ 100000000 → M.length + r.length ≤ 9223372036854775807 → ∃ X, L62c0_0 (vi (k : Nat)) (vi (M.length : Nat)) (M ++ r.map cs) = some (.top, [vi ((k + r.length : Nat) : Int), .sl 1 X])
  | [], M, k, hk, hl => by
    refine ⟨M, ?_⟩
    rw [l62c0_0, List.map_nil, List.append_nil]
    simp -implicitDefEqProofs only [evs, Nat.reduceAdd, reduceIte, Nat.add_zero]
  | x :: r, M, k, hk, hl => by
    simp only [List.length_cons] at hk hl
    have h1 : ((M.length : Nat) : Int) < (((M ++ cs x :: r.map cs).length : Nat) : Int) := by simp; omega
    have h2 := row_ix M (r.map cs) (cs x)
    have h3 := row_get M (r.map cs) (cs x)
    obtain ⟨s, e0⟩ := markText_eq k (by omega)
    have h4 := row_set M (r.map cs) (cs x) [sv s]
    have e1 := add_one (i := k) (n := k + 1) (by omega) (by omega)
    have h5 := add_one (i := M.length) (n := M.length + 1) (by omega) (by omega)
    obtain ⟨X, ih⟩ := markStringS_loop r (M ++ [[sv s]]) (k + 1) (by omega) (by simp; omega)
    have q : (M ++ [[sv s]]).length = M.length + 1 := by simp
    have q2 : M ++ [[sv s]] ++ r.map cs = M ++ [sv s] :: r.map cs := by simp
    rw [q, q2, show k + 1 + r.length = k + (r.length + 1) by omega] at ih
    refine ⟨X, ?_⟩
    rw [l62c0_0, List.map_cons]
    simp -implicitDefEqProofs only [evs, Nat.reduceAdd, reduceIte, h1, e0, h2, h3, cOver_1, h4, e1, h5, ih]
theorem markIntS_loop : ∀ (r M : List Int) (k : Int), 0 ≤ k → k + r.length ≤ 4194304 → (M ++ r).length ≤ 9223372036854775807 → L35c0_0 (vi k) (vi (M.length : Nat)) ((M ++ r).map ci) = some (.top, [vi (k + (r.length : Nat)), ints (M ++ iota k r.length)])
  | [], M, k, h0, hk, hl => by
    rw [l35c0_0, List.append_nil]
    simp -implicitDefEqProofs only [evs, Nat.reduceAdd, reduceIte, iota, List.append_nil, Int.natCast_zero, Int.add_zero]
  | x :: r, M, k, h0, hk, hl => by
    have h1 : ((M.length : Nat) : Int) < (((M ++ x :: r).length : Nat) : Int) := mid_lt M r x
    have h2 := mid_ix (f := ci) M r x
    have h3 := mid_get (f := ci) M r x
    have h4 := mid_set (f := ci) M r x k
    have e1 : ck (k + 1) = some (vi (k + 1)) := ck_le (by omega) (by simp only [List.length_cons] at hk; omega)
    have h5 := add_one (i := M.length) (n := (M ++ x :: r).length) (by simp) hl
    have ih := markIntS_loop r (M ++ [k]) (k + 1) (by omega) (by simp only [List.length_cons] at hk; omega) (by simp at hl ⊢; omega)
    have q : (M ++ [k]).length = M.length + 1 := by simp
    have q2 : M ++ [k] ++ iota (k + 1) r.length = M ++ iota k (r.length + 1) := by simp [iota]
    rw [q, q2, show k + 1 + ((r.length : Nat) : Int) = k + ((r.length + 1 : Nat) : Int) by omega] at ih
    generalize hN : (M ++ x :: r).length = N at *
    rw [List.length_map, hN] at h2
    rw [l35c0_0, List.length_cons]
    simp -implicitDefEqProofs only [evs, Nat.reduceAdd, reduceIte, hN, h1, h2, h3, cOver_1, h4, e1, h5, ih]
theorem markIntS_eq (l : List Int) (k : Int) (h0 : 0 ≤ k) (hk : k + l.length ≤ 4194304) : C35_0 (vi k) (l.map ci) = some (.top, [vi (k + (l.length : Nat)), ints (iota k l.length)]) := by
  have := markIntS_loop l [] k h0 hk (by simp; omega)
  rw [c35_0]
  exact this
theorem heldIntS_loop : ∀ (n : Nat) (M : List Int) (k : Int), 0 ≤ k → k + n ≤ 4194304 → M.length + n ≤ 9223372036854775807 → L36_0 (ints (M ++ iota k n)) (vi k) (vi (M.length : Nat)) = some (vi (k + (n : Nat)), [])
  | 0, M, k, h0, hk, hl => by
    rw [l36_0]
    simp -implicitDefEqProofs only [evs, Nat.reduceAdd, reduceIte, iota, List.append_nil, Int.natCast_zero, Int.add_zero]
  | n + 1, M, k, h0, hk, hl => by
    rw [iota]
    have h1 : ((M.length : Nat) : Int) < (((M ++ k :: iota (k + 1) n).length : Nat) : Int) := mid_lt M _ k
    have h2 := mid_addr (f := ci) (k := 1) M (iota (k + 1) n) k
    have e1 : ck (k + 1) = some (vi (k + 1)) := ck_le (by omega) (by omega)
    have h5 := add_one (i := M.length) (n := (M ++ k :: iota (k + 1) n).length) (by simp) (by simp [iota_length]; omega)
    have ih := heldIntS_loop n (M ++ [k]) (k + 1) (by omega) (by omega) (by simp; omega)
    have q : (M ++ [k]).length = M.length + 1 := by simp
    rw [q, List.append_assoc, List.singleton_append, show k + 1 + ((n : Nat) : Int) = k + ((n + 1 : Nat) : Int) by omega] at ih
    rw [l36_0]
    simp -implicitDefEqProofs only [evs, Nat.reduceAdd, reduceIte, h1, h2, e1, h5, ih]
theorem heldIntS_eq (n : Nat) (k : Int) (h0 : 0 ≤ k) (hk : k + n ≤ 4194304) : G 36 [ints (iota k n), vi k] = some (vi (k + (n : Nat)), []) := by
  have := heldIntS_loop n [] k h0 hk (by simp; omega)
  rw [g36]
  exact this
theorem markOrd_eq (o : Ord') (h : osz o ≤ 1048576) : ∃ X Y, C17_0 (vi o.var) (vi 1) (o.syms.map cs) (o.ws.map ci) = some (.top, [vi ((1 + o.syms.length + o.ws.length : Nat) : Int), .sl 1 X, .sl 1 Y]) := by
  unfold osz at h
  obtain ⟨X, h1⟩ := markStringS_loop o.syms [] 1 (by omega) (by simp; omega)
  have e1 : C62_0 (vi 1) (o.syms.map cs) = some (.top, [vi ((1 + o.syms.length : Nat) : Int), .sl 1 X]) := by
    rw [c62_0]
    exact h1
  have e2 := markIntS_eq o.ws ((1 + o.syms.length : Nat) : Int) (by omega) (by omega)
  refine ⟨X, (iota ((1 + o.syms.length : Nat) : Int) o.ws.length).map ci, ?_⟩
  rw [c17_0]
  simp -implicitDefEqProofs only [evs, Nat.reduceAdd, reduceIte, e1, e2, List.getElem?_cons_zero, ← Int.natCast_add]

mutual
/-- How many names a mark writes. -/
def mkN : T → Nat
  | .mk _ us => 1 + mkL us
def mkL : List T → Nat
  | [] => 0
  | t :: ts => mkN t + mkL ts
end
theorem mkN_eq (t : T) : mkN t = 1 + mkL t.args := by cases t; simp [mkN, T.args]
mutual
theorem mkN_tsz : ∀ t : T, mkN t ≤ 1 + tsz t
  | .mk n us => by
    have := mkL_tsz us
    simp only [mkN, tsz]
    omega
theorem mkL_tsz : ∀ ts : List T, mkL ts ≤ ts.length + tszL ts
  | [] => by simp [mkL]
  | t :: ts => by
    have h1 := mkN_tsz t
    have h2 := mkL_tsz ts
    simp only [mkL, tszL, List.length_cons]
    omega
end
theorem markTermS_loop : ∀ (r : List T) (M : List (List A)) (k : Nat), k + mkL r ≤ 100000000 → M.length + r.length ≤ 9223372036854775807 →
    (∀ t ∈ r, ∀ k : Nat, k + mkL t.args ≤ 100000000 → ∃ X, C27_0 (vi (k : Nat)) (t.args.map tcells) = some (.top, [vi ((k + mkL t.args : Nat) : Int), .sl 66 X])) →
    ∃ X, L27c0_0 (vi (k : Nat)) (vi (M.length : Nat)) (M ++ r.map tcells) = some (.top, [vi ((k + mkL r : Nat) : Int), .sl 66 X])
  | [], M, k, hk, hl, _ => by
    refine ⟨M, ?_⟩
    rw [l27c0_0, List.map_nil, List.append_nil]
    simp -implicitDefEqProofs only [evs, Nat.reduceAdd, reduceIte, mkL, Nat.add_zero]
  | t :: r, M, k, hk, hl, ht => by
    simp only [mkL, mkN_eq, List.length_cons] at hk hl
    have h1 : ((M.length : Nat) : Int) < (((M ++ tcells t :: r.map tcells).length : Nat) : Int) := by simp; omega
    have h2 := row_ix M (r.map tcells) (tcells t)
    have h3 := row_get M (r.map tcells) (tcells t)
    obtain ⟨s, e0⟩ := markText_eq k (by omega)
    have h4 := row_set M (r.map tcells) (tcells t) [sv s, tms t.args]
    have h5 := row_ix M (r.map tcells) [sv s, tms t.args]
    have h6 := row_get M (r.map tcells) [sv s, tms t.args]
    have e1 := add_one (i := k) (n := k + 1) (by omega) (by omega)
    have e2 := add_one (i := M.length) (n := M.length + 1) (by omega) (by omega)
    obtain ⟨Y, e3⟩ := ht t (by simp) (k + 1) (by omega)
    have h7 := row_set M (r.map tcells) [sv s, tms t.args] [sv s, .sl 2 Y]
    obtain ⟨X, ih⟩ := markTermS_loop r (M ++ [[sv s, .sl 2 Y]]) (k + 1 + mkL t.args) (by omega) (by simp; omega) fun u hu => ht u (by simp [hu])
    have q : (M ++ [[sv s, .sl 2 Y]]).length = M.length + 1 := by simp
    have q2 : M ++ [[sv s, .sl 2 Y]] ++ r.map tcells = M ++ [sv s, .sl 2 Y] :: r.map tcells := by simp
    rw [q, q2, show k + 1 + mkL t.args + mkL r = k + (1 + mkL t.args + mkL r) by omega] at ih
    have o1 : cOver (tcells t) 0 [sv s] = [sv s, tms t.args] := by rw [tcells_eq]; rfl
    have o2 : cOver [sv s, tms t.args] 1 [.sl 2 Y] = [sv s, .sl 2 Y] := rfl
    have tv : tVals (tcells t) 0 1 = true := by rw [tcells_eq]; rfl
    refine ⟨X, ?_⟩
    rw [l27c0_0, List.map_cons, mkL, mkN_eq]
    simp -implicitDefEqProofs only [evs, Nat.reduceAdd, reduceIte, h1, e0, h2, h3, isVal_sv, tv, o1, h4, h5, h6, isSlA_sl, e1, e3, List.getElem?_cons_zero, o2, h7, e2, ih]
theorem markArgs_eq (t : T) : twf t → ∀ k : Nat, k + mkL t.args ≤ 100000000 → ∃ X, C27_0 (vi (k : Nat)) (t.args.map tcells) = some (.top, [vi ((k + mkL t.args : Nat) : Int), .sl 66 X]) := by
  refine T.ind (p := fun t => twf t → ∀ k : Nat, k + mkL t.args ≤ 100000000 → ∃ X, C27_0 (vi (k : Nat)) (t.args.map tcells) = some (.top, [vi ((k + mkL t.args : Nat) : Int), .sl 66 X])) ?_ t
  intro t ih hw k hk
  obtain ⟨_, w2, w3⟩ := (twf_eq t).1 hw
  have w3 := (twfL_iff _).1 w3
  obtain ⟨X, h⟩ := markTermS_loop t.args [] k hk (by simpa using w2) fun u hu => ih u hu (w3 u hu)
  refine ⟨X, ?_⟩
  rw [c27_0]
  exact h
end Go.Proofs.YtjclanocnkankaaGreat
