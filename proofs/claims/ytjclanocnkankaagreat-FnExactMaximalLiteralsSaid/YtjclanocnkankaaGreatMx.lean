/- MaximalLiterals of both sides, and its law. -/
import Derived.Test.YtjclanocnkankaaGreatMk
namespace Go.Proofs.YtjclanocnkankaaGreat
open Go Go.RowKit Go.ChangeShapes Go.Deep Go.Proofs.YtjclanocnkankaaGreat.Abs

set_option linter.unusedSimpArgs false
set_option linter.unusedVariables false
set_option maxHeartbeats 1000000

abbrev lits (ls : List Lit') : A := .sl 3 (ls.map lcells)
abbrev clm (ls : List Lit') : A := .agg [lits ls]
/-- What the literals of a clause are asked for. -/
def lwf (ls : List Lit') : Prop := (∀ l ∈ ls, twf l.atom) ∧ ls.length ≤ 9223372036854775807
theorem pLoadN_lit (l : Lit') : pLoadN 3 (.elt (lcells l) 0) = some (lm l) := rfl
def litsSz : List Lit' → Nat
  | [] => 0
  | l :: ls => tsz l.atom + litsSz ls
theorem litsSz_mem : ∀ {ls : List Lit'} {l : Lit'}, l ∈ ls → tsz l.atom ≤ litsSz ls
  | [], _, h => by cases h
  | x :: xs, l, h => by
    simp only [litsSz]
    rcases List.mem_cons.1 h with rfl | h
    · omega
    · have := litsSz_mem h; omega

/-! ### Copies, marks, comparisons of clauses -/
theorem sz_lits (ls : List Lit') (hw : lwf ls) (left : Int) (h0 : 0 ≤ left) (h1 : left ≤ 1048576) : G 76 [lits ls, vi left] = some (vi (left1 left ((ls.length + litsSz ls : Nat) : Int)), []) := by
  have hl := hw.2
  have loop : ∀ (a : Int), 0 ≤ a → a ≤ 1048576 → L76_0 (lits ls) (vi a) (vi 0) = some (vi (left1 a (litsSz ls)), []) := by
    have key := (upto (P := fun i => ∀ a : Int, 0 ≤ a → a ≤ 1048576 → L76_0 (lits ls) (vi a) (vi i) = some (vi (left1 a (litsSz (ls.drop i))), [])) (n := ls.length) ?_ ?_ 0 (Nat.zero_le _))
    · simp only [List.drop_zero, Int.natCast_zero] at key
      exact key
    · intro b hb hb'
      rw [l76_0, List.drop_length]
      simp -implicitDefEqProofs only [evs, Nat.reduceAdd, reduceIte, litsSz]
      rw [left1_zero hb]
    · intro i hi ih' b hb hb'
      have e1 := sz_lit ls[i] (hw.1 _ (List.getElem_mem _)) b hb hb'
      rw [l76_0, drop_cons hi]
      simp -implicitDefEqProofs only [evs, Nat.reduceAdd, reduceIte, hi, Int.ofNat_lt, pIndexAddr_map hi, pLoadN_lit, e1, add_one hi hl, litsSz]
      by_cases hc : b < (tsz ls[i].atom : Nat)
      · rw [left1_neg hc, left1_neg (by omega)]
        rfl
      · have hp := left1_pos (Int.not_lt.1 hc)
        have ih' := ih' (left1 b (tsz ls[i].atom : Nat)) (by omega) (by omega)
        have hn : ¬ left1 b ((tsz ls[i].atom : Nat) : Int) < 0 := by omega
        simp -implicitDefEqProofs only [evs, Nat.reduceAdd, reduceIte, hn, ih']
        rw [left1_add (Int.not_lt.1 hc), ← Int.natCast_add]
  have hk := ck_sub h0 (Int.le_trans h1 (by decide)) hl
  rw [g76]
  simp -implicitDefEqProofs only [evs, Nat.reduceAdd, reduceIte, hk]
  by_cases hc : left - ls.length < 0
  · simp -implicitDefEqProofs only [evs, Nat.reduceAdd, reduceIte, hc]
    rw [left1_neg (by omega)]
  · have hl := loop (left - ls.length) (by omega) (by omega)
    simp -implicitDefEqProofs only [evs, Nat.reduceAdd, reduceIte, hc, hl]
    rw [left1_sub, ← Int.natCast_add]
theorem left1_cases (l : Int) (n : Nat) (h : left1 l (n : Int) < 0) : left1 l (n : Int) = -1 := by
  have := left1_ge l n; omega
theorem sz_clause (ls : List Lit') (hw : lwf ls) (left : Int) (h0 : 0 ≤ left) (h1 : left ≤ 1048576) : G 28 [clm ls, vi left] = some (vi (left1 left ((ls.length + litsSz ls : Nat) : Int)), []) := by
  have e1 := sz_lits ls hw left h0 h1
  rw [g28]
  by_cases h : left1 left ((ls.length + litsSz ls : Nat) : Int) < 0
  · have := left1_cases _ _ h
    simp -implicitDefEqProofs only [evs, Nat.reduceAdd, reduceIte, e1, h, this]
  · simp -implicitDefEqProofs only [evs, Nat.reduceAdd, reduceIte, e1, h]
theorem cOver_3 (a b c d e f : A) : cOver [a, b, c] 0 [d, e, f] = [d, e, f] := rfl
theorem pMake_48 {n : Nat} (hn : n ≤ 1048576) : pMake 48 (vi n) (vi n) = some n := by
  show (if _ then _ else _) = _
  rw [if_pos (show FitM 48 n n from ⟨by omega, Int.le_refl _, by omega, by omega⟩), Int.toNat_natCast]
theorem to_litC (l : Lit') (h : tsz l.atom ≤ 1048576) : C128_0 (lm l) = some (.top, [vb l.pos, sv l.atom.name, .sl 66 (l.atom.args.map tcells)]) := by
  have e1 := to_term0 l.atom h
  rw [c128_0]
  simp -implicitDefEqProofs only [evs, Nat.reduceAdd, reduceIte, e1, List.getElem?_cons_zero]
theorem to_litsC (ls : List Lit') (hl : ls.length ≤ 1048576) (hs : ∀ l ∈ ls, tsz l.atom ≤ 1048576) : C79_0 (lits ls) = some (.top, [.sl 67 (ls.map lcells)]) := by
  have key := (upto (P := fun i => L79c0_0 (lits ls) (vi i) (part lcells [vb false, sv [], .sl 2 []] ls i) = some (.top, [.sl 67 (ls.map lcells)])) (n := ls.length) ?_ ?_ 0 (Nat.zero_le _))
  · rw [c79_0]
    have hm := pMake_48 hl
    simp only [Int.natCast_zero, ← part_zero] at key
    simp -implicitDefEqProofs only [evs, Nat.reduceAdd, reduceIte, hm, key]
  · rw [l79c0_0, part_end]
    simp -implicitDefEqProofs only [evs, Nat.reduceAdd, reduceIte]
  · intro i hi ih'
    have h1 := part_length (f := lcells) (z := [vb false, sv [], .sl 2 []]) (Nat.le_of_lt hi)
    have h2 : pIx (part lcells [vb false, sv [], .sl 2 []] ls i).length (vi i) = some i := pIx_lt (by omega)
    have h4 := part_set (f := lcells) (z := [vb false, sv [], .sl 2 []]) hi
    have h5 := add_one hi (Nat.le_trans hl (by decide))
    have e1 := to_litC ls[i] (hs _ (List.getElem_mem _))
    rw [l79c0_0]
    simp -implicitDefEqProofs only [evs, Nat.reduceAdd, reduceIte, hi, Int.ofNat_lt, pIndexAddr_map hi, pLoadN_lit, e1, List.getElem?_cons_zero, List.getElem?_cons_succ, isVal_sv, isVal_vb, h2, part_get hi, cOver_3, h4, h5, ih']
theorem to_clauseC (ls : List Lit') (hl : ls.length ≤ 1048576) (hs : ∀ l ∈ ls, tsz l.atom ≤ 1048576) : C30_0 (lits ls) = some (.top, [.sl 67 (ls.map lcells)]) := by
  have e1 := to_litsC ls hl hs
  rw [c30_0]
  simp -implicitDefEqProofs only [evs, Nat.reduceAdd, reduceIte, e1]
theorem eq_lits (ls : List Lit') (hw : lwf ls) : G 82 [lits ls, lits ls] = some (vb true, []) := by
  have key := (upto (P := fun i => L82_0 (lits ls) (lits ls) (vi i) = some (vb true, [])) (n := ls.length) ?_ ?_ 0 (Nat.zero_le _))
  · rw [g82]
    simp only [Int.natCast_zero] at key
    simp -implicitDefEqProofs only [evs, Nat.reduceAdd, reduceIte, key]
  · rw [l82_0]
    simp -implicitDefEqProofs only [evs, Nat.reduceAdd, reduceIte]
  · intro i hi ih'
    have h5 := add_one hi hw.2
    have e1 := eq_lit ls[i] (hw.1 _ (List.getElem_mem _))
    rw [l82_0]
    simp -implicitDefEqProofs only [evs, Nat.reduceAdd, reduceIte, hi, Int.ofNat_lt, pIndexAddr_map hi, pLoadN_lit, e1, h5, ih']
theorem eq_clause (ls : List Lit') (hw : lwf ls) : G 33 [clm ls, clm ls] = some (vb true, []) := by
  have e1 := eq_lits ls hw
  rw [g33]
  simp -implicitDefEqProofs only [evs, Nat.reduceAdd, reduceIte, e1]
def mkLs : List Lit' → Nat
  | [] => 0
  | l :: ls => 2 + mkL l.atom.args + mkLs ls
theorem mkLs_le : ∀ ls : List Lit', mkLs ls ≤ 2 * ls.length + litsSz ls
  | [] => by simp [mkLs]
  | l :: ls => by
    have h1 := mkLs_le ls
    have h2 := mkL_tsz l.atom.args
    have h3 := tsz_eq l.atom
    simp only [mkLs, litsSz, List.length_cons]
    omega
theorem markLits_loop : ∀ (r : List Lit') (M : List (List A)) (k : Nat), k + mkLs r ≤ 100000000 → M.length + r.length ≤ 9223372036854775807 → (∀ l ∈ r, twf l.atom) →
    ∃ X, L83c0_0 (vi (k : Nat)) (vi (M.length : Nat)) (M ++ r.map lcells) = some (.top, [vi ((k + mkLs r : Nat) : Int), .sl 67 X])
  | [], M, k, hk, hl, _ => by
    refine ⟨M, ?_⟩
    rw [l83c0_0, List.map_nil, List.append_nil]
    simp -implicitDefEqProofs only [evs, Nat.reduceAdd, reduceIte, mkLs, Nat.add_zero]
  | l :: r, M, k, hk, hl, ht => by
    simp only [mkLs, List.length_cons] at hk hl
    have h1 : ((M.length : Nat) : Int) < (((M ++ lcells l :: r.map lcells).length : Nat) : Int) := by simp; omega
    have hm : ((k : Nat) : Int).tmod 3 = ((k % 3 : Nat) : Int) := by rw [Int.tmod_eq_emod_of_nonneg (by omega)]; rfl
    generalize hb : decide (((k % 3 : Nat) : Int) = 0) = b
    have h2 := row_ix M (r.map lcells) (lcells l)
    have h3 := row_get M (r.map lcells) (lcells l)
    obtain ⟨s, e0⟩ := markText_eq (k + 1) (by omega)
    have s1 := row_set M (r.map lcells) (lcells l) [vb b, sv l.atom.name, tms l.atom.args]
    have i1 := row_ix M (r.map lcells) [vb b, sv l.atom.name, tms l.atom.args]
    have g1 := row_get M (r.map lcells) [vb b, sv l.atom.name, tms l.atom.args]
    have s2 := row_set M (r.map lcells) [vb b, sv l.atom.name, tms l.atom.args] [vb b, sv s, tms l.atom.args]
    have i2 := row_ix M (r.map lcells) [vb b, sv s, tms l.atom.args]
    have g2 := row_get M (r.map lcells) [vb b, sv s, tms l.atom.args]
    obtain ⟨Y, e3⟩ := markArgs_eq l.atom (ht l (by simp)) (k + 2) (by omega)
    have s3 := row_set M (r.map lcells) [vb b, sv s, tms l.atom.args] [vb b, sv s, .sl 2 Y]
    have e1 := add_one (i := k) (n := k + 1) (by omega) (by omega)
    have e1' := add_one (i := k + 1) (n := k + 2) (by omega) (by omega)
    have e2 := add_one (i := M.length) (n := M.length + 1) (by omega) (by omega)
    obtain ⟨X, ih⟩ := markLits_loop r (M ++ [[vb b, sv s, .sl 2 Y]]) (k + 2 + mkL l.atom.args) (by omega) (by simp; omega) fun u hu => ht u (by simp [hu])
    have q : (M ++ [[vb b, sv s, .sl 2 Y]]).length = M.length + 1 := by simp
    have q2 : M ++ [[vb b, sv s, .sl 2 Y]] ++ r.map lcells = M ++ [vb b, sv s, .sl 2 Y] :: r.map lcells := by simp
    rw [q, q2, show k + 2 + mkL l.atom.args + mkLs r = k + (2 + mkL l.atom.args + mkLs r) by omega] at ih
    have o1 : cOver (lcells l) 0 [vb b] = [vb b, sv l.atom.name, tms l.atom.args] := rfl
    have o2 : cOver [vb b, sv l.atom.name, tms l.atom.args] 1 [sv s] = [vb b, sv s, tms l.atom.args] := rfl
    have o3 : cOver [vb b, sv s, tms l.atom.args] 2 [.sl 2 Y] = [vb b, sv s, .sl 2 Y] := rfl
    have t1 : tVals (lcells l) 0 1 = true := rfl
    have t2 : tVals [vb b, sv l.atom.name, tms l.atom.args] 1 1 = true := rfl
    refine ⟨X, ?_⟩
    rw [l83c0_0, List.map_cons, mkLs]
    simp -implicitDefEqProofs only [evs, Nat.reduceAdd, reduceIte, h1, pBin_rem3, hm, hb, h2, h3, isVal_vb, t1, o1, e1, e0, s1, i1, isVal_sv, g1, t2, o2, e1', s2, i2, g2, isSlA_sl, e3, List.getElem?_cons_zero, o3, s3, e2, ih]
theorem markClause_eq (ls : List Lit') (k : Nat) (hk : k + mkLs ls ≤ 100000000) (hw : lwf ls) : ∃ X, C34_0 (vi (k : Nat)) (ls.map lcells) = some (.top, [vi ((k + mkLs ls : Nat) : Int), .sl 67 X]) := by
  obtain ⟨X, h⟩ := markLits_loop ls [] k hk (by simpa using hw.2) hw.1
  refine ⟨X, ?_⟩
  have e1 : C83_0 (vi (k : Nat)) (ls.map lcells) = some (.top, [vi ((k + mkLs ls : Nat) : Int), .sl 67 X]) := by
    rw [c83_0]
    exact h
  rw [c34_0]
  simp -implicitDefEqProofs only [evs, Nat.reduceAdd, reduceIte, e1, List.getElem?_cons_zero]

/-! ### The program -/
theorem containsLit {f : FuncId} {caps : List A} (hsig : K.pureF f = true) (p : Lit' → Bool) (ts : List Lit') (hl : ts.length ≤ 9223372036854775807) (h : ∀ t ∈ ts, G f (lm t :: caps) = some (vb (p t), [])) :
    G 129 [lits ts, .fn f caps] = some (vb (ts.any p), []) := by
  have key := upto (P := fun i => L175_0 (lits ts) (.fn f caps) (vi (ts.length : Nat)) (vi i) = some (vi (match (ts.drop i).findIdx? p with | some j => ((i + j : Nat) : Int) | none => -1), [])) (n := ts.length) ?_ ?_ 0 (Nat.zero_le _)
  · simp only [Int.natCast_zero, List.drop_zero, Nat.zero_add] at key
    have e1 : G 175 [lits ts, .fn f caps] = some (vi (ixI p ts), []) := by
      rw [g175]
      simp -implicitDefEqProofs only [evs, Nat.reduceAdd, reduceIte, key]
      rfl
    have e2 : decide (0 ≤ ixI p ts) = ts.any p := by
      unfold ixI
      cases h : ts.findIdx? p with
      | none =>
        rw [List.findIdx?_eq_none_iff] at h
        symm
        simpa using h
      | some i =>
        rw [List.findIdx?_eq_some_iff_getElem] at h
        obtain ⟨h1, h2, _⟩ := h
        have : ts.any p = true := List.any_eq_true.2 ⟨_, List.getElem_mem h1, h2⟩
        rw [this]
        dsimp only
        exact decide_eq_true (by omega)
    rw [g129]
    simp -implicitDefEqProofs only [evs, Nat.reduceAdd, reduceIte, e1, e2]
  · rw [l175_0]
    simp -implicitDefEqProofs only [evs, Nat.reduceAdd, reduceIte, List.drop_length, List.findIdx?_nil]
  · intro i hi ih
    have hlt : (i : Int) < ((ts.length : Nat) : Int) := by omega
    have h5 := add_one hi hl
    have e1 := h ts[i] (List.getElem_mem _)
    rw [l175_0, drop_cons hi, List.findIdx?_cons]
    cases hp : p ts[i] <;> rw [hp] at e1
    · simp -implicitDefEqProofs only [evs, Nat.reduceAdd, reduceIte, hlt, pIndexAddr_map hi, pLoadN_lit, callc_fn hsig, List.cons_append, List.nil_append, e1, h5, ih]
      cases hq : (ts.drop (i + 1)).findIdx? p with
      | none => rfl
      | some j =>
        simp only [Option.map_some]
        rw [show i + 1 + j = i + (j + 1) by omega]
    · simp -implicitDefEqProofs only [evs, Nat.reduceAdd, reduceIte, hlt, pIndexAddr_map hi, pLoadN_lit, callc_fn hsig, List.cons_append, List.nil_append, e1]
      rfl
theorem notCovers_eq (o : Ord') (l : Lit') (ho : owf o) (hw : twf l.atom) (hs : tsz l.atom ≤ 1048576) : G 130 [lm l, .elt (ocells o) 0] = some (vb (!coverA o l.atom), []) := by
  have e1 := coversAtom_eq o l.atom ho hw hs
  rw [g130]
  simp -implicitDefEqProofs only [evs, Nat.reduceAdd, reduceIte, pLoadN_3, e1]
theorem any_not'' {α : Type} (p : α → Bool) : ∀ l : List α, (!l.any fun x => !p x) = l.all p
  | [] => rfl
  | x :: l => by simp [any_not'' p l]
def covs (o : Ord') (ls : List Lit') : Bool := ls.all fun l => coverA o l.atom
theorem coversClause_eq (o : Ord') (ls : List Lit') (ho : owf o) (hw : lwf ls) (hs : ∀ l ∈ ls, tsz l.atom ≤ 1048576) : G 80 [od o, clm ls] = some (vb (covs o ls), []) := by
  have e1 := containsLit (f := 130) (caps := [.elt (ocells o) 0]) rfl (fun l => !coverA o l.atom) ls hw.2 (fun l h => notCovers_eq o l ho (hw.1 l h) (hs l h))
  have e2 := any_not'' (fun l : Lit' => coverA o l.atom) ls
  rw [g80, covs, ← e2]
  simp -implicitDefEqProofs only [evs, Nat.reduceAdd, reduceIte, e1]
/-- One literal above another. -/
noncomputable def gtL (o : Ord') (a b : Lit') : Bool := decide (cmpM o (msI a) (msI b) = 2)
noncomputable def mxFrom (o : Ord') (ls : List Lit') : Nat → List Lit' → List Int
  | _, [] => []
  | k, l :: r => if ls.any (fun a => gtL o a l) then mxFrom o ls (k + 1) r else ((k : Nat) : Int) :: mxFrom o ls (k + 1) r
theorem mxFrom_len (o : Ord') (ls : List Lit') : ∀ (k : Nat) (r : List Lit'), (mxFrom o ls k r).length ≤ r.length
  | _, [] => Nat.le_refl _
  | k, l :: r => by
    have := mxFrom_len o ls (k + 1) r
    rw [mxFrom]
    split <;> simp only [List.length_cons] <;> omega
theorem pFit_8' {n : Nat} (h : n ≤ 4194304) : pFit n 8 = true := by
  unfold pFit
  exact decide_eq_true ⟨by omega, by omega⟩
theorem pFit_24 {n : Nat} (h : n ≤ 4194304) : pFit n 24 = true := by
  unfold pFit
  exact decide_eq_true ⟨by omega, by omega⟩
theorem rApp_1 (a : List Int) (x : Int) : rApp (a.map ci) [[vi x]] = (a ++ [x]).map ci := by simp [rApp]
/-- What a covered clause gives. -/
structure Cl (o : Ord') (ls : List Lit') : Prop where
  v : validO o = true
  ow : owf o
  w : lwf ls
  s : ∀ l ∈ ls, tsz l.atom ≤ 1048576
  c : covs o ls = true
  n : ls.length ≤ 8
theorem Cl.cov {o : Ord'} {ls : List Lit'} (h : Cl o ls) : ∀ l ∈ ls, coverA o l.atom = true := by
  have := h.c
  unfold covs at this
  rw [List.all_eq_true] at this
  exact this
theorem maximal_loop {o : Ord'} {ls : List Lit'} (h : Cl o ls) : ∀ (rest pre : List Lit') (out : List Int), ls = pre ++ rest → out.length ≤ pre.length →
    L81c0_0 (lits ls) (vi (ls.length : Nat)) (vi (pre.length : Nat)) (strs o.syms) (ints o.ws) (vi o.var) (lits ls) (out.map ci) = some (.top, [ints (out ++ mxFrom o ls pre.length rest)])
  | [], pre, out, hp, hl => by
    have h1 : ¬ ((pre.length : Nat) : Int) < ((ls.length : Nat) : Int) := by rw [hp]; simp
    rw [l81c0_0, mxFrom, List.append_nil]
    simp -implicitDefEqProofs only [evs, Nat.reduceAdd, reduceIte, h1]
  | l :: rest, pre, out, hp, hl => by
    have hn := h.n
    have hm : l ∈ ls := by rw [hp]; simp
    have hpl : pre.length < ls.length := by rw [hp]; simp
    have h1 : ((pre.length : Nat) : Int) < ((ls.length : Nat) : Int) := by omega
    have h2 : pIndexAddr 3 (lits ls) (vi (pre.length : Nat)) = some (.elt (lcells l) 0) := by rw [hp]; exact mid_addr (f := lcells) pre rest l
    have h5 := add_one hpl (show ls.length ≤ 9223372036854775807 by omega)
    have e1 := containsLit (f := 131) (caps := [.elt (ocells o) 0, .elt (lcells l) 0]) rfl (fun a => gtL o a l) ls h.w.2 (fun a ha => by
      have e2 := orderLit_eq h.v h.ow (h.cov a ha) (h.cov l hm) (h.w.1 a ha) (h.w.1 l hm) (h.s a ha) (h.s l hm)
      rw [g131]
      simp -implicitDefEqProofs only [evs, Nat.reduceAdd, reduceIte, pLoadN_3, e2, gtL])
    have hf : pFit (out.length + 1) 8 = true := pFit_8' (by omega)
    have ih := fun out' => maximal_loop h rest (pre ++ [l]) out' (by rw [hp]; simp)
    have q : (pre ++ [l]).length = pre.length + 1 := by simp
    rw [q] at ih
    rw [l81c0_0, mxFrom]
    cases ha : ls.any (fun a => gtL o a l) <;> rw [ha] at e1
    · have ih := ih (out ++ [((pre.length : Nat) : Int)]) (by simp; omega)
      rw [List.append_assoc, List.singleton_append] at ih
      simp -implicitDefEqProofs only [evs, Nat.reduceAdd, reduceIte, h1, h2, pLoadN_lit, e1, hf, rApp_1, h5, ih]
    · have ih := ih out (by omega)
      simp -implicitDefEqProofs only [evs, Nat.reduceAdd, reduceIte, h1, h2, pLoadN_lit, e1, h5, ih]
noncomputable def maxR (o : Ord') (ls : List Lit') : List A := if validO o && (decide (ls.length ≤ 8) && covs o ls) then [vb true, ints (mxFrom o ls 0 ls)] else [vb false, .sl 1 []]
theorem impl_max (o : Ord') (ls : List Lit') (ho : owf o) (hw : lwf ls) (hs : ∀ l ∈ ls, tsz l.atom ≤ 1048576) : C31_0 (od o) (clm ls) = some (.top, maxR o ls) := by
  have e1 := isValidOrdering_eq o ho
  have e2 := coversClause_eq o ls ho hw hs
  rw [c31_0, maxR]
  cases hv : validO o <;> rw [hv] at e1
  · simp -implicitDefEqProofs only [evs, Nat.reduceAdd, reduceIte, e1, Bool.false_and]
  by_cases hn : ls.length ≤ 8
  · have hn' : ¬ (8 : Int) < ((ls.length : Nat) : Int) := by omega
    rw [decide_eq_true hn]
    cases hc : covs o ls <;> rw [hc] at e2
    · simp -implicitDefEqProofs only [evs, Nat.reduceAdd, reduceIte, e1, hn', e2, Bool.and_false]
    · have hl := maximal_loop ⟨hv, ho, hw, hs, hc, hn⟩ ls [] [] rfl (Nat.le_refl _)
      simp only [List.length_nil, Int.natCast_zero, List.map_nil, List.nil_append] at hl
      have e3 : C81_0 (strs o.syms) (ints o.ws) (vi o.var) (lits ls) = some (.top, [ints (mxFrom o ls 0 ls)]) := by
        rw [c81_0]
        simp -implicitDefEqProofs only [evs, Nat.reduceAdd, reduceIte, hl]
      simp -implicitDefEqProofs only [evs, Nat.reduceAdd, reduceIte, e1, hn', e2, e3]
  · have hn' : (8 : Int) < ((ls.length : Nat) : Int) := by omega
    rw [decide_eq_false hn]
    simp -implicitDefEqProofs only [evs, Nat.reduceAdd, reduceIte, e1, hn', Bool.false_and, Bool.and_false]

/-! ### The reference -/
abbrev msR (l : Lit') : List A := [tms (msS l)]
theorem pair_eq {o : Ord'} {ls : List Lit'} (h : Cl o ls) {a b : Lit'} (ha : a ∈ ls) (hb : b ∈ ls) : G 78 [od o, tms (msS a), tms (msS b)] = some (vi (cmpM o (msI a) (msI b)), []) := by
  obtain ⟨l1, m1⟩ := msS_El (h.cov a ha) (h.w.1 a ha) (h.s a ha)
  obtain ⟨l2, m2⟩ := msS_El (h.cov b hb) (h.w.1 b hb) (h.s b hb)
  rw [spec_cmpM h.v h.ow m1 m2 l1 l2, cmpM_cnt o (ms_cnt a) (ms_cnt b)]
theorem specIn {o : Ord'} {ls : List Lit'} (h : Cl o ls) {i : Nat} (hi : i < ls.length) (out : List Int) (ho : out.length ≤ i) : ∀ (rest pre : List Lit') (m : Bool), ls = pre ++ rest →
    L29c0_2 (vi (i : Nat)) (vb m) (vi (pre.length : Nat)) (strs o.syms) (ints o.ws) (vi o.var) (ls.map msR) (out.map ci) =
      L29c0_1 (vi ((i + 1 : Nat) : Int)) (strs o.syms) (ints o.ws) (vi o.var) (ls.map msR) ((if m && !(rest.any fun a => gtL o a ls[i]) then out ++ [((i : Nat) : Int)] else out).map ci)
  | [], pre, m, hp => by
    have hn := h.n
    have h1 : ¬ ((pre.length : Nat) : Int) < ((ls.length : Nat) : Int) := by rw [hp]; simp
    have h5 := add_one hi (show ls.length ≤ 9223372036854775807 by omega)
    have hf : pFit (out.length + 1) 8 = true := pFit_8' (by omega)
    rw [l29c0_2]
    cases m
    · simp -implicitDefEqProofs only [evs, Nat.reduceAdd, reduceIte, h1, h5, Bool.false_and]
    · simp -implicitDefEqProofs only [evs, Nat.reduceAdd, reduceIte, h1, hf, rApp_1, h5, List.any_nil, Bool.and_true]
  | a :: rest, pre, m, hp => by
    have hn := h.n
    have hpl : pre.length < ls.length := by rw [hp]; simp
    have h1 : ((pre.length : Nat) : Int) < ((ls.length : Nat) : Int) := by omega
    have h2 : pIx ls.length (vi (pre.length : Nat)) = some pre.length := pIx_lt hpl
    have h2' : pIx ls.length (vi (i : Nat)) = some i := pIx_lt hi
    have h3 : pRowP (ls.map msR) pre.length 0 = some (tms (msS a)) := by
      have := mid_get (f := msR) pre rest a
      unfold rGet at this
      unfold pRowP
      rw [hp, this]; rfl
    have h3' : pRowP (ls.map msR) i 0 = some (tms (msS ls[i])) := by
      unfold pRowP
      simp [hi]
    have e1 := pair_eq h (a := a) (b := ls[i]) (by rw [hp]; simp) (List.getElem_mem hi)
    have h5 := add_one hpl (show ls.length ≤ 9223372036854775807 by omega)
    have ih := fun m' => specIn h hi out ho rest (pre ++ [a]) m' (by rw [hp]; simp)
    have q : (pre ++ [a]).length = pre.length + 1 := by simp
    rw [q] at ih
    rw [l29c0_2]
    cases m
    · have ih := ih false
      simp only [Bool.false_and, Bool.false_eq_true, if_false] at ih ⊢
      simp -implicitDefEqProofs only [evs, Nat.reduceAdd, reduceIte, h1, h5, ih]
    · by_cases hg : cmpM o (msI a) (msI ls[i]) = 2
      · have hg' : gtL o a ls[i] = true := decide_eq_true hg
        have ih := ih false
        simp only [Bool.false_and, Bool.false_eq_true, if_false] at ih
        have hg2 : (cmpM o (msI a) (msI ls[i]) = 2) = True := eq_true hg
        simp -implicitDefEqProofs only [evs, Nat.reduceAdd, reduceIte, h1, h2, h2', h3, h3', e1, hg2, h5, ih, List.any_cons, hg', Bool.true_or, Bool.and_false]
      · have hg' : gtL o a ls[i] = false := decide_eq_false hg
        have ih := ih true
        simp -implicitDefEqProofs only [evs, Nat.reduceAdd, reduceIte, h1, h2, h2', h3, h3', e1, hg, h5, ih, List.any_cons, hg', Bool.false_or]
theorem specOut {o : Ord'} {ls : List Lit'} (h : Cl o ls) : ∀ (rest pre : List Lit') (out : List Int), ls = pre ++ rest → out.length ≤ pre.length →
    L29c0_1 (vi (pre.length : Nat)) (strs o.syms) (ints o.ws) (vi o.var) (ls.map msR) (out.map ci) = some (.top, [vb true, ints (out ++ mxFrom o ls pre.length rest)])
  | [], pre, out, hp, hl => by
    have h1 : ¬ ((pre.length : Nat) : Int) < ((ls.length : Nat) : Int) := by rw [hp]; simp
    rw [l29c0_1, mxFrom, List.append_nil]
    simp -implicitDefEqProofs only [evs, Nat.reduceAdd, reduceIte, h1]
  | l :: rest, pre, out, hp, hl => by
    have hpl : pre.length < ls.length := by rw [hp]; simp
    have h1 : ((pre.length : Nat) : Int) < ((ls.length : Nat) : Int) := by omega
    have hg : ls[pre.length] = l := by
      have : ls[pre.length]? = some l := by rw [hp, List.getElem?_append_right (Nat.le_refl _)]; simp
      rw [List.getElem?_eq_getElem hpl] at this
      exact Option.some.inj this
    have e1 := specIn h hpl out hl ls [] true rfl
    rw [hg] at e1
    simp only [List.length_nil, Int.natCast_zero, Bool.true_and] at e1
    have ih := fun out' => specOut h rest (pre ++ [l]) out' (by rw [hp]; simp)
    have q : (pre ++ [l]).length = pre.length + 1 := by simp
    rw [q] at ih
    rw [l29c0_1, mxFrom]
    cases ha : ls.any (fun a => gtL o a l) <;> rw [ha] at e1
    · have ih := ih (out ++ [((pre.length : Nat) : Int)]) (by simp; omega)
      rw [List.append_assoc, List.singleton_append] at ih
      simp only [Bool.not_false, if_true] at e1
      simp -implicitDefEqProofs only [evs, Nat.reduceAdd, reduceIte, h1, e1, ih]
    · have ih := ih out (by omega)
      simp only [Bool.not_true, Bool.false_eq_true, if_false] at e1
      simp -implicitDefEqProofs only [evs, Nat.reduceAdd, reduceIte, h1, e1, ih]
theorem specFill {o : Ord'} {ls : List Lit'} (ho : owf o) (hw : lwf ls) (hs : ∀ l ∈ ls, tsz l.atom ≤ 1048576) (hn : ls.length ≤ 8) : ∀ (rest pre : List Lit'), ls = pre ++ rest →
    L29c0_0 (vi (pre.length : Nat)) (strs o.syms) (ints o.ws) (vi o.var) (lits ls) (pre.map msR) =
      if covs o rest then L29c0_1 (vi 0) (strs o.syms) (ints o.ws) (vi o.var) (ls.map msR) [] else some (.top, [vb false, .sl 1 []])
  | [], pre, hp => by
    have h1 : ¬ ((pre.length : Nat) : Int) < ((ls.length : Nat) : Int) := by rw [hp]; simp
    have hc : covs o [] = true := rfl
    have hp' : pre = ls := by rw [hp]; simp
    rw [l29c0_0, hc]
    simp -implicitDefEqProofs only [evs, Nat.reduceAdd, reduceIte, h1, hp']
  | l :: rest, pre, hp => by
    have hm : l ∈ ls := by rw [hp]; simp
    have hpl : pre.length < ls.length := by rw [hp]; simp
    have h1 : ((pre.length : Nat) : Int) < ((ls.length : Nat) : Int) := by omega
    have h2 : pIndexAddr 3 (lits ls) (vi (pre.length : Nat)) = some (.elt (lcells l) 0) := by rw [hp]; exact mid_addr (f := lcells) pre rest l
    have h5 := add_one hpl (show ls.length ≤ 9223372036854775807 by omega)
    have hf : pFit (pre.length + 1) 24 = true := pFit_24 (by omega)
    have e1 := l6Literal_eq o ho l (hw.1 l hm) (hs l hm)
    unfold litR at e1
    have ih := specFill ho hw hs hn rest (pre ++ [l]) (by rw [hp]; simp)
    have q : (pre ++ [l]).length = pre.length + 1 := by simp
    have q2 : rApp (pre.map msR) [[tms (msS l)]] = (pre ++ [l]).map msR := by simp [rApp]
    rw [q] at ih
    have hcv : covs o (l :: rest) = (coverA o l.atom && covs o rest) := by simp [covs]
    rw [l29c0_0, hcv]
    cases hc : coverA o l.atom <;> rw [hc] at e1
    · simp only [Bool.false_eq_true, if_false] at e1
      simp -implicitDefEqProofs only [evs, Nat.reduceAdd, reduceIte, h1, h2, pLoadN_lit, e1, Bool.false_and]
    · simp only [if_true] at e1
      simp -implicitDefEqProofs only [evs, Nat.reduceAdd, reduceIte, h1, h2, pLoadN_lit, e1, hf, h5, q2, ih, Bool.true_and]
theorem spec_max (o : Ord') (ls : List Lit') (ho : owf o) (hw : lwf ls) (hs : ∀ l ∈ ls, tsz l.atom ≤ 1048576) : C29_0 (od o) (clm ls) = some (.top, maxR o ls) := by
  have e1 := l6Good_eq o ho
  rw [c29_0, maxR]
  cases hv : validO o <;> rw [hv] at e1
  · simp -implicitDefEqProofs only [evs, Nat.reduceAdd, reduceIte, e1, Bool.false_and]
  by_cases hn : ls.length ≤ 8
  · have hn' : ¬ (8 : Int) < ((ls.length : Nat) : Int) := by omega
    have e2 := specFill ho hw hs hn ls [] rfl
    simp only [List.length_nil, Int.natCast_zero, List.map_nil] at e2
    rw [decide_eq_true hn]
    cases hc : covs o ls <;> rw [hc] at e2
    · simp only [Bool.false_eq_true, if_false] at e2
      simp -implicitDefEqProofs only [evs, Nat.reduceAdd, reduceIte, e1, hn', e2, Bool.and_false]
    · have e3 := specOut ⟨hv, ho, hw, hs, hc, hn⟩ ls [] [] rfl (Nat.le_refl _)
      simp only [List.length_nil, Int.natCast_zero, List.map_nil, List.nil_append] at e3
      simp only [if_true] at e2
      rw [e3] at e2
      simp -implicitDefEqProofs only [evs, Nat.reduceAdd, reduceIte, e1, hn', e2]
  · have hn' : (8 : Int) < ((ls.length : Nat) : Int) := by omega
    rw [decide_eq_false hn]
    simp -implicitDefEqProofs only [evs, Nat.reduceAdd, reduceIte, e1, hn', Bool.false_and, Bool.and_false]

theorem maxR_shape (o : Ord') (ls : List Lit') : ∃ (f : Bool) (m : List Int), m.length ≤ 8 ∧ maxR o ls = [vb f, ints m] := by
  unfold maxR
  cases h : (validO o && (decide (ls.length ≤ 8) && covs o ls))
  · exact ⟨false, [], by simp, rfl⟩
  · simp only [Bool.and_eq_true, decide_eq_true_eq] at h
    exact ⟨true, _, by have := mxFrom_len o ls 0 ls; omega, rfl⟩
theorem flatR_ints' (l : List Int) : flatR (l.map ci) = true := by
  unfold flatR
  simp [flatA]
theorem flatA_vb' (b : Bool) : flatA (vb b) = true := rfl

theorem law_maximal (o : Ord') (ls : List Lit') (ho : owf o) (hw : lwf ls) : G 6 [od o, clm ls] = some (vb true, []) := by
  have e1 := sz_ord o ho 1048576 (by decide) (by decide)
  rw [g6]
  by_cases h1 : left1 1048576 ((osz o : Nat) : Int) < 0
  · simp -implicitDefEqProofs only [evs, Nat.reduceAdd, reduceIte, e1, h1]
  obtain ⟨b1, b2, b3⟩ := left1_sz (by decide) (by decide) h1
  generalize left1 1048576 ((osz o : Nat) : Int) = l1 at *
  have e2 := sz_clause ls hw l1 b1 b2
  by_cases h2 : left1 l1 ((ls.length + litsSz ls : Nat) : Int) < 0
  · simp -implicitDefEqProofs only [evs, Nat.reduceAdd, reduceIte, e1, h1, e2, h2]
  obtain ⟨b4, b5, b6⟩ := left1_sz b1 b2 h2
  generalize left1 l1 ((ls.length + litsSz ls : Nat) : Int) = l2 at *
  have hs : ∀ l ∈ ls, tsz l.atom ≤ 1048576 := fun l hl => by have := litsSz_mem hl; omega
  have a1 := to_ordC o b3
  have a2 := to_clauseC ls (by omega) hs
  have a3 := spec_max o ls ho hw hs
  have a4 := impl_max o ls ho hw hs
  have a5 := eq_ord o ho
  have a6 := eq_clause ls hw
  obtain ⟨X, Y, a7⟩ := markOrd_eq o b3
  have hk := mkLs_le ls
  obtain ⟨Z, a8⟩ := markClause_eq ls (1 + o.syms.length + o.ws.length) (by unfold osz at b3; omega) hw
  obtain ⟨f, m, hm, hR⟩ := maxR_shape o ls
  rw [hR] at a3 a4
  have a9 := eq_ints m (by omega)
  have a10 := markIntS_eq m 1 (by decide) (by omega)
  have a11 := heldIntS_eq m.length 1 (by decide) (by omega)
  have n1 : ¬ ((1 + o.syms.length + o.ws.length + mkLs ls : Nat) : Int) < 0 := by omega
  have n2 : ¬ (1 + ((m.length : Nat) : Int)) < 0 := by omega
  simp -implicitDefEqProofs only [evs, Nat.reduceAdd, reduceIte, e1, h1, e2, h2, a1, a2, a3, a4, a5, a6, a7, a8, List.getElem?_cons_zero, List.getElem?_cons_succ, flatA_vb', flatR_ints', a9, a10, a11, n1, n2]

theorem rd_lits : Rdr Tryz.prog 53 (fun ls : List Lit' => [lits ls]) (fun ls => (∀ l ∈ ls, twf l.atom) ∧ ls.length ≤ 9223372036854775807) :=
  Rdr.slice Tryz.underlying53 (by kernel_rfl) (by decide) (fun _ => rfl) rd_lit
end Go.Proofs.YtjclanocnkankaaGreat
