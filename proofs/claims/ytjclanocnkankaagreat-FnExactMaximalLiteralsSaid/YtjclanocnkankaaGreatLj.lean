/- LITERALS compared: their multisets by the program and by the reference; OrderLiterals. -/
import Derived.Test.YtjclanocnkankaaGreatLi
import Derived.Test.YtjclanocnkankaaGreatQb
namespace Go.Proofs.YtjclanocnkankaaGreat
open Go Go.RowKit Go.Proofs.YtjclanocnkankaaGreat.Abs

set_option linter.unusedSimpArgs false
set_option linter.unusedVariables false
set_option maxHeartbeats 1000000

theorem pFit_40 {n : Nat} (h : n ≤ 4194304) : pFit n 40 = true := by
  unfold pFit
  exact decide_eq_true ⟨by omega, by omega⟩

/-! ### Concat -/
theorem grow_eq (n : Nat) (hl : n ≤ 1048576) : C208_0 (vi (n : Nat)) = some (.top, [.sl 2 []]) := by
  rw [c208_0]
  have h0 : ¬ ((n : Nat) : Int) < 0 := by omega
  have hs : ck ((0 : Int) - 0) = some (vi 0) := ck_le (by decide) (by decide)
  have hs2 : ck (((n : Nat) : Int) - 0) = some (vi (n : Nat)) := by rw [Int.sub_zero]; exact ck_le (by omega) (by omega)
  by_cases hn : n = 0
  · subst hn
    simp -implicitDefEqProofs only [evs, Nat.reduceAdd, reduceIte, hs, hs2, Int.natCast_zero]
  · have h1 : (0 : Int) < ((n : Nat) : Int) := by omega
    have hm := pMake_len (b := 40) (n := n) (by omega) hl
    have p1 : pB 0 0 (some (vi 0)) = some 0 := rfl
    have p2 : pB (rCnt (rRep n [sv [], .sl 2 []])) (rRem (rRep n [sv [], .sl 2 []]) 0) (some (vi 0)) = some 0 := pB_le (n := 0) (Nat.zero_le _)
    simp -implicitDefEqProofs only [evs, Nat.reduceAdd, reduceIte, hs, hs2, h0, h1, hm, p1, p2, pFit_40 (show n ≤ 4194304 by omega), nSub_eq, List.take_zero, Nat.sub_self]

theorem concat2_eq (a b : List T) (hl : a.length + b.length ≤ 1048576) : C200_0 [[tms a], [tms b]] = some (.top, [tms (a ++ b)]) := by
  have hg := grow_eq (a.length + b.length) hl
  have i0 : pIx 2 (vi 0) = some 0 := rfl
  have i1 : pIx 2 (vi 1) = some 1 := rfl
  have r0 : pRowP [[tms a], [tms b]] 0 0 = some (tms a) := rfl
  have r1 : pRowP [[tms a], [tms b]] 1 0 = some (tms b) := rfl
  have s1 : ck ((0 : Int) + (a.length : Nat)) = some (vi (a.length : Nat)) := by rw [Int.zero_add]; exact ck_le (by omega) (by omega)
  have s2 : ck (((a.length : Nat) : Int) + (b.length : Nat)) = some (vi ((a.length + b.length : Nat) : Int)) := by rw [Int.natCast_add]; exact ck_le (by omega) (by omega)
  have n1 : ¬ ((a.length : Nat) : Int) < 0 := by omega
  have n2 : ¬ ((a.length + b.length : Nat) : Int) < 0 := by omega
  have t1 : ck ((0 : Int) + 1) = some (vi 1) := ck_le (by decide) (by decide)
  have t2 : ck ((1 : Int) + 1) = some (vi 2) := ck_le (by decide) (by decide)
  have l1 : ((0 : Int) < 2) = True := by simp
  have l2 : ((1 : Int) < 2) = True := by simp
  have l3 : ((2 : Nat) : Int) = 2 := rfl
  have e3 : L200c0_1 (vi 2) (vi 2) (rApp (rApp [] (a.map tcells)) (b.map tcells)) [[tms a], [tms b]] = some (.top, [tms (a ++ b)]) := by
    rw [l200c0_1]
    simp -implicitDefEqProofs only [evs, Nat.reduceAdd, reduceIte, rApp, List.nil_append]
    show _ = some (A.top, [A.sl 2 ((a ++ b).map tcells)])
    rw [List.map_append]
  have e2 : L200c0_1 (vi 2) (vi 1) (rApp [] (a.map tcells)) [[tms a], [tms b]] = some (.top, [tms (a ++ b)]) := by
    have hf : pFit ((rApp [] (a.map tcells)).length + b.length) 40 = true := pFit_40 (by simp only [rApp, List.nil_append, List.length_map]; omega)
    rw [l200c0_1]
    simp -implicitDefEqProofs only [evs, Nat.reduceAdd, reduceIte, l2, i1, r1, hf, t2, e3]
  have e1 : L200c0_1 (vi 2) (vi 0) [] [[tms a], [tms b]] = some (.top, [tms (a ++ b)]) := by
    have hf : pFit a.length 40 = true := pFit_40 (by omega)
    rw [l200c0_1]
    simp -implicitDefEqProofs only [evs, Nat.reduceAdd, reduceIte, l1, i0, r0, hf, t1, e2]
  have d2 : L200c0_0 (vi ((a.length + b.length : Nat) : Int)) (vi 2) (vi 2) [[tms a], [tms b]] = some (.top, [tms (a ++ b)]) := by
    rw [l200c0_0]
    simp -implicitDefEqProofs only [evs, Nat.reduceAdd, reduceIte, hg, l3, e1]
  have d1 : L200c0_0 (vi (a.length : Nat)) (vi 2) (vi 1) [[tms a], [tms b]] = some (.top, [tms (a ++ b)]) := by
    rw [l200c0_0]
    simp -implicitDefEqProofs only [evs, Nat.reduceAdd, reduceIte, l2, i1, r1, s2, n2, t2, d2]
  rw [c200_0, l200c0_0]
  simp -implicitDefEqProofs only [evs, Nat.reduceAdd, reduceIte, l3, l1, i0, r0, s1, n1, t1, d1]

/-! ### The program -/
theorem multiset_eq (o : Ord') (l : Lit') (h : coverA o l.atom = true) (hw : twf l.atom) (hs : tsz l.atom ≤ 1048576) : G 177 [lm l] = some (tms (msI l), []) := by
  obtain ⟨hl, _⟩ := base_facts h hw hs
  have e1 := isEquality_eq l.atom
  have ec := concat2_eq (base l.atom) (base l.atom) (by omega)
  rw [g177, msI]
  by_cases he : l.atom.name = [61]
  · rw [decide_eq_true he] at e1
    have hb : base l.atom = l.atom.args := if_pos he
    rw [hb] at ec ⊢
    cases hp : l.pos
    · simp -implicitDefEqProofs only [evs, Nat.reduceAdd, reduceIte, e1, ec, hp]
    · simp -implicitDefEqProofs only [evs, Nat.reduceAdd, reduceIte, e1, hp]
  · rw [decide_eq_false he] at e1
    have hb : base l.atom = [l.atom, .mk [] []] := if_neg he
    have hm : tms [l.atom, .mk [] []] = .sl 2 [[sv l.atom.name, .sl 2 (l.atom.args.map tcells)], [sv [], .sl 2 []]] := by
      show A.sl 2 [tcells l.atom, tcells (.mk [] [])] = _
      rw [tcells_eq l.atom]; rfl
    rw [hb] at ec ⊢
    rw [hm] at ec
    cases hp : l.pos
    · simp -implicitDefEqProofs only [evs, Nat.reduceAdd, reduceIte, e1, ec, hp]
    · simp -implicitDefEqProofs only [evs, Nat.reduceAdd, reduceIte, e1, hm, hp]

theorem orderLit_eq {o : Ord'} (hv : validO o = true) (ho : owf o) {a b : Lit'} (ha : coverA o a.atom = true) (hb : coverA o b.atom = true) (wa : twf a.atom) (wb : twf b.atom) (sa : tsz a.atom ≤ 1048576) (sb : tsz b.atom ≤ 1048576) :
    G 132 [od o, lm a, lm b] = some (vi (cmpM o (msI a) (msI b)), []) := by
  have e1 := multiset_eq o a ha wa sa
  have e2 := multiset_eq o b hb wb sb
  obtain ⟨l1, m1⟩ := msI_El ha wa sa
  obtain ⟨l2, m2⟩ := msI_El hb wb sb
  have e3 := impl_cmpM hv ho m1 m2 l1 l2
  rw [g132]
  simp -implicitDefEqProofs only [evs, Nat.reduceAdd, reduceIte, e1, e2, e3]

noncomputable def ordLR (o : Ord') (a b : Lit') : A := if validO o && (coverA o a.atom && coverA o b.atom) then .tup [vi (cmpM o (msI a) (msI b)), vb true] else .tup [vi 0, vb false]

/-! ### The reference -/
noncomputable def litR (o : Ord') (l : Lit') : A := if coverA o l.atom then .tup [tms (msS l), vb true] else .tup [.sl 2 [], vb false]

/-- What a literal's multiset holds for one of its terms. -/
def ms1 (p : Bool) (t : T) : List T := if p then [t] else [t, t]

theorem ms1_tcells (p : Bool) (t : T) (R : List T) : (R ++ ms1 p t).map tcells = if p then rApp (R.map tcells) [[sv t.name, tms t.args]] else rApp (rApp (R.map tcells) [[sv t.name, tms t.args]]) [[sv t.name, tms t.args]] := by
  unfold ms1 rApp
  cases p <;> simp [tcells_eq]

section
variable (o : Ord') (ho : owf o) (p : Bool) (n : List UInt8) (rs : A)

theorem lit0_out (S : A) (R : List T) : L77_0 S (vi 2) (strs o.syms) (ints o.ws) (vi o.var) (vb p) (sv n) rs (R.map tcells) = some (.tup [tms R, vb true], []) := by
  rw [l77_0]
  simp -implicitDefEqProofs only [evs, Nat.reduceAdd, reduceIte]
theorem lit1_out (S : List (List A)) (R : List T) : L77_1 (vi 2) (strs o.syms) (ints o.ws) (vi o.var) (vb p) (sv n) rs S (R.map tcells) = some (.tup [tms R, vb true], []) := by
  rw [l77_1]
  simp -implicitDefEqProofs only [evs, Nat.reduceAdd, reduceIte]
include ho
theorem lit0_in {S : A} {t : T} {i : Int} (hi : (i < 2) = True) {j : Int} (hj : ck (i + 1) = some (vi j)) (hx : pIndexAddr 2 S (vi i) = some (.elt (tcells t) 0)) (hw : twf t) (hn : t.name ≠ []) (R : List T) (hR : R.length ≤ 1000) :
    L77_0 S (vi i) (strs o.syms) (ints o.ws) (vi o.var) (vb p) (sv n) rs (R.map tcells) = if covT o.syms t then L77_0 S (vi j) (strs o.syms) (ints o.ws) (vi o.var) (vb p) (sv n) rs ((R ++ ms1 p t).map tcells) else some (.tup [.sl 2 [], vb false], []) := by
  have e1 := l6Covers_eq o ho.1.2 t hw
  have f1 : pFit (R.length + 1) 40 = true := pFit_40 (by omega)
  have f2 : pFit ((rApp (R.map tcells) [[sv t.name, tms t.args]]).length + 1) 40 = true := pFit_40 (by simp only [rApp, List.length_append, List.length_map, List.length_cons, List.length_nil]; omega)
  have p0 : pAdd (.elt (tcells t) 0) 0 = some (.elt (tcells t) 0) := rfl
  have p1 : pLoadP (.elt (tcells t) 0) = some (sv t.name) := by rw [tcells_eq]; rfl
  have hm := ms1_tcells p t R
  rw [l77_0]
  cases hc : covT o.syms t <;> rw [hc] at e1
  · simp -implicitDefEqProofs only [evs, Nat.reduceAdd, reduceIte, hi, hx, p0, p1, hn, pLoadN_tcells, e1]
  · cases p
    · rw [if_neg Bool.false_ne_true] at hm
      simp -implicitDefEqProofs only [evs, Nat.reduceAdd, reduceIte, hi, hx, p0, p1, hn, pLoadN_tcells, e1, f1, f2, hj, ← hm]
    · rw [if_pos rfl] at hm
      simp -implicitDefEqProofs only [evs, Nat.reduceAdd, reduceIte, hi, hx, p0, p1, hn, pLoadN_tcells, e1, f1, f2, hj, ← hm]

theorem lit1_in {S : List (List A)} {t : T} {i : Int} (hi : (i < 2) = True) {j : Int} (hj : ck (i + 1) = some (vi j)) {k : Nat} (hk : pIx S.length (vi i) = some k) (hx : S[k]? = some (tcells t)) (hw : twf t) (R : List T) (hR : R.length ≤ 1000) :
    L77_1 (vi i) (strs o.syms) (ints o.ws) (vi o.var) (vb p) (sv n) rs S (R.map tcells) = if decide (t.name = []) || covT o.syms t then L77_1 (vi j) (strs o.syms) (ints o.ws) (vi o.var) (vb p) (sv n) rs S ((R ++ ms1 p t).map tcells) else some (.tup [.sl 2 [], vb false], []) := by
  have e1 := l6Covers_eq o ho.1.2 t hw
  have f1 : pFit (R.length + 1) 40 = true := pFit_40 (by omega)
  have f2 : pFit ((rApp (R.map tcells) [[sv t.name, tms t.args]]).length + 1) 40 = true := pFit_40 (by simp only [rApp, List.length_append, List.length_map, List.length_cons, List.length_nil]; omega)
  have p1 : pRowP S k 0 = some (sv t.name) := by unfold pRowP; rw [hx, tcells_eq]; rfl
  have p2 : pRowN S k 0 2 = some (.agg [sv t.name, tms t.args]) := by unfold pRowN; rw [hx, tcells_eq]; rfl
  have hm := ms1_tcells p t R
  rw [l77_1]
  by_cases hn : t.name = []
  · rw [hn] at p1 p2 f2 hm
    cases p
    · rw [if_neg Bool.false_ne_true] at hm
      simp -implicitDefEqProofs only [evs, Nat.reduceAdd, reduceIte, hi, hk, p1, hn, p2, f1, f2, hj, ← hm, Bool.true_or]
    · rw [if_pos rfl] at hm
      simp -implicitDefEqProofs only [evs, Nat.reduceAdd, reduceIte, hi, hk, p1, hn, p2, f1, f2, hj, ← hm, Bool.true_or]
  · cases hc : covT o.syms t <;> rw [hc] at e1
    · simp -implicitDefEqProofs only [evs, Nat.reduceAdd, reduceIte, hi, hk, p1, hn, p2, e1, Bool.or_false]
    · cases p
      · rw [if_neg Bool.false_ne_true] at hm
        simp -implicitDefEqProofs only [evs, Nat.reduceAdd, reduceIte, hi, hk, p1, hn, p2, e1, f1, f2, hj, ← hm, Bool.or_true]
      · rw [if_pos rfl] at hm
        simp -implicitDefEqProofs only [evs, Nat.reduceAdd, reduceIte, hi, hk, p1, hn, p2, e1, f1, f2, hj, ← hm, Bool.or_true]
end

theorem l6Literal_eq (o : Ord') (ho : owf o) (l : Lit') (hw : twf l.atom) (hs : tsz l.atom ≤ 1048576) : G 77 [od o, lm l] = some (litR o l, []) := by
  have e0 := l2Atom_eq l.atom hw hs
  have z0 : ((0 : Int) < 2) = True := by simp
  have z1 : ((1 : Int) < 2) = True := by simp
  have t1 : ck ((0 : Int) + 1) = some (vi 1) := ck_le (by decide) (by decide)
  have t2 : ck ((1 : Int) + 1) = some (vi 2) := ck_le (by decide) (by decide)
  have ml : ∀ t, (ms1 l.pos t).length ≤ 2 := fun t => by unfold ms1; split <;> simp
  rw [g77, litR]
  cases ha : atomT l.atom <;> rw [ha] at e0
  · have hc : coverA o l.atom = false := by unfold coverA; rw [ha, Bool.false_and]
    simp -implicitDefEqProofs only [evs, Nat.reduceAdd, reduceIte, e0, hc]
  by_cases he : l.atom.name = [61]
  · unfold atomT at ha
    rw [if_pos he] at ha
    have het : (l.atom.name = [61]) = True := eq_true he
    obtain ⟨hl, k0, k1⟩ := eqnT_spec ha
    obtain ⟨i0, i1, ma, mb⟩ := arg_facts hl
    have w3 := (twfL_iff _).1 ((twf_eq l.atom).1 hw).2.2
    have n0 : (arg0 l.atom).name ≠ [] := by obtain ⟨c, r, h, _⟩ := okT_name k0; rw [h]; exact List.cons_ne_nil _ _
    have n1 : (arg1 l.atom).name ≠ [] := by obtain ⟨c, r, h, _⟩ := okT_name k1; rw [h]; exact List.cons_ne_nil _ _
    have hc : coverA o l.atom = (covT o.syms (arg0 l.atom) && covT o.syms (arg1 l.atom)) := by
      unfold coverA atomT; rw [if_pos he, if_pos he, ha, Bool.true_and]
    have hm : msS l = [] ++ ms1 l.pos (arg0 l.atom) ++ ms1 l.pos (arg1 l.atom) := by
      have hb : base l.atom = [arg0 l.atom, arg1 l.atom] := by
        unfold base
        rw [if_pos he]
        unfold arg0 arg1
        rcases hx : l.atom.args with _ | ⟨a, _ | ⟨b, _ | ⟨c, r⟩⟩⟩ <;> rw [hx] at hl <;> simp at hl
        rfl
      unfold msS
      rw [hb]
      simp [List.flatMap_cons, ms1]
    have s0 := lit0_in o ho l.pos l.atom.name (tms l.atom.args) z0 t1 i0 (w3 _ ma) n0 [] (by simp)
    have s1 := lit0_in o ho l.pos l.atom.name (tms l.atom.args) z1 t2 i1 (w3 _ mb) n1 ([] ++ ms1 l.pos (arg0 l.atom)) (by have := ml (arg0 l.atom); simp; omega)
    have s2 := lit0_out o l.pos l.atom.name (tms l.atom.args) (tms l.atom.args) ([] ++ ms1 l.pos (arg0 l.atom) ++ ms1 l.pos (arg1 l.atom))
    rw [List.map_nil] at s0
    rw [hc, hm]
    cases h0 : covT o.syms (arg0 l.atom) <;> simp only [h0, if_true, if_false, Bool.false_eq_true] at s0
    · simp -implicitDefEqProofs only [evs, Nat.reduceAdd, reduceIte, e0, het, Bool.false_and]
      exact s0
    · rw [s1] at s0
      cases h1 : covT o.syms (arg1 l.atom) <;> simp only [h1, if_true, if_false, Bool.false_eq_true] at s0
      · simp -implicitDefEqProofs only [evs, Nat.reduceAdd, reduceIte, e0, het, Bool.and_false]
        exact s0
      · rw [s2] at s0
        simp -implicitDefEqProofs only [evs, Nat.reduceAdd, reduceIte, e0, het]
        exact s0
  · unfold atomT at ha
    rw [if_neg he, Bool.and_eq_true] at ha
    have n0 : l.atom.name ≠ [] := fun h => by rw [h] at ha; exact absurd ha.1 (by simp [symN])
    have hc : coverA o l.atom = covT o.syms l.atom := by
      unfold coverA atomT; rw [if_neg he, if_neg he, ha.1, ha.2, Bool.true_and, Bool.true_and]
    have hm : msS l = [] ++ ms1 l.pos l.atom ++ ms1 l.pos (.mk [] []) := by
      unfold msS base
      rw [if_neg he]
      simp [List.flatMap_cons, ms1]
    have hS : ([tcells l.atom, tcells (.mk [] [])] : List (List A)) = [[sv l.atom.name, tms l.atom.args], [sv [], .sl 2 []]] := by rw [tcells_eq l.atom]; rfl
    have s0 := lit1_in o ho l.pos l.atom.name (tms l.atom.args) z0 t1 (S := [tcells l.atom, tcells (.mk [] [])]) (k := 0) rfl rfl hw [] (by simp)
    have s1 := lit1_in o ho l.pos l.atom.name (tms l.atom.args) z1 t2 (S := [tcells l.atom, tcells (.mk [] [])]) (k := 1) rfl rfl (by simp [twf, twfL]) ([] ++ ms1 l.pos l.atom) (by have := ml l.atom; simp; omega)
    have s2 := lit1_out o l.pos l.atom.name (tms l.atom.args) [tcells l.atom, tcells (.mk [] [])] ([] ++ ms1 l.pos l.atom ++ ms1 l.pos (.mk [] []))
    have d0 : decide (l.atom.name = []) = false := decide_eq_false n0
    have d1 : decide ((T.mk [] []).name = []) = true := rfl
    rw [List.map_nil, d0, Bool.false_or] at s0
    rw [d1, Bool.true_or, if_pos rfl, s2] at s1
    rw [s1, hS] at s0
    rw [hc, hm]
    cases h0 : covT o.syms l.atom <;> simp only [h0, if_true, if_false, Bool.false_eq_true] at s0
    · simp -implicitDefEqProofs only [evs, Nat.reduceAdd, reduceIte, e0, he]
      exact s0
    · simp -implicitDefEqProofs only [evs, Nat.reduceAdd, reduceIte, e0, he]
      exact s0

/-! ### The law -/
theorem sz_lit (l : Lit') (hw : twf l.atom) (left : Int) (h0 : 0 ≤ left) (h1 : left ≤ 1048576) : G 125 [lm l, vi left] = some (vi (left1 left ((tsz l.atom : Nat) : Int)), []) := by
  have e1 := sz_term l.atom hw left h0 h1
  rw [g125]
  by_cases h : left1 left ((tsz l.atom : Nat) : Int) < 0
  · have : left1 left ((tsz l.atom : Nat) : Int) = -1 := by unfold left1 at h ⊢; split at h <;> simp_all <;> omega
    simp -implicitDefEqProofs only [evs, Nat.reduceAdd, reduceIte, e1, h, this]
  · simp -implicitDefEqProofs only [evs, Nat.reduceAdd, reduceIte, e1, h]
theorem eq_lit (l : Lit') (hw : twf l.atom) : G 133 [lm l, lm l] = some (vb true, []) := by
  have e1 := eq_term l.atom hw
  rw [g133]
  simp -implicitDefEqProofs only [evs, Nat.reduceAdd, reduceIte, e1]

theorem ordLR_shape (o : Ord') (a b : Lit') : ∃ (x : Int) (c : Bool), ordLR o a b = .tup [vi x, vb c] := by
  unfold ordLR
  split
  · exact ⟨_, _, rfl⟩
  · exact ⟨_, _, rfl⟩

end Go.Proofs.YtjclanocnkankaaGreat
