/- MULTISETS: the library's deletions; what is left of two lists; comparisons. -/
import Derived.Test.YtjclanocnkankaaGreatKb
namespace Go.Proofs.YtjclanocnkankaaGreat
open Go Go.RowKit Go.Proofs.YtjclanocnkankaaGreat.Abs

set_option linter.unusedSimpArgs false
set_option linter.unusedVariables false
set_option maxHeartbeats 1000000

/-! ### The library -/
/-- Where a test holds first, or -1. -/
def ixI {α : Type} (p : α → Bool) (ts : List α) : Int := match ts.findIdx? p with | some i => (i : Nat) | none => -1

theorem indexFunc_ex {f : FuncId} {caps : List A} (hsig : K.pureF f = true) (p : T → Bool) (ts : List T) (hl : ts.length ≤ 9223372036854775807) (h : ∀ t ∈ ts, G f (tm t :: caps) = some (vb (p t), [])) :
    G 171 [tms ts, .fn f caps] = some (vi (ixI p ts), []) := by
  have key := upto (P := fun i => L171_0 (tms ts) (.fn f caps) (vi (ts.length : Nat)) (vi i) = some (vi (match (ts.drop i).findIdx? p with | some j => ((i + j : Nat) : Int) | none => -1), [])) (n := ts.length) ?_ ?_ 0 (Nat.zero_le _)
  · simp only [Int.natCast_zero, List.drop_zero, Nat.zero_add] at key
    rw [g171]
    simp -implicitDefEqProofs only [evs, Nat.reduceAdd, reduceIte, key, ixI]
  · rw [l171_0]
    simp -implicitDefEqProofs only [evs, Nat.reduceAdd, reduceIte, List.drop_length, List.findIdx?_nil]
  · intro i hi ih
    have hlt : (i : Int) < ((ts.length : Nat) : Int) := by omega
    have h5 := add_one hi hl
    have e1 := h ts[i] (List.getElem_mem _)
    rw [l171_0, drop_cons hi, List.findIdx?_cons]
    cases hp : p ts[i] <;> rw [hp] at e1
    · simp -implicitDefEqProofs only [evs, Nat.reduceAdd, reduceIte, hlt, pIndexAddr_map hi, pLoadN_tcells, callc_fn hsig, List.cons_append, List.nil_append, e1, h5, ih]
      cases hq : (ts.drop (i + 1)).findIdx? p with
      | none => rfl
      | some j =>
        simp only [Option.map_some]
        rw [show i + 1 + j = i + (j + 1) by omega]
    · simp -implicitDefEqProofs only [evs, Nat.reduceAdd, reduceIte, hlt, pIndexAddr_map hi, pLoadN_tcells, callc_fn hsig, List.cons_append, List.nil_append, e1]
      rfl

/-- A row's part struck out. -/
theorem over_strike {xs : List (List A)} {i j : Nat} (hij : i ≤ j) (hj : j ≤ xs.length) (z : List A) :
    List.take (i + (xs.length - j)) (rOver (rOver xs (0 + i) (rWin xs (0 + j) (xs.length - j))) (0 + (i + (xs.length - j))) (rRep (j - i) z)) = xs.take i ++ xs.drop j := by
  have hw : rWin xs (0 + j) (xs.length - j) = xs.drop j := by
    rw [rWin_eq, Nat.zero_add, List.take_of_length_le (by simp)]
  rw [hw]
  simp only [rOver_eq, rRep, Nat.zero_add, List.length_replicate, List.length_drop]
  have hl1 : (xs.take i).length = i := by simp; omega
  rw [List.take_append_of_le_length (by simp; omega), List.take_append_of_le_length (by simp; omega), List.take_take, Nat.min_self, List.take_append_of_le_length (by simp; omega), List.take_of_length_le (by simp; omega)]

theorem delete_eq {xs : List (List A)} {i j : Nat} (hij : i ≤ j) (hj : j ≤ xs.length) (hl : xs.length ≤ 9223372036854775807) : C196_0 (vi (i : Nat)) (vi (j : Nat)) xs = some (.top, [.sl 2 (xs.take i ++ xs.drop j)]) := by
  rw [c196_0]
  have hc : rCnt xs = xs.length := rfl
  have hr : rRem xs 0 = xs.length := rfl
  have p1 : pB 0 xs.length (some (vi ((xs.length : Nat) : Int))) = some xs.length := pB_le (Nat.le_refl _)
  have p2 : pB 0 xs.length (some (vi (j : Nat))) = some j := pB_le hj
  have p3 : pB 0 j (some (vi (i : Nat))) = some i := pB_le hij
  by_cases he : i = j
  · subst he
    simp only [hc, hr, rLen_eq, p1, p2, p3, Option.bind_some, pBin_eql, decide_true, pBool_vb, brn_true, List.take_append_drop]
  · have e1 : decide (((i : Nat) : Int) = ((j : Nat) : Int)) = false := decide_eq_false (by omega)
    have p4 : pB xs.length xs.length (some (vi (i : Nat))) = some i := pB_le (by omega)
    have p5 : pB xs.length xs.length none = some xs.length := pB_none_le (Nat.le_refl _)
    have p6 : ∀ d, pB d xs.length (some (vi (j : Nat))) = some j := fun d => pB_le hj
    have hw : rWin xs (0 + j) (nSub xs.length j) = xs.drop j := by
      rw [rWin_eq, Nat.zero_add, nSub_eq, List.take_of_length_le (by simp)]
    have hwl : rCnt (rWin xs (0 + j) (nSub xs.length j)) = xs.length - j := by rw [hw, rCnt_eq, List.length_drop]
    have hroom : pRoom 0 (nSub i 0) (rWin xs (0 + j) (nSub xs.length j)) xs = true := by
      rw [pRoom_eq, hw, nSub_eq, List.length_drop]
      exact decide_eq_true (by omega)
    have hov : (rOver xs (0 + nSub i 0) (rWin xs (0 + j) (nSub xs.length j))).length = xs.length := by
      rw [hw, rOver_eq, nSub_eq]
      simp
      omega
    have hrem : rRem (rOver xs (0 + nSub i 0) (rWin xs (0 + j) (nSub xs.length j))) 0 = xs.length := by rw [rRem_eq, hov]; rfl
    have p7 : ∀ d, pB d xs.length (some (vi ((xs.length : Nat) : Int))) = some xs.length := fun d => pB_le (Nat.le_refl _)
    have p8 : pB 0 xs.length (some (nA (nSub i 0 + rCnt (rWin xs (0 + j) (nSub xs.length j))))) = some (i + (xs.length - j)) := by
      rw [hwl, nSub_eq]
      exact pB_le (by omega)
    have fin := over_strike (xs := xs) hij hj [sv [], A.sl 2 []]
    have e9 : nSub xs.length (i + (xs.length - j)) = j - i := by rw [nSub_eq]; omega
    simp only [hc, hr, rLen_eq, p1, p2, p3, Option.bind_some, pBin_eql, e1, pBool_vb, brn_false, p4, p5, p6, hroom, brn_true, hrem, p7, p8]
    rw [hwl, e9]
    simp only [nSub_eq, Nat.sub_zero]
    rw [fin]

/-! ### What is left of two lists -/
/-- The first list without what the second has, each as often; what is left of the second. -/
noncomputable def minusP : List T → List T → List T × List T
  | [], b => ([], b)
  | s :: a, b => match b.findIdx? (fun t => dq s t) with
    | some i => minusP a (b.take i ++ b.drop (i + 1))
    | none => (s :: (minusP a b).1, (minusP a b).2)

theorem find_spec {p : T → Bool} {b : List T} {i : Nat} (h : b.findIdx? p = some i) : ∃ hi : i < b.length, p b[i] = true := by
  rw [List.findIdx?_eq_some_iff_getElem] at h
  exact ⟨h.1, h.2.1⟩

theorem dq_pred {s : T} (hs : twf s) {b : List T} (hb : ∀ t ∈ b, twf t) : ∀ t ∈ b, G 195 (tm t :: [.elt [sv s.name, .sl 2 (s.args.map tcells)] 0]) = some (vb (dq s t), []) := by
  intro t ht
  have e1 := equalTerms_eq s hs t (hb t ht)
  rw [g195]
  simp -implicitDefEqProofs only [evs, Nat.reduceAdd, reduceIte, pLoadN_2, e1]

/-- One element against what is left. -/
noncomputable def strike (s : T) (b : List T) : Bool × List T := match b.findIdx? (fun t => dq s t) with | some i => (true, b.take i ++ b.drop (i + 1)) | none => (false, b)

theorem strike0 {s : T} (hs : twf s) {b : List T} (hb : ∀ t ∈ b, twf t) (hl : b.length ≤ 9223372036854775807) : C194_0 (sv s.name) (.sl 2 (s.args.map tcells)) (b.map tcells) = some (.top, [vb (strike s b).1, .sl 2 ((strike s b).2.map tcells)]) := by
  have e1 := indexFunc_ex (f := 195) (caps := [.elt [sv s.name, .sl 2 (s.args.map tcells)] 0]) rfl (fun t => dq s t) b hl (dq_pred hs hb)
  rw [c194_0]
  unfold ixI at e1
  unfold strike
  cases hf : b.findIdx? (fun t => dq s t) with
  | none =>
    rw [hf] at e1
    simp -implicitDefEqProofs only [evs, Nat.reduceAdd, reduceIte, e1]
    rfl
  | some i =>
    rw [hf] at e1
    obtain ⟨hi, _⟩ := find_spec hf
    have e2 := delete_eq (xs := b.map tcells) (i := i) (j := i + 1) (by omega) (by rw [List.length_map]; exact hi) (by simpa using hl)
    have e3 := add_one hi hl
    have e4 : decide ((0 : Int) ≤ ((i : Nat) : Int)) = true := decide_eq_true (by omega)
    rw [← List.map_take, ← List.map_drop, ← List.map_append] at e2
    simp -implicitDefEqProofs only [evs, Nat.reduceAdd, reduceIte, e1, e2, e3, e4]

theorem strike1 {s : T} (hs : twf s) {b : List T} (hb : ∀ t ∈ b, twf t) (hl : b.length ≤ 9223372036854775807) : C194_1 (tm s) (b.map tcells) = some (.top, [vb (strike s b).1, .sl 2 ((strike s b).2.map tcells)]) := by
  have e1 := indexFunc_ex (f := 195) (caps := [.elt [sv s.name, .sl 2 (s.args.map tcells)] 0]) rfl (fun t => dq s t) b hl (dq_pred hs hb)
  rw [c194_1]
  unfold ixI at e1
  unfold strike
  cases hf : b.findIdx? (fun t => dq s t) with
  | none =>
    rw [hf] at e1
    simp -implicitDefEqProofs only [evs, Nat.reduceAdd, reduceIte, e1]
    rfl
  | some i =>
    rw [hf] at e1
    obtain ⟨hi, _⟩ := find_spec hf
    have e2 := delete_eq (xs := b.map tcells) (i := i) (j := i + 1) (by omega) (by rw [List.length_map]; exact hi) (by simpa using hl)
    have e3 := add_one hi hl
    have e4 : decide ((0 : Int) ≤ ((i : Nat) : Int)) = true := decide_eq_true (by omega)
    rw [← List.map_take, ← List.map_drop, ← List.map_append] at e2
    simp -implicitDefEqProofs only [evs, Nat.reduceAdd, reduceIte, e1, e2, e3, e4]

theorem strike_sub {s : T} {b : List T} : (∀ t ∈ (strike s b).2, t ∈ b) ∧ (strike s b).2.length ≤ b.length := by
  unfold strike
  split
  · refine ⟨fun t ht => ?_, by simp; omega⟩
    rcases List.mem_append.1 ht with h | h
    · exact List.mem_of_mem_take h
    · exact List.mem_of_mem_drop h
  · exact ⟨fun t h => h, Nat.le_refl _⟩

theorem minusP_cons (s : T) (a b : List T) : minusP (s :: a) b = if (strike s b).1 then minusP a (strike s b).2 else (s :: (minusP a b).1, (minusP a b).2) := by
  rw [minusP, strike]
  cases b.findIdx? (fun t => dq s t) <;> rfl

theorem strike_no {s : T} {b : List T} (h : (strike s b).1 = false) : (strike s b).2 = b := by
  unfold strike at h ⊢
  cases hf : b.findIdx? (fun t => dq s t) with
  | none => rfl
  | some i => rw [hf] at h; cases h

/-- The loop of the deletion, behind the first that goes. -/
theorem delLoop : ∀ (rest acc mid b : List T), mid ≠ [] → (∀ t ∈ acc ++ mid ++ rest, twf t) → (∀ t ∈ b, twf t) → (acc ++ mid ++ rest).length ≤ 9223372036854775807 → b.length ≤ 9223372036854775807 →
    L193c0_0 (vi (acc.length : Nat)) (vi ((acc ++ mid).length : Nat)) ((acc ++ mid ++ rest).map tcells) (b.map tcells) = some (.top, [.sl 2 ((minusP rest b).2.map tcells), .sl 2 ((acc ++ (minusP rest b).1).map tcells)])
  | [], acc, mid, b, hm, ha, hb, hl, hlb => by
    rw [l193c0_0]
    simp only [List.append_nil] at hl ⊢
    generalize hN : (acc ++ mid).length = N at *
    have hn : ((acc ++ mid).map tcells).length = N := by rw [List.length_map, hN]
    have hle : acc.length ≤ N := by rw [← hN]; simp
    have e1 : decide (((N : Nat) : Int) < ((N : Nat) : Int)) = false := decide_eq_false (by omega)
    have p1 : pB N N none = some N := pB_none_le (Nat.le_refl _)
    have p2 : ∀ d, pB d N (some (vi ((acc.length : Nat) : Int))) = some acc.length := fun d => pB_le hle
    have hl2 : (rOver ((acc ++ mid).map tcells) (0 + acc.length) (rRep (nSub N acc.length) [sv [], A.sl 2 []])).length = N := by
      rw [rOver_eq, rRep, nSub_eq]
      simp
      simp at hN
      omega
    have ht : List.take acc.length (rOver ((acc ++ mid).map tcells) (0 + acc.length) (rRep (nSub N acc.length) [sv [], A.sl 2 []])) = acc.map tcells := by
      rw [rOver_eq, Nat.zero_add, List.append_assoc, List.take_append_of_le_length (by simp), List.take_take, Nat.min_self, List.map_append, List.take_append_of_le_length (by simp), List.take_of_length_le (by simp)]
    have hc : rCnt ((acc ++ mid).map tcells) = N := hn
    have hr : rRem ((acc ++ mid).map tcells) 0 = N := by rw [rRem_eq, hn]; rfl
    have hc2 : rCnt (rOver ((acc ++ mid).map tcells) (0 + acc.length) (rRep (nSub N acc.length) [sv [], A.sl 2 []])) = N := hl2
    have hr2 : rRem (rOver ((acc ++ mid).map tcells) (0 + acc.length) (rRep (nSub N acc.length) [sv [], A.sl 2 []])) 0 = N := by rw [rRem_eq, hl2]; rfl
    simp only [rLen_eq, hn, pBin_lss, e1, Option.bind_some, pBool_vb, brn_false, hc, hr, p1, p2, hc2, hr2, minusP, List.append_nil]
    rw [nSub_eq acc.length, Nat.sub_zero, ht]
  | v :: rest, acc, mid, b, hm, ha, hb, hl, hlb => by
    obtain ⟨x, mid, rfl⟩ := List.exists_cons_of_ne_nil hm
    have hv := ha v (by simp)
    rw [l193c0_0]
    generalize hN : ((acc ++ x :: mid) ++ v :: rest).length = N at *
    have hlt : (acc ++ x :: mid).length < N := by rw [← hN]; simp
    have hlt' : acc.length < N := by simp at hlt; omega
    have hn : (((acc ++ x :: mid) ++ v :: rest).map tcells).length = N := by rw [List.length_map, hN]
    have e1 : decide ((((acc ++ x :: mid).length : Nat) : Int) < ((N : Nat) : Int)) = true := decide_eq_true (by omega)
    have e2 : pIx N (vi (((acc ++ x :: mid).length : Nat) : Int)) = some (acc ++ x :: mid).length := pIx_lt hlt
    have hget : (((acc ++ x :: mid) ++ v :: rest).map tcells)[(acc ++ x :: mid).length]? = some (tcells v) := by
      rw [List.getElem?_map, List.getElem?_append_right (Nat.le_refl _)]
      simp
    have e3 : pRowN (((acc ++ x :: mid) ++ v :: rest).map tcells) (acc ++ x :: mid).length 0 2 = some (tm v) := by
      unfold pRowN
      rw [hget, tcells_eq]
      rfl
    have e4 := strike0 hv hb hlb
    have e5 := add_one hlt (show N ≤ 9223372036854775807 from hl)
    have e6 := add_one hlt' (show N ≤ 9223372036854775807 from hl)
    have hsub := strike_sub (s := v) (b := b)
    have e7 : pCells 2 (tm v) = some [sv v.name, .sl 2 (v.args.map tcells)] := rfl
    rw [minusP_cons]
    cases hst : (strike v b).1 with
    | true =>
      have ih := delLoop rest acc (x :: mid ++ [v]) (strike v b).2 (by simp) (by simpa using ha) (fun t ht => hb t (hsub.1 t ht)) (by simp at hl hN ⊢; omega) (Nat.le_trans hsub.2 hlb)
      have q1 : acc ++ (x :: mid ++ [v]) ++ rest = acc ++ x :: mid ++ v :: rest := by simp
      have q2 : ((acc ++ (x :: mid ++ [v])).length : Nat) = (acc ++ x :: mid).length + 1 := by simp; omega
      rw [q1, q2] at ih
      rw [hst] at e4
      simp only [if_true]
      simp only [rLen_eq, rLenN_eq, hn, pBin_lss, e1, Option.bind_some, pBool_vb, brn_true, e2, e3, e7, cGet_zero, cGet_one, e4, hD_eq, hR_1, List.getElem?_cons_zero, pUn_not, Bool.not_true, brn_false, e5, ih]
    | false =>
      have hb' := strike_no hst
      have ih := delLoop rest (acc ++ [v]) (mid ++ [v]) b (by simp) (fun t ht => by
        simp only [List.mem_append, List.mem_cons, List.not_mem_nil, or_false] at ht
        refine ha t ?_
        simp only [List.mem_append, List.mem_cons]
        rcases ht with ((h | h) | (h | h)) | h
        · exact Or.inl (Or.inl h)
        · exact Or.inr (Or.inl h)
        · exact Or.inl (Or.inr (Or.inr h))
        · exact Or.inr (Or.inl h)
        · exact Or.inr (Or.inr h)) hb (by simp at hl hN ⊢; omega) hlb
      have q2 : ((acc ++ [v] ++ (mid ++ [v])).length : Nat) = (acc ++ x :: mid).length + 1 := by simp; omega
      have q3 : (acc ++ [v]).length = acc.length + 1 := by simp
      rw [q2, q3] at ih
      rw [hst, hb'] at e4
      have e8 : pIx N (vi ((acc.length : Nat) : Int)) = some acc.length := pIx_lt hlt'
      have e9 : rGet (((acc ++ x :: mid) ++ v :: rest).map tcells) acc.length = some (tcells x) := by
        unfold rGet
        rw [List.append_assoc, List.getElem?_map, List.getElem?_append_right (Nat.le_refl _)]
        simp
      have e10 : rSet (((acc ++ x :: mid) ++ v :: rest).map tcells) acc.length (cOver (tcells x) 0 [sv v.name, A.sl 2 (v.args.map tcells)]) = ((acc ++ [v] ++ (mid ++ [v]) ++ rest).map tcells) := by
        have : cOver (tcells x) 0 [sv v.name, A.sl 2 (v.args.map tcells)] = tcells v := by
          rw [tcells_eq x, tcells_eq v]; rfl
        rw [this, rSet]
        simp only [List.map_append, List.map_cons, List.append_assoc, List.cons_append]
        rw [List.set_append_right _ _ (by simp)]
        simp
      simp only [Bool.false_eq_true, if_false]
      simp only [rLen_eq, rLenN_eq, hn, pBin_lss, e1, Option.bind_some, pBool_vb, brn_true, e2, e3, e7, cGet_zero, cGet_one, e4, hD_eq, hR_1, List.getElem?_cons_zero, pUn_not, Bool.not_false, e8, okA_sv, okA_sl, e9, e6, e5, e10, ih]
      simp

/-! ### The deletion as a whole -/
noncomputable def goS (b : List T) : List T → Nat → Option (Nat × List T)
  | [], _ => none
  | s :: rest, i => if (strike s b).1 then some (i, (strike s b).2) else goS b rest (i + 1)

theorem goS_none {b : List T} : ∀ {rest : List T} {i : Nat}, goS b rest i = none → minusP rest b = (rest, b)
  | [], _, _ => rfl
  | s :: rest, i, h => by
    rw [goS] at h
    rw [minusP_cons]
    split at h
    · cases h
    · rename_i hs
      rw [if_neg hs, goS_none h]

theorem goS_some {b b' : List T} : ∀ {rest : List T} {i j : Nat}, goS b rest i = some (j, b') → ∃ acc x rest', rest = acc ++ x :: rest' ∧ j = i + acc.length ∧ minusP rest b = (acc ++ (minusP rest' b').1, (minusP rest' b').2) ∧ b' = (strike x b).2
  | [], _, _, h => by cases h
  | s :: rest, i, j, h => by
    rw [goS] at h
    rw [minusP_cons]
    split at h
    · rename_i hs
      cases h
      exact ⟨[], s, rest, rfl, rfl, by rw [if_pos hs]; rfl, rfl⟩
    · rename_i hs
      obtain ⟨acc, x, rest', rfl, rfl, h3, h4⟩ := goS_some h
      exact ⟨s :: acc, x, rest', rfl, by simp; omega, by rw [if_neg hs, h3]; rfl, h4⟩

theorem idxSt {b : List T} (hb : ∀ t ∈ b, twf t) (hlb : b.length ≤ 9223372036854775807) : ∀ (rest pre : List T), (∀ t ∈ pre ++ rest, twf t) → (pre ++ rest).length ≤ 9223372036854775807 →
    L171c0_1 (vi ((pre ++ rest).length : Nat)) (vi (pre.length : Nat)) ((pre ++ rest).map tcells) (b.map tcells) =
      some (.top, match goS b rest pre.length with | some (j, b') => [vi (j : Nat), .sl 2 ((pre ++ rest).map tcells), .sl 2 (b'.map tcells)] | none => [vi (-1), .sl 2 ((pre ++ rest).map tcells), .sl 2 (b.map tcells)])
  | [], pre, ha, hl => by
    rw [l171c0_1]
    simp only [List.append_nil]
    have e1 : decide (((pre.length : Nat) : Int) < ((pre.length : Nat) : Int)) = false := decide_eq_false (by omega)
    simp only [pBin_lss, e1, Option.bind_some, pBool_vb, brn_false, goS]
  | s :: rest, pre, ha, hl => by
    have hv := ha s (by simp)
    rw [l171c0_1]
    generalize hN : (pre ++ s :: rest).length = N at *
    have hlt : pre.length < N := by rw [← hN]; simp
    have e1 : decide (((pre.length : Nat) : Int) < ((N : Nat) : Int)) = true := decide_eq_true (by omega)
    have hn : ((pre ++ s :: rest).map tcells).length = N := by rw [List.length_map, hN]
    have e2 : pIx N (vi ((pre.length : Nat) : Int)) = some pre.length := pIx_lt hlt
    have e3 : pRowN ((pre ++ s :: rest).map tcells) pre.length 0 2 = some (tm s) := by
      unfold pRowN
      rw [List.getElem?_map, List.getElem?_append_right (Nat.le_refl _)]
      simp
      rw [tcells_eq]; rfl
    have e4 := strike1 hv hb hlb
    have e5 := add_one hlt (show N ≤ 9223372036854775807 from hl)
    rw [goS]
    cases hst : (strike s b).1 with
    | true =>
      rw [hst] at e4
      simp only [rLenN_eq, hn, pBin_lss, e1, Option.bind_some, pBool_vb, brn_true, e2, e3, e4, hD_eq, hR_1, List.getElem?_cons_zero, if_true]
    | false =>
      have ih := idxSt hb hlb rest (pre ++ [s]) (by simpa using ha) (by simp at hN ⊢; omega)
      have q1 : pre ++ [s] ++ rest = pre ++ s :: rest := by simp
      have q2 : (pre ++ [s]).length = pre.length + 1 := by simp
      rw [q1, q2, hN] at ih
      rw [hst, strike_no hst] at e4
      simp only [rLenN_eq, hn, pBin_lss, e1, Option.bind_some, pBool_vb, brn_true, e2, e3, e4, hD_eq, hR_1, List.getElem?_cons_zero, brn_false, e5, ih, Bool.false_eq_true, if_false]

theorem deleteFunc_eq {a b : List T} (ha : ∀ t ∈ a, twf t) (hb : ∀ t ∈ b, twf t) (hla : a.length ≤ 9223372036854775807) (hlb : b.length ≤ 9223372036854775807) :
    C193_0 (a.map tcells) (b.map tcells) = some (.top, [.sl 2 ((minusP a b).2.map tcells), .sl 2 ((minusP a b).1.map tcells)]) := by
  have e0 : ∀ x0 x1 r0 r1, L171c0_0 x0 x1 r0 r1 = L171c0_1 x0 x1 r0 r1 := fun x0 x1 r0 r1 => by
    rw [l171c0_0, l171c0_1]
  have e1 := idxSt hb hlb a [] (by simpa using ha) (by simpa using hla)
  simp only [List.nil_append, List.length_nil] at e1
  have e2 : C171_0 (a.map tcells) (b.map tcells) = L171c0_1 (vi (a.length : Nat)) (vi ((0 : Nat) : Int)) (a.map tcells) (b.map tcells) := by
    rw [c171_0, e0, rLen_eq, List.length_map]; rfl
  rw [c193_0, e2, e1]
  cases hg : goS b a 0 with
  | none =>
    rw [goS_none hg]
    simp -implicitDefEqProofs only [evs, Nat.reduceAdd, reduceIte, List.getElem?_cons_zero]
  | some q =>
    obtain ⟨j, b'⟩ := q
    obtain ⟨acc, x, rest', h1, h2, h3, h4⟩ := goS_some hg
    rw [Nat.zero_add] at h2
    have hsub := strike_sub (s := x) (b := b)
    rw [← h4] at hsub
    have hlen : acc.length < a.length := by rw [h1]; simp
    have e3 := delLoop rest' acc [x] b' (by simp) (by rw [h1] at ha; simpa using ha) (fun t ht => hb t (hsub.1 t ht)) (by rw [h1] at hla; simp at hla ⊢; omega) (Nat.le_trans hsub.2 hlb)
    have q1 : acc ++ [x] ++ rest' = a := by rw [h1]; simp
    have q2 : (acc ++ [x]).length = acc.length + 1 := by simp
    rw [q1, q2] at e3
    have e4 : decide (((j : Nat) : Int) = -1) = false := decide_eq_false (by omega)
    have e5 := add_one hlen hla
    rw [h3]
    subst h2
    simp only [Option.bind_some, hD_eq, hR_1, hR_2, List.getElem?_cons_zero, pBin_eql, e4, pBool_vb, brn_false, e5, e3]

/-! ### The reference's difference -/
noncomputable def strikeR (s : T) : List T → Bool × List T
  | [] => (false, [])
  | t :: b => if dq s t then (true, b) else ((strikeR s b).1, t :: (strikeR s b).2)
theorem strike_R (s : T) : ∀ b, strike s b = strikeR s b
  | [] => rfl
  | t :: b => by
    have ih := strike_R s b
    unfold strike at ih ⊢
    rw [strikeR, List.findIdx?_cons]
    cases h : dq s t
    · simp only [Bool.false_eq_true, if_false]
      rw [← ih]
      cases b.findIdx? (fun t => dq s t) <;> simp
    · simp

/-- What is not used yet. -/
def un : List T → List Bool → List T
  | t :: b, u :: us => if u then un b us else t :: un b us
  | _, _ => []
noncomputable def fIdx (s : T) : List T → List Bool → Option Nat
  | t :: b, u :: us => if (!u && dq s t) = true then some 0 else (fIdx s b us).map (· + 1)
  | _, _ => none

theorem fIdx_lt {s : T} : ∀ {b : List T} {us : List Bool} {i : Nat}, fIdx s b us = some i → i < b.length ∧ i < us.length
  | [], us, i, h => by cases us <;> cases h
  | t :: b, [], i, h => by cases h
  | t :: b, u :: us, i, h => by
    rw [fIdx] at h
    split at h
    · cases h; simp
    · rw [Option.map_eq_some_iff] at h
      obtain ⟨j, h, rfl⟩ := h
      have := fIdx_lt h
      simp; omega

theorem un_strike (s : T) : ∀ (b : List T) (us : List Bool), match fIdx s b us with | some i => strikeR s (un b us) = (true, un b (us.set i true)) | none => strikeR s (un b us) = (false, un b us)
  | [], us => by cases us <;> rfl
  | t :: b, [] => rfl
  | t :: b, u :: us => by
    have ih := un_strike s b us
    rw [fIdx]
    cases u
    · cases hd : dq s t
      · simp only [Bool.not_false, Bool.and_false, Bool.false_eq_true, if_false]
        cases hf : fIdx s b us with
        | none =>
          rw [hf] at ih
          dsimp only at ih
          simp [un, strikeR, hd, ih]
        | some i =>
          rw [hf] at ih
          dsimp only at ih
          simp [un, strikeR, hd, ih]
      · simp [un, strikeR, hd]
    · simp only [Bool.not_true, Bool.false_and, Bool.false_eq_true, if_false]
      cases hf : fIdx s b us with
      | none =>
        rw [hf] at ih
        dsimp only at ih
        simp [un, ih]
      | some i =>
        rw [hf] at ih
        dsimp only at ih
        simp [un, ih]

theorem fIdx_drop (s : T) {b : List T} {us : List Bool} {k : Nat} (h1 : k < b.length) (h2 : k < us.length) : fIdx s (b.drop k) (us.drop k) = if (!us[k] && dq s b[k]) = true then some 0 else (fIdx s (b.drop (k + 1)) (us.drop (k + 1))).map (· + 1) := by
  rw [drop_cons h1, drop_cons h2, fIdx]

abbrev bls (us : List Bool) : List (List A) := us.map fun u => [vb u]
theorem bls_set (us : List Bool) (i : Nat) : rSet (bls us) i (cOver [vb (us.getD i false)] 0 [vb true]) = bls (us.set i true) := by
  rw [rSet]
  show _ = (us.set i true).map _
  rw [List.map_set]
  rfl

/-- The search of one element. -/
theorem minus_in {a b : List T} (ha : ∀ t ∈ a, twf t) (hb : ∀ t ∈ b, twf t) (hla : a.length ≤ 9223372036854775807) (hlb : b.length ≤ 9223372036854775807) {i : Nat} (hi : i < a.length) {us : List Bool} (hus : us.length = b.length) (R : List (List A)) (hR : pFit (R.length + 1) 40 = true) :
    L126_1 (tms a) (tms b) (vi (i : Nat)) (vi (-1)) (vi 0) (bls us) R = match fIdx a[i] b us with
      | some j => L126_0 (tms a) (tms b) (vi ((i + 1 : Nat) : Int)) (bls (us.set j true)) R
      | none => L126_0 (tms a) (tms b) (vi ((i + 1 : Nat) : Int)) (bls us) (rApp R [tcells a[i]]) := by
  have hv := ha a[i] (List.getElem_mem _)
  have h5 := add_one hi hla
  have hn1 : decide ((-1 : Int) < 0) = true := by decide
  have none_ : ∀ k : Nat, k = b.length → L126_1 (tms a) (tms b) (vi (i : Nat)) (vi (-1)) (vi (k : Nat)) (bls us) R = L126_0 (tms a) (tms b) (vi ((i + 1 : Nat) : Int)) (bls us) (rApp R [tcells a[i]]) := by
    intro k hk
    have e1 : decide (((k : Nat) : Int) < ((b.length : Nat) : Int)) = false := decide_eq_false (by omega)
    have e2 : pFit (rLenN R + 1) 40 = true := hR
    rw [l126_1]
    simp -implicitDefEqProofs only [evs, Nat.reduceAdd, reduceIte, e1, hn1, pIndexAddr_map hi, pLoadN_tcells, h5, hR]
    rw [tcells_eq]
  have found : ∀ j k : Nat, j < b.length → L126_1 (tms a) (tms b) (vi (i : Nat)) (vi (j : Nat)) (vi (k : Nat)) (bls us) R = L126_0 (tms a) (tms b) (vi ((i + 1 : Nat) : Int)) (bls (us.set j true)) R := by
    intro j k hj
    have e1 : decide (((j : Nat) : Int) < 0) = false := decide_eq_false (by omega)
    have e2 : pIx us.length (vi ((j : Nat) : Int)) = some j := pIx_lt (by omega)
    have e3 : rGet (bls us) j = some [vb (us.getD j false)] := by
      unfold rGet
      have : j < us.length := by omega
      simp [List.getD_eq_getElem?_getD, this]
    have e4 := bls_set us j
    rw [l126_1]
    by_cases hk : ((k : Nat) : Int) < ((b.length : Nat) : Int)
    · simp only [pLenL_sl, List.length_map, Option.bind_some, pBin_lss, decide_eq_true hk, pG_vb, if_true, e1, pPick_vb, pBool_vb, brn_false, rLenN_eq, e2, e3, e4, h5]
    · simp only [pLenL_sl, List.length_map, Option.bind_some, pBin_lss, decide_eq_false hk, pG_vb, Bool.false_eq_true, if_false, e1, pPick_vb, pBool_vb, brn_false, rLenN_eq, e2, e3, e4, h5]
  have key := upto (P := fun k => L126_1 (tms a) (tms b) (vi (i : Nat)) (vi (-1)) (vi (k : Nat)) (bls us) R = match fIdx a[i] (b.drop k) (us.drop k) with
      | some j => L126_0 (tms a) (tms b) (vi ((i + 1 : Nat) : Int)) (bls (us.set (k + j) true)) R
      | none => L126_0 (tms a) (tms b) (vi ((i + 1 : Nat) : Int)) (bls us) (rApp R [tcells a[i]])) (n := b.length) ?_ ?_ 0 (Nat.zero_le _)
  · simpa using key
  · rw [none_ b.length rfl, List.drop_length]
    cases us.drop b.length <;> rfl
  · intro k hk ih
    have hk2 : k < us.length := by omega
    have e1 : decide (((k : Nat) : Int) < ((b.length : Nat) : Int)) = true := decide_eq_true (by omega)
    have e2 : pIx us.length (vi ((k : Nat) : Int)) = some k := pIx_lt (by omega)
    have e3 : pRowP (bls us) k 0 = some (vb us[k]) := by
      unfold pRowP
      simp [hk2]
    have e4 := l2Same_eq a[i] hv b[k] (hb _ (List.getElem_mem _))
    have e5 := add_one hk hlb
    rw [fIdx_drop a[i] hk hk2, l126_1]
    cases hu : us[k] <;> rw [hu] at e3
    · cases hd : dq a[i] b[k] <;> rw [hd] at e4
      · simp -implicitDefEqProofs only [evs, Nat.reduceAdd, reduceIte, e1, hn1, e2, e3, pIndexAddr_map hi, pIndexAddr_map hk, pLoadN_tcells, e4, e5, Bool.and_false]
        rw [ih]
        cases fIdx a[i] (b.drop (k + 1)) (us.drop (k + 1)) with
        | none => rfl
        | some j => simp only [Option.map_some]; rw [show k + 1 + j = k + (j + 1) by omega]
      · simp -implicitDefEqProofs only [evs, Nat.reduceAdd, reduceIte, e1, hn1, e2, e3, pIndexAddr_map hi, pIndexAddr_map hk, pLoadN_tcells, e4, e5, Bool.and_true]
        exact found k (k + 1) hk
    · simp -implicitDefEqProofs only [evs, Nat.reduceAdd, reduceIte, e1, hn1, e2, e3, e5, Bool.false_and]
      rw [ih]
      cases fIdx a[i] (b.drop (k + 1)) (us.drop (k + 1)) with
      | none => rfl
      | some j => simp only [Option.map_some]; rw [show k + 1 + j = k + (j + 1) by omega]
