/- DRAWS, THE SECOND PART: odd terms, orderings, pairs of terms and the draw of the law's own input. -/
import Derived.Test.YtbikhinddomhpaaGreatDr
namespace Go.Proofs.YtbikhinddomhpaaGreat
open Go Go.RowKit Go.Proofs.YtbikhinddomhpaaGreat.Abs

set_option linter.unusedSimpArgs false
set_option linter.unusedVariables false
set_option maxHeartbeats 1000000

theorem pF40 {n : Nat} (h : n ≤ 4194304) : pFit n 40 = true := by
  unfold pFit
  exact decide_eq_true ⟨by omega, by omega⟩
theorem own_eq (t : T) : tsz t ≤ 1048576 → G 38 [tm t] = some (tm t, []) := by
  refine T.ind (p := fun t => tsz t ≤ 1048576 → G 38 [tm t] = some (tm t, [])) ?_ t
  intro t ih h
  rw [tsz_eq] at h
  have key := (upto (P := fun i => L38_0 (vi i) (sv t.name) (tms t.args) (sv []) (sv t.name) [] ((t.args.take i).map tcells) = some (tm t, [])) (n := t.args.length) ?_ ?_ 0 (Nat.zero_le _))
  · rw [g38]
    simp only [Int.natCast_zero, List.take_zero, List.map_nil] at key
    simp -implicitDefEqProofs only [evs, Nat.reduceAdd, reduceIte, key]
  · rw [l38_0, List.take_length]
    simp -implicitDefEqProofs only [evs, Nat.reduceAdd, reduceIte]
  · intro i hi ih'
    have hlt : (i : Int) < ((t.args.length : Nat) : Int) := by omega
    have h5 := add_one hi (by show t.args.length ≤ 9223372036854775807; omega)
    have e1 := ih t.args[i] (List.getElem_mem _) (by have := tsz_mem (List.getElem_mem hi); omega)
    have hf : pFit (i + 1) 40 = true := pF40 (by omega)
    have hl : ((t.args.take i).map tcells).length = i := by rw [List.length_map, List.length_take]; omega
    have ha : rApp ((t.args.take i).map tcells) [[sv t.args[i].name, tms t.args[i].args]] = (t.args.take (i + 1)).map tcells := by
      rw [show [sv t.args[i].name, tms t.args[i].args] = tcells t.args[i] from (tcells_eq _).symm, List.take_add_one, List.getElem?_eq_getElem hi, List.map_append]
      rfl
    rw [l38_0]
    simp -implicitDefEqProofs only [evs, Nat.reduceAdd, reduceIte, hlt, pIndexAddr_map hi, pLoadN_tcells, e1, hl, hf, ha, h5, ih', List.length_take, Nat.min_eq_left (Nat.le_of_lt hi)]
/-- A term that a draw gives as one datum. -/
def MD (code : List Int) (z q : Nat) (a : Int) (o : Option Out) : Prop := ∃ a' s' t, a ≤ a' ∧ a' ≤ a + (q : Nat) ∧ tsz t ≤ z ∧ o = some (.top, [bts code, vi a', vu s', tm t])
def fT (n : List UInt8) : T := .mk [102] [.mk n []]
def hT : T := .mk [104] [fT [97], fT [97], fT [97], fT [97]]
def gT (us : List T) : T := .mk [103] us

section
variable {code : List Int} (hb : By code)
include hb
theorem wide_eq (a s : Int) (h0 : 0 ≤ a) (h1 : a ≤ 999990000) : MD code 200 2 a (C70_0 (bts code) (vi a) (vu s)) := by
  obtain ⟨a1, s1, b1, q1, q2, e1⟩ := one_eq hb 2 (by decide) (by decide) a s h0 (by omega)
  obtain ⟨a2, s2, b2, r1, r2, e2⟩ := one_eq hb 2 (by decide) (by decide) a1 s1 (by omega) (by omega)
  have inner : ∀ (x y : Int) (r1 : List (List A)), x + 1 = y → 0 ≤ x → x < 4 → r1.length ≤ 10 → L70c0_1 (vi x) (vi 0) (bts code) (vi a) (vu s) (sv []) (sv [103]) (sv [104]) [] r1 [] = L70c0_0 (vi y) (bts code) (vi a) (vu s) (sv []) (sv [103]) [] (r1 ++ [tcells hT]) := by
    intro x y r1 hxy hx hi hr
    have hf : pFit (r1.length + 1) 40 = true := pF40 (by omega)
    have c5 : ck (x + 1) = some (vi y) := by rw [hxy]; exact ck_le (by omega) (by omega)
    have k1 : ck ((0 : Int) + 1) = some (vi 1) := ck_le (by decide) (by decide)
    have k2 : ck ((1 : Int) + 1) = some (vi 2) := ck_le (by decide) (by decide)
    have k3 : ck ((2 : Int) + 1) = some (vi 3) := ck_le (by decide) (by decide)
    have k4 : ck ((3 : Int) + 1) = some (vi 4) := ck_le (by decide) (by decide)
    have f1 : pFit (0 + 1) 40 = true := rfl
    have f2 : pFit (1 + 1) 40 = true := rfl
    have f3 : pFit (2 + 1) 40 = true := rfl
    have f4 : pFit (3 + 1) 40 = true := rfl
    have l0 : ((0 : Int) < 4) = True := by simp
    have l1 : ((1 : Int) < 4) = True := by simp
    have l2 : ((2 : Int) < 4) = True := by simp
    have l3 : ((3 : Int) < 4) = True := by simp
    rw [l70c0_1]
    simp -implicitDefEqProofs only [evs, Nat.reduceAdd, reduceIte, l0, f1, k1]
    rw [l70c0_1]
    simp -implicitDefEqProofs only [evs, Nat.reduceAdd, reduceIte, l1, f2, k2, rApp]
    rw [l70c0_1]
    simp -implicitDefEqProofs only [evs, Nat.reduceAdd, reduceIte, l2, f3, k3, rApp]
    rw [l70c0_1]
    simp -implicitDefEqProofs only [evs, Nat.reduceAdd, reduceIte, l3, f4, k4, rApp]
    rw [l70c0_1]
    simp -implicitDefEqProofs only [evs, Nat.reduceAdd, reduceIte, hf, c5, rApp]
    rfl
  have l0 : ((0 : Int) < 4) = True := by simp
  have l1 : ((1 : Int) < 4) = True := by simp
  have l2 : ((2 : Int) < 4) = True := by simp
  have l3 : ((3 : Int) < 4) = True := by simp
  have head : C70_0 (bts code) (vi a) (vu s) = L70c0_0 (vi 4) (bts code) (vi a) (vu s) (sv []) (sv [103]) [] [tcells hT, tcells hT, tcells hT, tcells hT] := by
    rw [c70_0, l70c0_0]
    simp -implicitDefEqProofs only [evs, Nat.reduceAdd, reduceIte, l0]
    rw [inner 0 1 [] (by decide) (by decide) (by decide) (by decide), l70c0_0]
    simp -implicitDefEqProofs only [evs, Nat.reduceAdd, reduceIte, l1]
    rw [inner 1 2 _ (by decide) (by decide) (by decide) (by decide), l70c0_0]
    simp -implicitDefEqProofs only [evs, Nat.reduceAdd, reduceIte, l2]
    rw [inner 2 3 _ (by decide) (by decide) (by decide) (by decide), l70c0_0]
    simp -implicitDefEqProofs only [evs, Nat.reduceAdd, reduceIte, l3]
    rw [inner 3 4 _ (by decide) (by decide) (by decide) (by decide)]
    rfl
  rw [head, l70c0_0]
  have n4 : ((4 : Int) < 4) = False := by simp
  cases b1 with
  | true =>
    cases b2 with
    | true =>
      refine ⟨a2, s2, gT [hT, hT, hT, fT [98]], by omega, by omega, by decide, ?_⟩
      simp -implicitDefEqProofs only [evs, Nat.reduceAdd, reduceIte, n4, e1, e2, List.getElem?_cons_zero, List.getElem?_cons_succ]
      rfl
    | false =>
      refine ⟨a2, s2, gT [hT, hT, hT], by omega, by omega, by decide, ?_⟩
      simp -implicitDefEqProofs only [evs, Nat.reduceAdd, reduceIte, n4, e1, e2, List.getElem?_cons_zero, List.getElem?_cons_succ]
      rfl
  | false =>
    refine ⟨a2, s2, gT [hT, hT, hT, hT], by omega, by omega, by decide, ?_⟩
    cases b2 <;> simp -implicitDefEqProofs only [evs, Nat.reduceAdd, reduceIte, n4, e1, e2, List.getElem?_cons_zero, List.getElem?_cons_succ] <;> rfl
theorem anyTerm_eq (a s : Int) (h0 : 0 ≤ a) (h1 : a ≤ 999980000) : MD code 1000 1200 a (C39_0 (bts code) (vi a) (vu s)) := by
  obtain ⟨a1, s1, t1, q1, q2, q3, e1⟩ := term_eq hb a s h0 (by omega)
  obtain ⟨a2, s2, x, r1, r2, x0, x1, e2⟩ := pick_eq hb 24 (by decide) (by decide) a1 s1 (by omega) (by omega)
  have hz := tsz_eq t1
  rw [c39_0]
  by_cases y0 : x = 0
  · subst y0
    obtain ⟨a3, s3, w, hw, u1, u2, e⟩ := of_eq hb [[], [116, 114, 117, 101], [116, 114, 117, 116, 104], [105, 102], [88, 121, 122, 57], [88, 121, 122, 57, 57], [120, 65], [97, 95, 98], [97, 98, 99, 100, 101, 102], [97, 98, 99, 100, 101, 102, 103], [95, 97], [57], [88, 95], [61]] (by decide) (by decide) a2 s2 (by omega) (by omega)
    have hl : w.length ≤ 7 := (show ∀ w ∈ ([[], [116, 114, 117, 101], [116, 114, 117, 116, 104], [105, 102], [88, 121, 122, 57], [88, 121, 122, 57, 57], [120, 65], [97, 95, 98], [97, 98, 99, 100, 101, 102], [97, 98, 99, 100, 101, 102, 103], [95, 97], [57], [88, 95], [61]] : List (List UInt8)), w.length ≤ 7 by decide) w hw
    have e : C36_0 (bts code) (vi a2) (vu s2) [[sv []], [sv [116, 114, 117, 101]], [sv [116, 114, 117, 116, 104]], [sv [105, 102]], [sv [88, 121, 122, 57]], [sv [88, 121, 122, 57, 57]], [sv [120, 65]], [sv [97, 95, 98]], [sv [97, 98, 99, 100, 101, 102]], [sv [97, 98, 99, 100, 101, 102, 103]], [sv [95, 97]], [sv [57]], [sv [88, 95]], [sv [61]]] = some (.top, [bts code, vi a3, vu s3, sv w]) := e
    refine ⟨a3, s3, .mk w t1.args, by omega, by omega, by rw [tsz_mk]; omega, ?_⟩
    simp -implicitDefEqProofs only [evs, Nat.reduceAdd, reduceIte, e1, e2, e, List.getElem?_cons_zero, List.getElem?_cons_succ, hR_4]
    rfl
  by_cases y1 : x = 1
  · subst y1
    obtain ⟨a3, s3, y, u1, u2, u3, u4, e3⟩ := pick_eq hb 3 (by decide) (by decide) a2 s2 (by omega) (by omega)
    obtain ⟨k, hk⟩ : ∃ k : Nat, 7 + y = (k : Nat) := ⟨(7 + y).toNat, by omega⟩
    have c1 : ck (7 + y) = some (vi (k : Nat)) := by rw [hk]; exact ck_le (by omega) (by omega)
    obtain ⟨a4, s4, t4, v1, v2, v3, e4⟩ := tower_eq hb k (by omega) a3 s3 (by omega) (by omega)
    refine ⟨a4, s4, t4, by omega, by omega, by omega, ?_⟩
    simp -implicitDefEqProofs only [evs, Nat.reduceAdd, reduceIte, y0, e1, e2, e3, c1, e4, List.getElem?_cons_zero, List.getElem?_cons_succ, hR_4]
  by_cases y2 : x = 2
  · subst y2
    obtain ⟨a3, s3, t3, u1, u2, u3, e3⟩ := wide_eq hb a2 s2 (by omega) (by omega)
    refine ⟨a3, s3, t3, by omega, by omega, by omega, ?_⟩
    simp -implicitDefEqProofs only [evs, Nat.reduceAdd, reduceIte, y0, y1, e1, e2, e3, List.getElem?_cons_zero, List.getElem?_cons_succ, hR_4]
  by_cases y3 : x = 3
  · subst y3
    obtain ⟨a3, s3, t3, u1, u2, u3, e3⟩ := term_eq hb a2 s2 (by omega) (by omega)
    obtain ⟨a4, s4, t4, v1, v2, v3, e4⟩ := term_eq hb a3 s3 (by omega) (by omega)
    obtain ⟨a5, s5, t5, w1, w2, w3, e5⟩ := term_eq hb a4 s4 (by omega) (by omega)
    have hf : pFit (t1.args.length + 3) 40 = true := pF40 (by omega)
    have hsz : ∀ us : List T, tszL (us ++ [t3, t4, t5]) = tszL us + (tsz t3 + (tsz t4 + tsz t5)) := by
      intro us
      induction us with
      | nil => simp [tszL]
      | cons u us ih => simp only [List.cons_append, tszL]; omega
    refine ⟨a5, s5, .mk t1.name (t1.args ++ [t3, t4, t5]), by omega, by omega, by rw [tsz_mk, hsz, List.length_append, List.length_cons, List.length_cons, List.length_cons, List.length_nil]; omega, ?_⟩
    simp -implicitDefEqProofs only [evs, Nat.reduceAdd, reduceIte, y0, y1, y2, e1, e2, e3, e4, e5, hf, List.length_map, List.getElem?_cons_zero, List.getElem?_cons_succ, hR_4]
    show _ = some (A.top, [bts code, vi a5, vu s5, A.agg [sv t1.name, .sl 2 ((t1.args ++ [t3, t4, t5]).map tcells)]])
    rw [List.map_append, List.map_cons, List.map_cons, List.map_cons, tcells_eq t3, tcells_eq t4, tcells_eq t5]
    rfl
  by_cases y4 : x = 4
  · subst y4
    cases ht : t1.args with
    | nil =>
      rw [ht] at e1
      refine ⟨a2, s2, t1, by omega, by omega, by omega, ?_⟩
      simp -implicitDefEqProofs only [evs, Nat.reduceAdd, reduceIte, y0, y1, y2, y3, e1, e2, Int.natCast_zero, List.map_nil, List.getElem?_cons_zero, List.getElem?_cons_succ, hR_4]
      rw [show tm t1 = A.agg [sv t1.name, .sl 2 (t1.args.map tcells)] from rfl, ht]
      rfl
    | cons u us =>
      rw [ht] at e1 hz
      obtain ⟨a3, s3, w, hw, u1, u2, e⟩ := of_eq hb [[61], [], [81, 49], [98, 50]] (by decide) (by decide) a2 s2 (by omega) (by omega)
      have hl : w.length ≤ 2 := (show ∀ w ∈ ([[61], [], [81, 49], [98, 50]] : List (List UInt8)), w.length ≤ 2 by decide) w hw
      have e : C36_0 (bts code) (vi a2) (vu s2) [[sv [61]], [sv []], [sv [81, 49]], [sv [98, 50]]] = some (.top, [bts code, vi a3, vu s3, sv w]) := e
      have hu := tsz_eq u
      simp only [tszL, List.length_cons] at hz
      refine ⟨a3, s3, .mk t1.name (.mk w u.args :: us), by omega, by omega, by rw [tsz_mk]; simp only [tszL, List.length_cons, tsz_mk]; omega, ?_⟩
      have x2 : pIx (us.length + 1) (vi 0) = some 0 := pIx_lt (i := 0) (by omega)
      have x3 : pRowP (tcells u :: us.map tcells) 0 1 = some (tms u.args) := by rw [tcells_eq]; rfl
      have x4 : (0 : Int) < ((us.length + 1 : Nat) : Int) := by omega
      simp -implicitDefEqProofs only [evs, Nat.reduceAdd, reduceIte, y0, y1, y2, y3, e1, e2, e, List.map_cons, List.length_cons, List.length_map, x2, x3, x4, List.getElem?_cons_zero, List.getElem?_cons_succ, hR_4]
      generalize hB : buildA _ _ _ = B
      have hB' : B = some (.agg [sv w, tms u.args]) := by rw [← hB]; kernel_rfl
      rw [hB']
      simp -implicitDefEqProofs only [evs, Nat.reduceAdd, reduceIte, rGet, rSet, cOver_2, List.getElem?_cons_zero, List.getElem?_cons_succ, hR_4]
      rw [tcells_eq]
      show some (A.top, [bts code, vi a3, vu s3, A.agg [sv t1.name, A.sl 2 (cOver [sv u.name, A.sl 2 (List.map tcells u.args)] 0 [sv w, tms u.args] :: List.map tcells us)]]) = some (A.top, [bts code, vi a3, vu s3, A.agg [sv t1.name, .sl 2 (tcells (.mk w u.args) :: us.map tcells)]])
      rw [cOver_2, tcells_eq]
      rfl
  · refine ⟨a2, s2, t1, by omega, by omega, by omega, ?_⟩
    simp -implicitDefEqProofs only [evs, Nat.reduceAdd, reduceIte, e1, e2, y0, y1, y2, y3, y4, List.getElem?_cons_zero, List.getElem?_cons_succ, hR_4]
end

theorem rCnt_map {α : Type} (f : α → List A) (l : List α) : rCnt (l.map f) = l.length := List.length_map ..
theorem pF8 {n : Nat} (h : n ≤ 4194304) : pFit n 8 = true := by
  unfold pFit
  exact decide_eq_true ⟨by omega, by omega⟩
/-- An ordering that a draw gives. -/
def OD (code : List Int) (q : Nat) (a : Int) (o : Option Out) : Prop := ∃ a' s' r, a ≤ a' ∧ a' ≤ a + (q : Nat) ∧ owf r ∧ o = some (.top, [bts code, vi a', vu s', od r])
theorem owf_of {ss : List (List UInt8)} {ws : List Int} {v : Int} (h1 : ∀ s ∈ ss, s.length ≤ 10) (h2 : ss.length ≤ 10) (h3 : ∀ x ∈ ws, -200 ≤ x ∧ x ≤ 200) (h4 : ws.length ≤ 10) (h5 : -200 ≤ v ∧ v ≤ 200) : owf ⟨ss, ws, v⟩ :=
  ⟨⟨fun s hs => by have := h1 s hs; show s.length ≤ 9223372036854775807; omega, by show ss.length ≤ 9223372036854775807; omega⟩, ⟨fun x hx => by have := h3 x hx; exact ⟨by omega, by omega⟩, by show ws.length ≤ 9223372036854775807; omega⟩, ⟨by show (-9223372036854775808 : Int) ≤ v; omega, by show v ≤ (9223372036854775807 : Int); omega⟩⟩
theorem set_cs (l : List (List UInt8)) (i : Nat) (hi : i < l.length) : rGet (l.map cs) i = some [sv l[i]] ∧ ∀ (x : A) (w : List UInt8), rSet (l.map cs) i (cOver [x] 0 [sv w]) = (l.set i w).map cs := by
  refine ⟨by simp [rGet, hi], fun x w => ?_⟩
  rw [List.map_set]
  rfl
theorem set_ci (l : List Int) (i : Nat) (hi : i < l.length) : rGet (l.map ci) i = some [vi l[i]] ∧ ∀ (x : A) (w : Int), rSet (l.map ci) i (cOver [x] 0 [vi w]) = (l.set i w).map ci := by
  refine ⟨by simp [rGet, hi], fun x w => ?_⟩
  rw [List.map_set]
  rfl

section
variable {code : List Int} (hb : By code)
include hb
theorem ordering_end (v : Int) (hv : -100 ≤ v ∧ v ≤ 100) (ks : List (List UInt8)) (ws : List Int) (hk : ks.length = 7) (hw : ws.length = 7) (hks : ∀ k ∈ ks, k.length ≤ 10) (hws : ∀ w ∈ ws, -200 ≤ w ∧ w ≤ 200) (a s : Int) (h0 : 0 ≤ a) (h1 : a ≤ 999990000) :
    OD code 5 a (L12c0_0 (bts code) (vi a) (vu s) (vi 0) (vi v) [] [] [] (ks.map cs) (ws.map ci)) := by
  obtain ⟨a1, s1, x, q1, q2, x0, x1, e1⟩ := pick_eq hb 40 (by decide) (by decide) a s h0 (by omega)
  have z0 : ((0 : Int) < ((0 : Nat) : Int)) = False := by simp
  rw [l12c0_0]
  by_cases y0 : x = 0
  · subst y0
    obtain ⟨a2, s2, w, hw', u1, u2, e⟩ := of_eq hb [[88], [], [102], [61], [120, 95, 49]] (by decide) (by decide) a1 s1 (by omega) (by omega)
    have hl : w.length ≤ 3 := (show ∀ w ∈ ([[88], [], [102], [61], [120, 95, 49]] : List (List UInt8)), w.length ≤ 3 by decide) w hw'
    have e : C36_0 (bts code) (vi a1) (vu s1) [[sv [88]], [sv []], [sv [102]], [sv [61]], [sv [120, 95, 49]]] = some (.top, [bts code, vi a2, vu s2, sv w]) := e
    obtain ⟨g1, g2⟩ := set_cs ks 0 (by omega)
    have i0 : pIx 7 (vi 0) = some 0 := rfl
    refine ⟨a2, s2, ⟨ks.set 0 w, ws, v⟩, by omega, by omega, owf_of ?_ (by rw [List.length_set]; omega) hws (by omega) (by omega), ?_⟩
    · intro k hk'
      rcases List.mem_or_eq_of_mem_set hk' with h | rfl
      · exact hks k h
      · omega
    · simp -implicitDefEqProofs only [evs, Nat.reduceAdd, reduceIte, z0, e1, e, hk, i0, g1, g2, List.getElem?_cons_zero, List.getElem?_cons_succ, hR_4]
  by_cases y1 : x = 1
  · subst y1
    obtain ⟨a2, s2, y, u1, u2, u3, u4, e2⟩ := pick_eq hb 7 (by decide) (by decide) a1 s1 (by omega) (by omega)
    obtain ⟨a3, s3, w, hw', v1, v2, e⟩ := among_eq hb [0, 101, 100, -1] (by decide) (by decide) a2 s2 (by omega) (by omega)
    have hl : -200 ≤ w ∧ w ≤ 200 := (show ∀ w ∈ ([0, 101, 100, -1] : List Int), -200 ≤ w ∧ w ≤ 200 by decide) w hw'
    have e : C35_0 (bts code) (vi a2) (vu s2) [[vi 0], [vi 101], [vi 100], [vi (-1)]] = some (.top, [bts code, vi a3, vu s3, vi w]) := e
    obtain ⟨i, rfl⟩ : ∃ i : Nat, y = (i : Nat) := ⟨y.toNat, by omega⟩
    have hi : i < ws.length := by omega
    obtain ⟨g1, g2⟩ := set_ci ws i hi
    have i0 : pIx 7 (vi (i : Nat)) = some i := pIx_lt (by omega)
    refine ⟨a3, s3, ⟨ks, ws.set i w, v⟩, by omega, by omega, owf_of hks (by omega) ?_ (by rw [List.length_set]; omega) (by omega), ?_⟩
    · intro k hk'
      rcases List.mem_or_eq_of_mem_set hk' with h | rfl
      · exact hws k h
      · exact hl
    · simp -implicitDefEqProofs only [evs, Nat.reduceAdd, reduceIte, z0, y0, e1, e2, e, hw, i0, g1, g2, List.getElem?_cons_zero, List.getElem?_cons_succ, hR_4]
  by_cases y2 : x = 2
  · subst y2
    obtain ⟨a3, s3, w, hw', v1, v2, e⟩ := among_eq hb [0, 3, 101] (by decide) (by decide) a1 s1 (by omega) (by omega)
    have hl : -200 ≤ w ∧ w ≤ 200 := (show ∀ w ∈ ([0, 3, 101] : List Int), -200 ≤ w ∧ w ≤ 200 by decide) w hw'
    have e : C35_0 (bts code) (vi a1) (vu s1) [[vi 0], [vi 3], [vi 101]] = some (.top, [bts code, vi a3, vu s3, vi w]) := e
    refine ⟨a3, s3, ⟨ks, ws, w⟩, by omega, by omega, owf_of hks (by omega) hws (by omega) hl, ?_⟩
    simp -implicitDefEqProofs only [evs, Nat.reduceAdd, reduceIte, z0, y0, y1, e1, e, List.getElem?_cons_zero, List.getElem?_cons_succ, hR_4]
  have b7 : pB 7 7 none = some 7 := rfl
  have b1 : pB 0 7 (some (vi 1)) = some 1 := rfl
  have r1 : rRem (ws.map ci) 0 = 7 := by rw [rRem, List.length_map, hw]
  have r2 : rRem (ks.map cs) 0 = 7 := by rw [rRem, List.length_map, hk]
  by_cases y3 : x = 3
  · subst y3
    refine ⟨a1, s1, ⟨ks, ws.drop 1, v⟩, by omega, by omega, owf_of hks (by omega) (fun x hx => hws x (List.mem_of_mem_drop hx)) (by rw [List.length_drop]; omega) (by omega), ?_⟩
    have t1 : ((ws.map ci).drop 1).take (7 - 1) = (ws.drop 1).map ci := by rw [← List.map_drop, List.take_of_length_le (by rw [List.length_map, List.length_drop]; omega)]
    simp -implicitDefEqProofs only [evs, Nat.reduceAdd, reduceIte, z0, y0, y1, y2, e1, hw, b7, b1, r1, r2, rCnt_map, nSub_eq, Nat.sub_zero, Nat.zero_add, t1, List.getElem?_cons_zero, List.getElem?_cons_succ, hR_4]
  by_cases y4 : x = 4
  · subst y4
    refine ⟨a1, s1, ⟨ks.drop 1, ws.drop 1, v⟩, by omega, by omega, owf_of (fun x hx => hks x (List.mem_of_mem_drop hx)) (by rw [List.length_drop]; omega) (fun x hx => hws x (List.mem_of_mem_drop hx)) (by rw [List.length_drop]; omega) (by omega), ?_⟩
    have t1 : ((ws.map ci).drop 1).take (7 - 1) = (ws.drop 1).map ci := by rw [← List.map_drop, List.take_of_length_le (by rw [List.length_map, List.length_drop]; omega)]
    have t2 : ((ks.map cs).drop 1).take (7 - 1) = (ks.drop 1).map cs := by rw [← List.map_drop, List.take_of_length_le (by rw [List.length_map, List.length_drop]; omega)]
    simp -implicitDefEqProofs only [evs, Nat.reduceAdd, reduceIte, z0, y0, y1, y2, y3, e1, hw, hk, b7, b1, r1, r2, rCnt_map, nSub_eq, Nat.sub_zero, Nat.zero_add, t1, t2, List.getElem?_cons_zero, List.getElem?_cons_succ, hR_4]
  · refine ⟨a1, s1, ⟨ks, ws, v⟩, by omega, by omega, owf_of hks (by omega) hws (by omega) (by omega), ?_⟩
    simp -implicitDefEqProofs only [evs, Nat.reduceAdd, reduceIte, z0, y0, y1, y2, y3, y4, e1, List.getElem?_cons_zero, List.getElem?_cons_succ, hR_4]
theorem ordering_loop (v : Int) (hv : 1 ≤ v ∧ v ≤ 2) : ∀ (m : Nat) (l ks : List (List UInt8)) (ws : List Int), l.length = m → m + ks.length = 7 → m + ws.length = 7 → (∀ k ∈ l, k.length ≤ 10) → (∀ k ∈ ks, k.length ≤ 10) → (∀ w ∈ ws, -200 ≤ w ∧ w ≤ 200) → ∀ a s : Int, 0 ≤ a → a ≤ 999980000 - 2 * m →
    OD code (5 + 2 * m) a (L12c0_0 (bts code) (vi a) (vu s) (vi 0) (vi v) (l.map cs) [] [] (ks.map cs) (ws.map ci)) := by
  intro m
  induction m with
  | zero =>
    intro l ks ws hl hk hw hls hks hws a s h0 h1
    have : l = [] := List.length_eq_zero_iff.1 hl
    subst this
    exact ordering_end hb v ⟨by omega, by omega⟩ ks ws (by omega) (by omega) hks hws a s h0 (by omega)
  | succ m ih =>
    intro l ks ws hl hk hw hls hks hws a s h0 h1
    obtain ⟨a1, s1, x, q1, q2, x0, x1, e1⟩ := pick_eq hb ((l.length : Nat) : Int) (by omega) (by omega) a s h0 (by omega)
    obtain ⟨i, rfl⟩ : ∃ i : Nat, x = (i : Nat) := ⟨x.toNat, by omega⟩
    have hi : i < l.length := by omega
    obtain ⟨a2, s2, w, hw', v1, v2, e2⟩ := among_eq hb [0, 0, 0, 1, 2] (by decide) (by decide) a1 s1 (by omega) (by omega)
    have hwb : 0 ≤ w ∧ w ≤ 2 := (show ∀ w ∈ ([0, 0, 0, 1, 2] : List Int), 0 ≤ w ∧ w ≤ 2 by decide) w hw'
    have e2 : C35_0 (bts code) (vi a1) (vu s1) [[vi 0], [vi 0], [vi 0], [vi 1], [vi 2]] = some (.top, [bts code, vi a2, vu s2, vi w]) := e2
    have g0 : (0 : Int) < ((l.length : Nat) : Int) := by omega
    have i1 : pIx l.length (vi ((i : Nat) : Int)) = some i := pIx_lt hi
    have i2 : pRowP (l.map cs) i 0 = some (sv l[i]) := by unfold pRowP; simp [hi]
    have f1 : pFit (ks.length + 1) 16 = true := pFit_ok (by omega)
    have f2 : pFit (ws.length + 1) 8 = true := pF8 (by omega)
    have rr : rRem (l.map cs) 0 = l.length := by rw [rRem, List.length_map]; rfl
    have p1 : pB l.length l.length (some (vi (i : Nat))) = some i := pB_le (by omega)
    have p2 : pB l.length l.length none = some l.length := pB_none_le (Nat.le_refl _)
    have p3 : pB 0 l.length (some (vi ((i + 1 : Nat) : Int))) = some (i + 1) := pB_le (by omega)
    have h5 := add_one hi (by omega)
    have w1 : rWin (l.map cs) 0 i = (l.take i).map cs := by rw [rWin, List.drop_zero, List.map_take]
    have w2 : rWin (l.map cs) (i + 1) (l.length - (i + 1)) = (l.drop (i + 1)).map cs := by rw [rWin, ← List.map_drop, List.take_of_length_le (by rw [List.length_map, List.length_drop]; omega)]
    have f3 : pFit (l.take i).length 16 = true := pFit_ok (by rw [List.length_take]; omega)
    have f4 : pFit ((l.take i).length + (l.drop (i + 1)).length) 16 = true := pFit_ok (by rw [List.length_take, List.length_drop]; omega)
    have c1 : ck (v + w) = some (vi (v + w)) := ck_le (by omega) (by omega)
    obtain ⟨a3, s3, r, u1, u2, u3, e3⟩ := ih (l.take i ++ l.drop (i + 1)) (ks ++ [l[i]]) (ws ++ [v + w]) (by rw [List.length_append, List.length_take, List.length_drop]; omega) (by rw [List.length_append, List.length_cons, List.length_nil]; omega) (by rw [List.length_append, List.length_cons, List.length_nil]; omega)
      (fun k hk => by
        rcases List.mem_append.1 hk with h | h
        · exact hls k (List.mem_of_mem_take h)
        · exact hls k (List.mem_of_mem_drop h))
      (fun k hk => by
        rcases List.mem_append.1 hk with h | h
        · exact hks k h
        · rw [List.mem_singleton.1 h]; exact hls _ (List.getElem_mem _))
      (fun x hx => by
        rcases List.mem_append.1 hx with h | h
        · exact hws x h
        · rw [List.mem_singleton.1 h]; omega) a2 s2 (by omega) (by omega)
    refine ⟨a3, s3, r, by omega, by omega, u3, ?_⟩
    rw [← e3, l12c0_0]
    have m1 : rApp ((l.take i).map cs) ((l.drop (i + 1)).map cs) = (l.take i ++ l.drop (i + 1)).map cs := by rw [List.map_append]; rfl
    have m2 : rApp (ks.map cs) [[sv l[i]]] = (ks ++ [l[i]]).map cs := by rw [List.map_append]; rfl
    have m3 : rApp (ws.map ci) [[vi (v + w)]] = (ws ++ [v + w]).map ci := by rw [List.map_append]; rfl
    simp -implicitDefEqProofs only [evs, Nat.reduceAdd, reduceIte, g0, e1, i1, i2, f1, rr, rCnt_map, p1, nSub_eq, Nat.sub_zero, Nat.zero_add, w1, f3, h5, p2, p3, w2, f4, e2, c1, f2, m1, m2, m3, List.getElem?_cons_zero, List.getElem?_cons_succ, hR_4]
theorem ordering_eq (a s : Int) (h0 : 0 ≤ a) (h1 : a ≤ 999970000) : OD code 25 a (C12_0 (bts code) (vi a) (vu s)) := by
  obtain ⟨a1, s1, x, q1, q2, x0, x1, e1⟩ := pick_eq hb 2 (by decide) (by decide) a s h0 (by omega)
  have c1 : ck (1 + x) = some (vi (1 + x)) := ck_le (by omega) (by omega)
  obtain ⟨a2, s2, r, u1, u2, u3, e2⟩ := ordering_loop hb (1 + x) (by omega) 7 [[97], [98], [102], [103], [112], [113], [114]] [] [] rfl rfl rfl (by decide) (by decide) (by decide) a1 s1 (by omega) (by omega)
  have e2 : L12c0_0 (bts code) (vi a1) (vu s1) (vi 0) (vi (1 + x)) [[sv [97]], [sv [98]], [sv [102]], [sv [103]], [sv [112]], [sv [113]], [sv [114]]] [] [] [] [] = some (.top, [bts code, vi a2, vu s2, od r]) := e2
  refine ⟨a2, s2, r, by omega, by omega, u3, ?_⟩
  rw [c12_0]
  simp -implicitDefEqProofs only [evs, Nat.reduceAdd, reduceIte, e1, c1, e2, List.getElem?_cons_zero, List.getElem?_cons_succ, hR_4]
end

/-- A pair of terms that a draw gives. -/
def PD (code : List Int) (z q : Nat) (a : Int) (o : Option Out) : Prop := ∃ a' s' t u, a ≤ a' ∧ a' ≤ a + (q : Nat) ∧ tsz t ≤ z ∧ tsz u ≤ z ∧ o = some (.top, [bts code, vi a', vu s', .tup [tm t, tm u]])

section
variable {code : List Int} (hb : By code)
include hb
theorem pair_eq (a s : Int) (h0 : 0 ≤ a) (h1 : a ≤ 999970000) : PD code 1000 3000 a (C13_0 (bts code) (vi a) (vu s)) := by
  obtain ⟨a1, s1, t1, q1, q2, q3, e1⟩ := term_eq hb a s h0 (by omega)
  obtain ⟨a2, s2, t2, r1, r2, r3, e2⟩ := term_eq hb a1 s1 (by omega) (by omega)
  obtain ⟨a3, s3, x, u1, u2, x0, x1, e3⟩ := pick_eq hb 6 (by decide) (by decide) a2 s2 (by omega) (by omega)
  have o1 := own_eq t1 (by omega)
  have o2 := own_eq t2 (by omega)
  rw [c13_0]
  by_cases y0 : x = 0
  · subst y0
    obtain ⟨a4, s4, b, v1, v2, e4⟩ := one_eq hb 20 (by decide) (by decide) a3 s3 (by omega) (by omega)
    cases b with
    | true =>
      obtain ⟨a5, s5, t5, w1, w2, w3, e5⟩ := anyTerm_eq hb a4 s4 (by omega) (by omega)
      refine ⟨a5, s5, t1, t5, by omega, by omega, by omega, by omega, ?_⟩
      simp -implicitDefEqProofs only [evs, Nat.reduceAdd, reduceIte, e1, e2, e3, e4, e5, o1, o2, List.getElem?_cons_zero, List.getElem?_cons_succ, hR_4]
    | false =>
      refine ⟨a4, s4, t1, .mk [102] [t1], by omega, by omega, by omega, by rw [tsz_mk]; simp only [tszL, List.length_cons, List.length_nil]; omega, ?_⟩
      simp -implicitDefEqProofs only [evs, Nat.reduceAdd, reduceIte, e1, e2, e3, e4, o1, o2, List.getElem?_cons_zero, List.getElem?_cons_succ, hR_4]
      rw [← tms1]
      rfl
  by_cases y1 : x = 1
  · subst y1
    obtain ⟨a4, s4, t4, v1, v2, v3, e4⟩ := term_eq hb a3 s3 (by omega) (by omega)
    obtain ⟨a5, s5, b, w1, w2, e5⟩ := one_eq hb 20 (by decide) (by decide) a4 s4 (by omega) (by omega)
    have hz : tsz (.mk [103] [t2, t4]) ≤ 1000 := by rw [tsz_mk]; simp only [tszL, List.length_cons, List.length_nil]; omega
    cases b with
    | true =>
      obtain ⟨a6, s6, t6, z1, z2, z3, e6⟩ := anyTerm_eq hb a5 s5 (by omega) (by omega)
      refine ⟨a6, s6, .mk [103] [t2, t4], t6, by omega, by omega, hz, by omega, ?_⟩
      simp -implicitDefEqProofs only [evs, Nat.reduceAdd, reduceIte, y0, e1, e2, e3, e4, e5, e6, o1, o2, List.getElem?_cons_zero, List.getElem?_cons_succ, hR_4]
      rw [← tms2]
      rfl
    | false =>
      refine ⟨a5, s5, .mk [103] [t2, t4], t2, by omega, by omega, hz, by omega, ?_⟩
      simp -implicitDefEqProofs only [evs, Nat.reduceAdd, reduceIte, y0, e1, e2, e3, e4, e5, o1, o2, List.getElem?_cons_zero, List.getElem?_cons_succ, hR_4]
      rw [← tms2]
      rfl
  by_cases y2 : x = 2
  · subst y2
    obtain ⟨a4, s4, t4, v1, v2, v3, e4⟩ := term_eq hb a3 s3 (by omega) (by omega)
    obtain ⟨a5, s5, t5, w1, w2, w3, e5⟩ := term_eq hb a4 s4 (by omega) (by omega)
    obtain ⟨a6, s6, b, z1, z2, e6⟩ := one_eq hb 20 (by decide) (by decide) a5 s5 (by omega) (by omega)
    have hz : tsz (.mk [103] [t1, t4]) ≤ 1000 := by rw [tsz_mk]; simp only [tszL, List.length_cons, List.length_nil]; omega
    have hz' : tsz (.mk [103] [t1, t5]) ≤ 1000 := by rw [tsz_mk]; simp only [tszL, List.length_cons, List.length_nil]; omega
    cases b with
    | true =>
      obtain ⟨a7, s7, t7, k1, k2, k3, e7⟩ := anyTerm_eq hb a6 s6 (by omega) (by omega)
      refine ⟨a7, s7, .mk [103] [t1, t5], t7, by omega, by omega, hz', by omega, ?_⟩
      simp -implicitDefEqProofs only [evs, Nat.reduceAdd, reduceIte, y0, y1, e1, e2, e3, e4, e5, e6, e7, o1, o2, List.getElem?_cons_zero, List.getElem?_cons_succ, hR_4]
      rw [← tms2]
      rfl
    | false =>
      refine ⟨a6, s6, .mk [103] [t1, t5], .mk [103] [t1, t4], by omega, by omega, hz', hz, ?_⟩
      simp -implicitDefEqProofs only [evs, Nat.reduceAdd, reduceIte, y0, y1, e1, e2, e3, e4, e5, e6, o1, o2, List.getElem?_cons_zero, List.getElem?_cons_succ, hR_4]
      rw [← tms2, ← tms2]
      rfl
  · obtain ⟨a4, s4, b, v1, v2, e4⟩ := one_eq hb 20 (by decide) (by decide) a3 s3 (by omega) (by omega)
    cases b with
    | true =>
      obtain ⟨a5, s5, t5, w1, w2, w3, e5⟩ := anyTerm_eq hb a4 s4 (by omega) (by omega)
      refine ⟨a5, s5, t1, t5, by omega, by omega, by omega, by omega, ?_⟩
      simp -implicitDefEqProofs only [evs, Nat.reduceAdd, reduceIte, y0, y1, y2, e1, e2, e3, e4, e5, o1, o2, List.getElem?_cons_zero, List.getElem?_cons_succ, hR_4]
    | false =>
      refine ⟨a4, s4, t1, t2, by omega, by omega, by omega, by omega, ?_⟩
      simp -implicitDefEqProofs only [evs, Nat.reduceAdd, reduceIte, y0, y1, y2, e1, e2, e3, e4, o1, o2, List.getElem?_cons_zero, List.getElem?_cons_succ, hR_4]
end
end Go.Proofs.YtbikhinddomhpaaGreat
