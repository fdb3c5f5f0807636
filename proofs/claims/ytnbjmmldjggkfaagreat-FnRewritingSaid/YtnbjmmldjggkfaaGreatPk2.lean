/- SEVERAL TEXTS TOGETHER: Rs, Rt, Ru, Rl, Rm, Rn, Rv, Rw, Va, Dr, Vb, Vc, Vd, Ve, Ds, Vf, Vg, Vh. -/
import Derived.Test.YtnbjmmldjggkfaaGreatPq
import Derived.Sort.Walk0
import Derived.KernelRfl
import Derived.Test.YtnbjmmldjggkfaaGreatPk1
/- A MATCH APPLIED BY THE PROGRAM; A MATCH AS A SUBSTITUTION. -/
namespace Go.Proofs.YtnbjmmldjggkfaaGreat
open Go Go.RowKit Go.Proofs.YtnbjmmldjggkfaaGreat.Abs

set_option linter.unusedSimpArgs false
set_option linter.unusedVariables false
set_option maxHeartbeats 1000000

theorem replace_eq {m : Sub'} (hv : ∀ q ∈ m, varN q.1 = true) (hm : ∀ q ∈ m, Tz q.2) : ∀ t : T, Tz t → okT t = true → G 141 [tm t, .mp (m.map kv)] = some (tm (sub m t), []) := by
  refine T.ind fun t ih ht hk => ?_
  have hs := ht
  unfold Tz at hs
  rw [tsz_eq] at hs
  have lk := pLook_kv [sv [], .sl 2 []] m t.name
  rw [g141]
  cases h : varN t.name with
  | true =>
    have h0 : t.args = [] := var_args hk h
    have hz : (((0 : Nat) : Int) = 0) = True := by simp
    have hta : tm t = .agg [sv t.name, tms []] := by show A.agg [_, A.sl 2 (t.args.map tcells)] = _; rw [h0]
    rw [sub_var h, sub1, hta]
    cases hl : look m t.name with
    | none =>
      rw [hl] at lk
      have lk : pLook none true false [sv [], .sl 2 []] (.mp (m.map kv)) (sv t.name) = some (.tup [.agg [sv [], .sl 2 []], vb false]) := lk
      have h1 : (0 : Int) < ((0 : Nat) : Int) ↔ False := by simp
      simp -implicitDefEqProofs only [evs, Nat.reduceAdd, reduceIte, lk]
      rw [l141_0]
      simp -implicitDefEqProofs only [evs, Nat.reduceAdd, reduceIte, hz, h1, Option.getD_none, List.map_nil]
      rfl
    | some r =>
      rw [hl] at lk
      have lk : pLook none true false [sv [], .sl 2 []] (.mp (m.map kv)) (sv t.name) = some (.tup [tm r, vb true]) := lk
      have e2 := copyTerm_eq r (hm _ (look_in hl))
      simp -implicitDefEqProofs only [evs, Nat.reduceAdd, reduceIte, lk, hz, e2, Option.getD_some]
  | false =>
    have hn : look m t.name = none := by
      cases hl : look m t.name with
      | none => rfl
      | some r => have := hv _ (look_in hl); rw [h] at this; cases this
    rw [hn] at lk
    have lk : pLook none true false [sv [], .sl 2 []] (.mp (m.map kv)) (sv t.name) = some (.tup [.agg [sv [], .sl 2 []], vb false]) := lk
    have key := (upto (P := fun i => L141_0 (.mp (m.map kv)) (tms t.args) (vi (t.args.length : Nat)) (vi i) (sv []) (sv t.name) [] (((t.args.map (sub m)).take i).map tcells) = some (tm (sub m t), [])) (n := t.args.length) ?_ ?_ 0 (Nat.zero_le _))
    · simp only [Int.natCast_zero, List.take_zero, List.map_nil] at key
      simp -implicitDefEqProofs only [evs, Nat.reduceAdd, reduceIte, lk, key]
    · rw [l141_0, List.take_of_length_le (by rw [List.length_map]; omega), sub_fun h]
      simp -implicitDefEqProofs only [evs, Nat.reduceAdd, reduceIte, ]
      rfl
    · intro i hi ih'
      have hlt : (i : Int) < ((t.args.length : Nat) : Int) := by omega
      have h5 := add_one hi (by show t.args.length ≤ 9223372036854775807; omega)
      have e2 := ih t.args[i] (List.getElem_mem _) (ht.args _ (List.getElem_mem _)) (okT_args hk _ (List.getElem_mem _))
      have hf : pFit (i + 1) 40 = true := pF40 (by omega)
      have hi2 : i < (t.args.map (sub m)).length := by rw [List.length_map]; exact hi
      have hl : (((t.args.map (sub m)).take i).map tcells).length = i := by rw [List.length_map, List.length_take, List.length_map]; omega
      have ha : rApp (((t.args.map (sub m)).take i).map tcells) [[sv (sub m t.args[i]).name, tms (sub m t.args[i]).args]] = ((t.args.map (sub m)).take (i + 1)).map tcells := by
        rw [show [sv (sub m t.args[i]).name, tms (sub m t.args[i]).args] = tcells (sub m t.args[i]) from (tcells_eq _).symm, List.take_add_one, List.getElem?_eq_getElem hi2, List.map_append, List.getElem_map]
        rfl
      generalize ((t.args.map (sub m)).take i).map tcells = R at *
      rw [l141_0]
      simp -implicitDefEqProofs only [evs, Nat.reduceAdd, reduceIte, hlt, pIndexAddr_map hi, pLoadN_tcells, e2, hl, hf, ha, h5, ih']

theorem putS_drop (n : List UInt8) (t : T) : ∀ (s : Sub') (i : Nat), i ≤ s.length → (∀ j, (h : j < i) → ∀ h' : j < s.length, sLt s[j].1 n = true) → ((∃ h : i < s.length, sLt s[i].1 n = false) ∨ i = s.length) → putS s n t = s.take i ++ (n, t) :: s.drop i
  | [], i, hi, _, _ => by
    have : i = 0 := by simpa using hi
    subst this
    rfl
  | p :: s, 0, _, _, h => by
    have hp : sLt p.1 n = false := by
      rcases h with ⟨_, h⟩ | h
      · exact h
      · cases h
    unfold putS
    rw [List.takeWhile_cons_of_neg (p := fun p : List UInt8 × T => sLt p.1 n) (by simp [hp]), List.dropWhile_cons_of_neg (p := fun p : List UInt8 × T => sLt p.1 n) (by simp [hp])]
    rfl
  | p :: s, i + 1, hi, h1, h => by
    have hp : sLt p.1 n = true := h1 0 (by omega) (by simp)
    have := putS_drop n t s i (by simpa using hi) (fun j hj hj' => h1 (j + 1) (by omega) (by simpa using hj')) (by
      rcases h with ⟨h, h2⟩ | h
      · exact Or.inl ⟨by simpa using h, h2⟩
      · exact Or.inr (by simpa using h))
    unfold putS at this ⊢
    rw [List.takeWhile_cons_of_pos (p := fun p : List UInt8 × T => sLt p.1 n) hp, List.dropWhile_cons_of_pos (p := fun p : List UInt8 × T => sLt p.1 n) hp, List.cons_append, this]
    rfl

theorem rCnt_map1 {α : Type} (f : α → List A) (l : List α) : rCnt (l.map f) = l.length := List.length_map ..
theorem put_end1 (u : Sub') (hl : u.length ≤ 1000000) (i : Nat) (hi : i ≤ u.length) :
    pB u.length u.length (some (vi (i : Nat))) = some i ∧ rWin (u.map bc) 0 i = (u.take i).map bc ∧ pFit (u.take i).length 56 = true ∧ pB u.length u.length none = some u.length ∧ pB 0 u.length (some (vi (i : Nat))) = some i ∧ rWin (u.map bc) i (u.length - i) = (u.drop i).map bc ∧ rRem (u.map bc) 0 = u.length ∧ pFit ((u.take i).length + 1) 56 = true ∧ pFit ((u.take i).length + 1 + (u.drop i).length) 56 = true := by
  refine ⟨pB_le hi, by rw [rWin, List.drop_zero, List.map_take], pF56 (by rw [List.length_take]; omega), pB_none_le (Nat.le_refl _), pB_le hi, ?_, by rw [rRem, List.length_map]; rfl, pF56 (by rw [List.length_take]; omega), pF56 (by rw [List.length_take, List.length_drop]; omega)⟩
  rw [rWin, ← List.map_drop, List.take_of_length_le (by rw [List.length_map, List.length_drop]; omega)]
theorem put_app1 (u v : Sub') (n : List UInt8) (t : T) : rApp (rApp (u.map bc) [[sv n, sv t.name, tms t.args]]) (v.map bc) = (u ++ (n, t) :: v).map bc := by
  rw [List.map_append]
  show (u.map bc ++ [_]) ++ v.map bc = u.map bc ++ _ :: v.map bc
  rw [List.append_assoc]
  rfl
theorem put_len1 (u : Sub') (n : List UInt8) (t : T) : (rApp (u.map bc) [[sv n, sv t.name, tms t.args]]).length = u.length + 1 := by
  simp [rApp]
theorem puts_eq (u : Sub') (hl : u.length ≤ 1000000) (n : List UInt8) (t : T) (ht : Tz t) : C108_0 (sv n) (tm t) (u.map bc) = some (.top, [sbs (putI u n t)]) := by
  have e1 := own_eq t ht
  have key := upto (P := fun i => (∀ j, (h : j < i) → ∀ h' : j < u.length, sLt u[j].1 n = true) → L108c0_0 (sv n) (vi i) (sv t.name) (tms t.args) (u.map bc) [] = some (.top, [sbs (putS u n t)])) (n := u.length) ?_ ?_ 0 (Nat.zero_le _) (fun j h => absurd h (Nat.not_lt_zero _))
  · rw [c108_0, putI]
    by_cases h : t.name = n
    · rw [if_pos h]
      simp -implicitDefEqProofs only [evs, Nat.reduceAdd, reduceIte, h]
    · rw [if_neg h]
      have e : L108c0_0 (sv n) (vi 0) (sv t.name) (tms t.args) (u.map bc) [] = some (.top, [sbs (putS u n t)]) := key
      simp -implicitDefEqProofs only [evs, Nat.reduceAdd, reduceIte, h, e]
  · intro hall
    rw [putS_drop n t u u.length (Nat.le_refl _) hall (Or.inr rfl)]
    obtain ⟨k1, k2, k3, k4, k5, k6, k7, k8, k9⟩ := put_end1 u hl u.length (Nat.le_refl _)
    have m1 := put_app1 (u.take u.length) (u.drop u.length) n t
    have m2 := put_len1 (u.take u.length) n t
    rw [l108c0_0]
    simp -implicitDefEqProofs only [evs, Nat.reduceAdd, reduceIte, rCnt_map1, k1, k2, k3, k4, k5, k6, k7, nSub_eq, Nat.sub_zero, Nat.zero_add, e1]
    generalize hB : buildA _ _ _ = B
    have hB' : B = some (.agg [sv n, sv t.name, tms t.args]) := by rw [← hB]; kernel_rfl
    rw [hB']
    simp -implicitDefEqProofs only [evs, Nat.reduceAdd, reduceIte, k3, k8, k9, m1, m2]
  · intro i hi ih hall
    have hlt : (i : Int) < ((u.length : Nat) : Int) := by omega
    have h5 := add_one hi (by show u.length ≤ 9223372036854775807; omega)
    have x1 : pIx u.length (vi ((i : Nat) : Int)) = some i := pIx_lt hi
    have x2 := pRowP_bc hi
    cases hs : sLt u[i].1 n
    · rw [putS_drop n t u i (by omega) hall (Or.inl ⟨hi, hs⟩)]
      obtain ⟨k1, k2, k3, k4, k5, k6, k7, k8, k9⟩ := put_end1 u hl i (by omega)
      have m1 := put_app1 (u.take i) (u.drop i) n t
      have m2 := put_len1 (u.take i) n t
      rw [l108c0_0]
      simp -implicitDefEqProofs only [evs, Nat.reduceAdd, reduceIte, hlt, x1, x2, hs, rCnt_map1, k1, k2, k3, k4, k5, k6, k7, nSub_eq, Nat.sub_zero, Nat.zero_add, e1]
      generalize hB : buildA _ _ _ = B
      have hB' : B = some (.agg [sv n, sv t.name, tms t.args]) := by rw [← hB]; kernel_rfl
      rw [hB']
      simp -implicitDefEqProofs only [evs, Nat.reduceAdd, reduceIte, k3, k8, k9, m1, m2]
    · have ih := ih fun j hj hj' => by
        by_cases h : j = i
        · subst h; exact hs
        · exact hall j (by omega) hj'
      rw [l108c0_0]
      simp -implicitDefEqProofs only [evs, Nat.reduceAdd, reduceIte, hlt, x1, x2, hs, h5, ih]

theorem putI_len (s : Sub') (n : List UInt8) (t : T) : (putI s n t).length ≤ s.length + 1 := by
  unfold putI
  split
  · omega
  · unfold putS
    rw [List.length_append, List.length_cons]
    have := List.takeWhile_append_dropWhile (p := fun p : List UInt8 × T => sLt p.1 n) (l := s)
    have := congrArg List.length this
    rw [List.length_append] at this
    omega
theorem putI_mem {s : Sub'} {n : List UInt8} {t : T} {q : List UInt8 × T} (h : q ∈ putI s n t) : q ∈ s ∨ q = (n, t) := by
  unfold putI at h
  split at h
  · exact Or.inl h
  · unfold putS at h
    rw [List.mem_append, List.mem_cons] at h
    rcases h with h | h | h
    · exact Or.inl (List.takeWhile_subset _ h)
    · exact Or.inr h
    · exact Or.inl (List.dropWhile_subset _ h)
theorem foldl_len : ∀ (m s : Sub'), (m.foldl (fun s p => putI s p.1 p.2) s).length ≤ s.length + m.length
  | [], s => by simp
  | p :: m, s => by
    rw [List.foldl_cons, List.length_cons]
    have := foldl_len m (putI s p.1 p.2)
    have := putI_len s p.1 p.2
    omega
theorem foldl_mem : ∀ (m s : Sub') {q : List UInt8 × T}, q ∈ m.foldl (fun s p => putI s p.1 p.2) s → q ∈ s ∨ q ∈ m
  | [], s, q, h => Or.inl h
  | p :: m, s, q, h => by
    rw [List.foldl_cons] at h
    rcases foldl_mem m _ h with h | h
    · rcases putI_mem h with h | h
      · exact Or.inl h
      · exact Or.inr (by rw [h]; simp)
    · exact Or.inr (by simp [h])
theorem pairs_mem {m : Sub'} {q : List UInt8 × T} (h : q ∈ pairsS m) : q ∈ m := by
  rcases foldl_mem m [] h with h | h
  · cases h
  · exact h
theorem pairs_eq (m : Sub') (hm : ∀ q ∈ m, Tz q.2) (hl : m.length ≤ 1000000) : G 137 [sbs m] = some (sb (pairsS m), []) := by
  have key := upto (P := fun i => ∀ s : Sub', s.length ≤ i → L137_0 (sbs m) (vi i) [] (s.map bc) = some (sb ((m.drop i).foldl (fun s p => putI s p.1 p.2) s), [])) (n := m.length) ?_ ?_ 0 (Nat.zero_le _) [] (Nat.le_refl _)
  · rw [g137]
    exact key
  · intro s _
    rw [l137_0, List.drop_length]
    simp -implicitDefEqProofs only [evs, Nat.reduceAdd, reduceIte, ]
    rfl
  · intro i hi ih s hs
    have hlt : (i : Int) < ((m.length : Nat) : Int) := by omega
    have h5 := add_one hi (by show m.length ≤ 9223372036854775807; omega)
    have e1 := puts_eq s (by omega) m[i].1 m[i].2 (hm _ (List.getElem_mem _))
    have := putI_len s m[i].1 m[i].2
    have ih := ih (putI s m[i].1 m[i].2) (by omega)
    rw [l137_0, drop_cons hi, List.foldl_cons]
    simp -implicitDefEqProofs only [evs, Nat.reduceAdd, reduceIte, hlt, pIndexAddr_map hi, pAdd_bc, pLoadP_bc, pLoadN_bc1, e1, h5, ih]
end Go.Proofs.YtnbjmmldjggkfaaGreat
/- PLACES: all, the subterm at one, another term there. The reference's step of rewriting. -/
namespace Go.Proofs.YtnbjmmldjggkfaaGreat
open Go Go.RowKit Go.Proofs.YtnbjmmldjggkfaaGreat.Abs

set_option linter.unusedSimpArgs false
set_option linter.unusedVariables false
set_option maxHeartbeats 1000000

theorem pF24 {n : Nat} (h : n ≤ 4194304) : pFit n 24 = true := by
  unfold pFit
  exact decide_eq_true ⟨by omega, by omega⟩
theorem pF8' {n : Nat} (h : n ≤ 4194304) : pFit n 8 = true := by
  unfold pFit
  exact decide_eq_true ⟨by omega, by omega⟩
abbrev pln (p : List Nat) : A := .sl 1 (p.map fun n => [vi (n : Nat)])
abbrev plc (p : List Nat) : List A := [pln p]
theorem own1_eq (p : List Nat) (h : p.length ≤ 4194304) : C153_0 (pln p) = some (.top, [pln p]) := by
  rw [c153_0]
  have := pF8' (n := p.length) h
  simp -implicitDefEqProofs only [evs, Nat.reduceAdd, reduceIte, this]
mutual
theorem postT_len : ∀ t : T, (postT t).length = nodes t
  | .mk n us => by
    rw [postT, nodes, List.length_append, postL_len us 0]
    simp
    omega
theorem postL_len : ∀ (us : List T) (i : Nat), (postL i us).length = nodesL us
  | [], i => rfl
  | t :: ts, i => by
    rw [postL, nodesL, List.length_append, List.length_map, postT_len t, postL_len ts (i + 1)]
end
theorem post_eq : ∀ (t : T) (p : List Nat), Tz t → p.length + tsz t ≤ 2000000 → G 133 [tm t, pln p] = some (.sl 1 ((postT t).map fun q => plc (p ++ q)), []) := by
  refine T.ind fun t ih p ht hp => ?_
  have hs := ht
  unfold Tz at hs
  rw [tsz_eq] at hs hp
  have hnl := nodes_le t
  have hne := nodes_eq t
  have e0 := own1_eq p (by omega)
  have hsplit : ∀ i, i ≤ t.args.length → nodesL (t.args.take i) + nodesL (t.args.drop i) = nodesL t.args := by
    intro i _
    have : ∀ a b : List T, nodesL (a ++ b) = nodesL a + nodesL b := by
      intro a b
      induction a with
      | nil => simp [nodesL]
      | cons x a ih => simp only [List.cons_append, nodesL, ih]; omega
    rw [← this, List.take_append_drop]
  have key := upto (P := fun i => ∀ R : List (List A), R.length + nodesL (t.args.drop i) ≤ 2000000 → L133_0 (pln p) (vi i) (sv t.name) (tms t.args) R = some (.sl 1 (R ++ (postL i (t.args.drop i) ++ [[]]).map fun q => plc (p ++ q)), [])) (n := t.args.length) ?_ ?_ 0 (Nat.zero_le _) [] (by simp; unfold Tz at ht; omega)
  · rw [g133, postT_eq]
    simp only [Int.natCast_zero, List.nil_append, List.drop_zero] at key
    simp -implicitDefEqProofs only [evs, Nat.reduceAdd, reduceIte, key]
  · intro R hR
    rw [l133_0, List.drop_length]
    have hf : pFit (R.length + 1) 24 = true := pF24 (by omega)
    simp -implicitDefEqProofs only [evs, Nat.reduceAdd, reduceIte, e0, hf]
    rw [postL, List.nil_append, List.map_cons, List.append_nil]
    rfl
  · intro i hi ih2 R hR
    have hlt : (i : Int) < ((t.args.length : Nat) : Int) := by omega
    have h5 := add_one hi (by show t.args.length ≤ 9223372036854775807; omega)
    have hm : tsz t.args[i] ≤ tszL t.args := tsz_mem (List.getElem_mem _)
    have ed : nodesL (t.args.drop i) = nodes t.args[i] + nodesL (t.args.drop (i + 1)) := by rw [drop_cons hi]; rfl
    have e2 := ih t.args[i] (List.getElem_mem _) (p ++ [i]) (ht.args _ (List.getElem_mem _)) (by rw [List.length_append, List.length_singleton]; omega)
    have ea : rApp (p.map fun n : Nat => [vi (n : Nat)]) [[vi (i : Nat)]] = (p ++ [i]).map fun n : Nat => [vi (n : Nat)] := by rw [List.map_append]; rfl
    have hf1 : pFit (p.length + 1) 8 = true := pF8' (by omega)
    have hpl := postT_len t.args[i]
    have hf2 : pFit (R.length + (postT t.args[i]).length) 24 = true := pF24 (by omega)
    have ih3 := ih2 (rApp R ((postT t.args[i]).map fun q => plc ((p ++ [i]) ++ q))) (by show (R ++ _).length + _ ≤ _; rw [List.length_append, List.length_map]; omega)
    rw [l133_0, drop_cons hi, postL]
    simp -implicitDefEqProofs only [evs, Nat.reduceAdd, reduceIte, hlt, pIndexAddr_map hi, pLoadN_tcells, e0, hf1, ea, e2, hf2, h5, ih3]
    congr 2
    show A.sl 1 ((R ++ _) ++ _) = _
    congr 1
    rw [List.append_assoc, List.append_assoc, List.map_append, List.map_append, List.map_map]
    congr 2
    refine List.map_congr_left fun q _ => ?_
    show plc (p ++ [i] ++ q) = plc (p ++ (i :: q))
    rw [List.append_assoc]
    rfl
    rw [List.map_append]

/-- A place that is there. -/
def okP : List Nat → T → Prop
  | [], _ => True
  | i :: p, t => i < t.args.length ∧ okP p (t.args.getD i (.mk [] []))
theorem getD_eq {ts : List T} {i : Nat} (h : i < ts.length) : ts.getD i (.mk [] []) = ts[i] := by rw [List.getD_eq_getElem?_getD, List.getElem?_eq_getElem h]; rfl
mutual
theorem postT_ok : ∀ (t : T), ∀ p ∈ postT t, okP p t ∧ p.length ≤ nodes t
  | .mk n us => fun p hp => by
    rw [postT, List.mem_append] at hp
    rcases hp with hp | hp
    · obtain ⟨j, q, rfl, h1, h2, h3⟩ := postL_ok us 0 p hp
      refine ⟨?_, ?_⟩
      · show (0 + j) < us.length ∧ okP q (us.getD (0 + j) _)
        rw [Nat.zero_add]
        exact ⟨h1, h2⟩
      · rw [List.length_cons, nodes]; omega
    · rw [List.mem_singleton] at hp
      subst hp
      exact ⟨trivial, by simp⟩
theorem postL_ok : ∀ (us : List T) (i : Nat), ∀ p ∈ postL i us, ∃ j q, p = (i + j) :: q ∧ j < us.length ∧ okP q (us.getD j (.mk [] [])) ∧ q.length ≤ nodesL us
  | [], i, p, hp => by rw [postL] at hp; cases hp
  | t :: ts, i, p, hp => by
    rw [postL, List.mem_append] at hp
    rcases hp with hp | hp
    · obtain ⟨q, hq, rfl⟩ := List.mem_map.1 hp
      obtain ⟨h1, h2⟩ := postT_ok t q hq
      exact ⟨0, q, rfl, by simp, h1, by rw [nodesL]; omega⟩
    · obtain ⟨j, q, rfl, h1, h2, h3⟩ := postL_ok ts (i + 1) p hp
      exact ⟨j + 1, q, by rw [show i + 1 + j = i + (j + 1) by omega], by simpa using h1, by simpa using h2, by rw [nodesL]; omega⟩
end
theorem okP_atT {q : T → Prop} (hq : ∀ t, q t → ∀ u ∈ t.args, q u) : ∀ {p : List Nat} {t : T}, okP p t → q t → q (atT p t)
  | [], _, _, h => h
  | i :: p, t, hp, h => by
    obtain ⟨h1, h2⟩ := hp
    refine okP_atT (p := p) hq h2 ?_
    rw [getD_eq h1]
    exact hq t h _ (List.getElem_mem _)

theorem pln_cons (i : Nat) (p : List Nat) : pln (i :: p) = .sl 1 ([vi (i : Nat)] :: p.map fun n => [vi (n : Nat)]) := rfl
theorem pIndexAddr_pln {p : List Nat} {i : Nat} (h : i < p.length) : pIndexAddr 1 (pln p) (vi (i : Nat)) = some (.elt [vi (p[i] : Nat)] 0) := pIndexAddr_map h
theorem at_eq (t : T) (p : List Nat) (ht : Tz t) (hp : okP p t) (hl : p.length ≤ 2000000) : G 134 [tm t, pln p] = some (.tup [tm (atT p t), vb true], []) := by
  have key := upto (P := fun i => ∀ t : T, Tz t → okP (p.drop i) t → L134_0 (pln p) (vi i) (sv t.name) (tms t.args) (sv []) [] = some (.tup [tm (atT (p.drop i) t), vb true], [])) (n := p.length) ?_ ?_ 0 (Nat.zero_le _) t ht hp
  · rw [g134]
    simp -implicitDefEqProofs only [evs, Nat.reduceAdd, reduceIte, ]
    exact key
  · intro t ht _
    have e1 := own_eq t ht
    rw [l134_0, List.drop_length]
    simp -implicitDefEqProofs only [evs, Nat.reduceAdd, reduceIte, e1]
    rfl
  · intro i hi ih t ht hp
    have hlt : (i : Int) < ((p.length : Nat) : Int) := by omega
    have h5 := add_one hi (by show p.length ≤ 9223372036854775807; omega)
    have hs := ht
    unfold Tz at hs
    rw [tsz_eq] at hs
    rw [drop_cons hi] at hp ⊢
    obtain ⟨h1, h2⟩ := hp
    have hsub : ck (((t.args.length : Nat) : Int) - 1) = some (vi (((t.args.length : Nat) : Int) - 1)) := ck_le (by omega) (by omega)
    have hin := l1In_eq ((p[i] : Nat) : Int) 0 (((t.args.length : Nat) : Int) - 1)
    have hb : inB 0 (((t.args.length : Nat) : Int) - 1) ((p[i] : Nat) : Int) = true := by unfold inB; simp; omega
    rw [hb] at hin
    have e : t.args.getD p[i] (.mk [] []) = t.args[p[i]] := getD_eq h1
    rw [e] at h2
    have ih := ih _ (ht.args _ (List.getElem_mem h1)) h2
    rw [l134_0, atT, e]
    simp -implicitDefEqProofs only [evs, Nat.reduceAdd, reduceIte, hlt, pIndexAddr_pln hi, hsub, hin, pIndexAddr_map h1, pLoadN_tcells, h5, ih]

theorem ownC_eq (t : T) (ht : Tz t) : C40_0 (sv t.name) (tms t.args) = some (.top, [sv t.name, tms t.args]) := by
  have h := ht
  unfold Tz at h
  rw [tsz_eq] at h
  have key := (upto (P := fun i => L40c0_0 (vi i) (sv t.name) (tms t.args) (sv []) (sv t.name) [] ((t.args.take i).map tcells) = some (.top, [sv t.name, tms t.args])) (n := t.args.length) ?_ ?_ 0 (Nat.zero_le _))
  · rw [c40_0]
    simp only [Int.natCast_zero, List.take_zero, List.map_nil] at key
    simp -implicitDefEqProofs only [evs, Nat.reduceAdd, reduceIte, key]
  · rw [l40c0_0, List.take_length]
    simp -implicitDefEqProofs only [evs, Nat.reduceAdd, reduceIte]
  · intro i hi ih'
    have hlt : (i : Int) < ((t.args.length : Nat) : Int) := by omega
    have h5 := add_one hi (by show t.args.length ≤ 9223372036854775807; omega)
    have e1 := own_eq t.args[i] (by have := tsz_mem (List.getElem_mem hi); omega)
    have hf : pFit (i + 1) 40 = true := pF40 (by omega)
    have hl : ((t.args.take i).map tcells).length = i := by rw [List.length_map, List.length_take]; omega
    have ha : rApp ((t.args.take i).map tcells) [[sv t.args[i].name, tms t.args[i].args]] = (t.args.take (i + 1)).map tcells := by
      rw [show [sv t.args[i].name, tms t.args[i].args] = tcells t.args[i] from (tcells_eq _).symm, List.take_add_one, List.getElem?_eq_getElem hi, List.map_append]
      rfl
    rw [l40c0_0]
    simp -implicitDefEqProofs only [evs, Nat.reduceAdd, reduceIte, hlt, pIndexAddr_map hi, pLoadN_tcells, e1, hl, hf, ha, h5, ih', List.length_take, Nat.min_eq_left (Nat.le_of_lt hi)]
theorem with_eq (s : T) (hs : Tz s) : ∀ (p : List Nat) (t : T), Tz t → okP p t → p.length ≤ 2000000 → G 136 [tm t, pln p, tm s] = some (tm (withT s p t), [])
  | [], t, _, _, _ => by
    have e1 := ownC_eq s hs
    have hz : (((0 : Nat) : Int) = 0) = True := by simp
    rw [g136, withT]
    simp -implicitDefEqProofs only [evs, Nat.reduceAdd, reduceIte, hz, e1, List.map_nil, List.getElem?_cons_zero]
  | i :: p, t, ht, hp, hl => by
    obtain ⟨h1, h2⟩ := hp
    have e : t.args.getD i (.mk [] []) = t.args[i] := getD_eq h1
    rw [e] at h2
    have e1 := ownC_eq t ht
    have e2 := with_eq s hs p t.args[i] (ht.args _ (List.getElem_mem h1)) h2 (by rw [List.length_cons] at hl; omega)
    have hz : ¬ ((p.length + 1 : Nat) : Int) = 0 := by omega
    have hz2 : ¬ ((p.length : Nat) : Int) + 1 = 0 := by omega
    have i0 : pIndexAddr 1 (pln (i :: p)) (vi 0) = some (.elt [vi (i : Nat)] 0) := pIndexAddr_pln (p := i :: p) (i := 0) (by simp)
    have sl : pSlice 1 (pln (i :: p)) (some (vi 1)) none = some (pln p) := by
      have := pSlice_drop (k := 1) (xs := (i :: p).map fun n : Nat => [vi (n : Nat)]) (i := 1) (by simp)
      exact this
    have ix : pIx t.args.length (vi (i : Nat)) = some i := pIx_lt h1
    have rg : rGet (t.args.map tcells) i = some (tcells t.args[i]) := by unfold rGet; simp [h1]
    have co : cOver (tcells t.args[i]) 0 [sv (withT s p t.args[i]).name, tms (withT s p t.args[i]).args] = tcells (withT s p t.args[i]) := by rw [tcells_eq, tcells_eq]; rfl
    have rs : rSet (t.args.map tcells) i (tcells (withT s p t.args[i])) = (t.args.set i (withT s p t.args[i])).map tcells := by unfold rSet; rw [List.map_set]
    have ll : (pLenL (pln (i :: p))) = some (vi ((p.length + 1 : Nat) : Int)) := by rw [pln_cons]; simp -implicitDefEqProofs only [evs, Nat.reduceAdd, reduceIte, ]
    rw [g136, withT, e]
    simp -implicitDefEqProofs only [evs, Nat.reduceAdd, reduceIte, ll, hz, e1, i0, pIndexAddr_map h1, pLoadN_tcells, sl, e2, ix, rg, co, rs, List.getElem?_cons_zero]
    rfl
end Go.Proofs.YtnbjmmldjggkfaaGreat
/- ONE STEP OF REWRITING BY THE REFERENCE AND BY THE PROGRAM. -/
namespace Go.Proofs.YtnbjmmldjggkfaaGreat
open Go Go.RowKit Go.Proofs.YtnbjmmldjggkfaaGreat.Abs

set_option linter.unusedSimpArgs false
set_option linter.unusedVariables false
set_option maxHeartbeats 1000000

/-! ### Sizes -/
theorem varN_len {n : List UInt8} (h : varN n = true) : n.length ≤ 4 := by
  cases n with
  | nil => simp
  | cons c r =>
    simp only [varN, Bool.and_eq_true, decide_eq_true_eq] at h
    rw [List.length_cons]
    omega
theorem symN_len' {n : List UInt8} (h : symN n = true) : n.length ≤ 6 := by
  cases n with
  | nil => simp
  | cons c r =>
    simp only [symN, Bool.and_eq_true, decide_eq_true_eq] at h
    rw [List.length_cons]
    omega
theorem ok_tsz : ∀ t : T, okT t = true → tsz t ≤ 10 * nodes t := by
  refine T.ind fun t ih hk => ?_
  have hL : ∀ us : List T, (∀ u ∈ us, tsz u ≤ 10 * nodes u) → tszL us ≤ 10 * nodesL us := by
    intro us
    induction us with
    | nil => intro _; simp [tszL]
    | cons u us ih2 =>
      intro h
      have := h u (by simp)
      have := ih2 fun w hw => h w (by simp [hw])
      simp only [tszL, nodesL]
      omega
  have h1 := hL t.args fun u hu => ih u hu (okT_args hk u hu)
  rw [tsz_eq, nodes_eq]
  rw [okT_eq] at hk
  cases hv : varN t.name with
  | true =>
    rw [hv, if_pos rfl] at hk
    have := varN_len hv
    rw [List.isEmpty_iff.1 hk] at h1 ⊢
    simp only [List.length_nil, tszL] at h1 ⊢
    omega
  | false =>
    rw [hv, if_neg Bool.false_ne_true, Bool.and_eq_true, Bool.and_eq_true, decide_eq_true_eq] at hk
    have := symN_len' hk.1
    omega
theorem sub_nodes {u : Sub'} {Z : Nat} (hZ : 1 ≤ Z) (hu : ∀ q ∈ u, nodes q.2 ≤ Z) : ∀ t : T, nodes (sub u t) ≤ nodes t * Z := by
  refine T.ind fun t ih => ?_
  cases hv : varN t.name with
  | true =>
    have h1 := nodes_pos t
    have h2 : 1 * Z ≤ nodes t * Z := Nat.mul_le_mul_right Z h1
    rw [sub_var hv, sub1]
    cases hl : look u t.name with
    | none => show 1 + 0 ≤ _; omega
    | some r => have : nodes r ≤ Z := hu _ (look_in hl); show nodes r ≤ _; omega
  | false =>
    have hL : ∀ us : List T, (∀ v ∈ us, nodes (sub u v) ≤ nodes v * Z) → nodesL (us.map (sub u)) ≤ nodesL us * Z := by
      intro us
      induction us with
      | nil => intro _; simp [nodesL]
      | cons v us ih2 =>
        intro h
        have := h v (by simp)
        have := ih2 fun w hw => h w (by simp [hw])
        simp only [List.map_cons, nodesL, Nat.add_mul]
        omega
    have := hL t.args ih
    rw [nodes_eq, sub_args hv, nodes_eq t, Nat.add_mul]
    omega
theorem nodes_arg {t u : T} (h : u ∈ t.args) : nodes u < nodes t := by
  have := nodesL_mem h
  have := nodes_eq t
  omega

/-- Terms that are valid and small. -/
def Vs (t : T) : Prop := okT t = true ∧ nodes t ≤ 30
theorem Vs.args {t : T} (h : Vs t) : ∀ u ∈ t.args, Vs u := fun u hu => ⟨okT_args h.1 u hu, by have := nodes_arg hu; have := h.2; omega⟩
theorem Vs.tz {t : T} (h : Vs t) : Tz t := by
  have := ok_tsz t h.1
  have := h.2
  unfold Tz
  omega
/-- Rules. -/
def RS (rs : List T) : Prop := rs.length ≤ 10 ∧ ∀ r ∈ rs, r.args.length = 2 ∧ Vs (lhsT r) ∧ Vs (rhsT r)
theorem RS.ok {rs : List T} (h : RS rs) : RulesOk rs := fun r hr => ⟨(h.2 r hr).2.1.1, (h.2 r hr).2.2.1⟩
/-- What is rewritten. -/
def EX (root : Bool) (t : T) : Prop := (nodes t ≤ 31 ∧ Tz t) ∧ (∀ u ∈ t.args, Vs u) ∧ (root = true → Vs t)
/-- What a match of a valid term holds. -/
theorem mt_vs {a s : T} {m : Sub'} (hs : Vs s) (h : mt [] a s = some m) : MOk Vs m := mt_ok (p := Vs) (fun _ h => h.args) a (MOk.nil _) hs h
theorem rule_args {r : T} (hl : r.args.length = 2) : pIndexAddr 2 (tms r.args) (vi 0) = some (.elt (tcells (lhsT r)) 0) ∧ pIndexAddr 2 (tms r.args) (vi 1) = some (.elt (tcells (rhsT r)) 0) := by
  have i0 : pIndexAddr 2 (tms r.args) (vi 0) = some (.elt (tcells r.args[0]) 0) := pIndexAddr_map (i := 0) (by omega)
  have i1 : pIndexAddr 2 (tms r.args) (vi 1) = some (.elt (tcells r.args[1]) 0) := pIndexAddr_map (i := 1) (by omega)
  have e0 : lhsT r = r.args[0] := getD_eq (by omega)
  have e1 : rhsT r = r.args[1] := getD_eq (by omega)
  rw [e0, e1]
  exact ⟨i0, i1⟩
theorem sub_vs {m : Sub'} {r : T} (hm : MOk Vs m) (hr : Vs r) : okT (sub m r) = true ∧ nodes (sub m r) ≤ 900 ∧ Tz (sub m r) := by
  have h1 := sub_ok (u := m) (fun q hq => (hm.2 q hq).2.1) r hr.1
  have h2 := sub_nodes (u := m) (Z := 30) (by decide) (fun q hq => (hm.2 q hq).2.2) r
  have h3 := hr.2
  have h4 := ok_tsz _ h1
  exact ⟨h1, by omega, by unfold Tz; omega⟩
theorem rootS_vs {rs : List T} (hr : RS rs) {s v : T} (hs : Vs s) (h : rootS rs s = some v) : okT v = true ∧ nodes v ≤ 900 := by
  have key : ∀ rs : List T, (∀ r ∈ rs, r.args.length = 2 ∧ Vs (lhsT r) ∧ Vs (rhsT r)) → rootS rs s = some v → okT v = true ∧ nodes v ≤ 900 := by
    intro rs
    induction rs with
    | nil => intro _ h; simp [rootS] at h
    | cons r rs ih =>
      intro hr h
      rw [rootS] at h
      split at h
      · rename_i m hm
        cases h
        obtain ⟨a, b, _⟩ := sub_vs (mt_vs hs hm) (hr r (by simp)).2.2
        exact ⟨a, b⟩
      · exact ih (fun q hq => hr q (by simp [hq])) h
  exact key rs hr.2 h

/-- What a step answers. -/
def outS (t : T) (o : Option T) : Option Out := match o with | some u => some (.tup [tm u, vb true], []) | none => some (.tup [tm t, vb false], [])

theorem EX.at {root : Bool} {t : T} (h : EX root t) {p : List Nat} (hp : okP p t) (hne : ¬(p = [] ∧ root = false)) : Vs (atT p t) := by
  obtain ⟨_, h1, h2⟩ := h
  cases p with
  | nil =>
    cases root
    · exact absurd ⟨rfl, rfl⟩ hne
    · exact h2 rfl
  | cons i p =>
    obtain ⟨a, b⟩ := hp
    refine okP_atT (p := p) (q := Vs) (fun _ h => h.args) b ?_
    rw [getD_eq a]
    exact h1 _ (List.getElem_mem _)

theorem once_spec (rs : List T) (hr : RS rs) (root : Bool) (t : T) (h : EX root t) : G 97 [tm t, tms rs, vb root] = outS t (once rs root t) := by
  have hrt := h.1.2
  have hpost := post_eq t [] hrt (by have := hrt; unfold Tz at this; simp; omega)
  have hpost : G 133 [tm t, .sl 1 []] = some (.sl 1 ((postT t).map plc), []) := hpost
  have hok := postT_ok t
  have hln := postT_len t
  have hr1 := hr.1
  rw [← once_post]
  generalize hP : postT t = P at *
  have key := upto (P := fun i => L97_0 (tms rs) (vb root) (.sl 1 (P.map plc)) (vi i) (sv t.name) (tms t.args) (sv []) [] = outS t ((P.drop i).findSome? (stepAt rs root t))) (n := P.length) ?_ ?_ 0 (Nat.zero_le _)
  · rw [g97]
    simp only [Int.natCast_zero, List.drop_zero] at key
    simp -implicitDefEqProofs only [evs, Nat.reduceAdd, reduceIte, hpost, key]
  · rw [l97_0, List.drop_length]
    show _ = some (A.tup [tm t, vb false], [])
    simp -implicitDefEqProofs only [evs, Nat.reduceAdd, reduceIte, ]
  · intro i hi ih
    have hn := h.1.1
    have hlt : (i : Int) < ((P.length : Nat) : Int) := by omega
    have h5 := add_one hi (by show P.length ≤ 9223372036854775807; omega)
    have hpi : pIndexAddr 1 (.sl 1 (P.map plc)) (vi (i : Nat)) = some (.elt (plc P[i]) 0) := pIndexAddr_map hi
    have hpl : pLenL (pln P[i]) = some (vi ((P[i].length : Nat) : Int)) := by simp -implicitDefEqProofs only [evs, Nat.reduceAdd, reduceIte, ]
    obtain ⟨ho, hl⟩ := hok P[i] (List.getElem_mem _)
    rw [drop_cons hi, List.findSome?_cons]
    by_cases hc : P[i] = [] ∧ root = false
    · rw [stepAt, if_pos hc]
      obtain ⟨c1, c2⟩ := hc
      subst c2
      have c3 : (((P[i]).length : Nat) : Int) = 0 := by rw [c1]; rfl
      rw [l97_0]
      simp -implicitDefEqProofs only [evs, Nat.reduceAdd, reduceIte, hlt, hpi, hpl, c3, h5, ih]
    · have hs := h.at ho hc
      rw [stepAt, if_neg hc]
      have e1 := at_eq t P[i] hrt ho (by omega)
      have inner : ∀ j, j ≤ rs.length → L97_1 (tms rs) (vb root) (.sl 1 (P.map plc)) (vi i) (vi j) (sv t.name) (tms t.args) (sv []) (sv (atT P[i] t).name) (tms (atT P[i] t).args) [] = (match rootS (rs.drop j) (atT P[i] t) with | some v => outS t (some (withT v P[i] t)) | none => outS t ((P.drop (i + 1)).findSome? (stepAt rs root t))) := by
        refine upto ?_ ?_
        · rw [l97_1, List.drop_length, rootS]
          simp -implicitDefEqProofs only [evs, Nat.reduceAdd, reduceIte, h5, ih]
        · intro j hj ihj
          have hltj : (j : Int) < ((rs.length : Nat) : Int) := by omega
          have h5j := add_one hj (by show rs.length ≤ 9223372036854775807; omega)
          obtain ⟨hr2, hr3, hr4⟩ := hr.2 rs[j] (List.getElem_mem _)
          obtain ⟨i0, i1⟩ := rule_args hr2
          have ad : pAdd (.elt (tcells rs[j]) 0) 1 = some (.elt (tcells rs[j]) 1) := by rw [pAdd_elt]
          have lp : pLoadP (.elt (tcells rs[j]) 1) = some (tms rs[j].args) := by rw [tcells_eq]; rfl
          have q := l4Match0_eq (lhsT rs[j]) hr3.tz (atT P[i] t) [] hs.tz (fun q hq => by cases hq) (by have := hr3.2; simp; omega)
          rw [l97_1, drop_cons hj, rootS]
          cases hm : mt [] (lhsT rs[j]) (atT P[i] t) with
          | none =>
            rw [hm] at q
            obtain ⟨R, q⟩ := q
            have q : C135_0 (tm (lhsT rs[j])) (sv (atT P[i] t).name) (tms (atT P[i] t).args) [] = some (.top, [vb false, .sl 259 R]) := q
            simp -implicitDefEqProofs only [evs, Nat.reduceAdd, reduceIte, hltj, pIndexAddr_map hj, ad, lp, i0, pLoadN_tcells, q, List.getElem?_cons_zero, h5j, ihj]
          | some m =>
            rw [hm] at q
            have q : C135_0 (tm (lhsT rs[j])) (sv (atT P[i] t).name) (tms (atT P[i] t).args) [] = some (.top, [vb true, .sl 259 (m.map bc)]) := q
            have hM := mt_vs hs hm
            obtain ⟨_, hml⟩ := mt_inv (p := Vs) (fun _ h => h.args) _ (m := []) (fun q hq => by cases hq) hs hm
            have hml : m.length ≤ 30 := by have := hr3.2; simp at hml; omega
            have p1 := pairs_eq m (fun q hq => (hM.2 q hq).2.tz) (by omega)
            have hsz : Sz 1048576 (pairsS m) := by
              refine ⟨?_, fun q hq => ?_⟩
              · have := foldl_len m []
                show (pairsS m).length ≤ _
                unfold pairsS
                simp at this
                omega
              · have hq := pairs_mem hq
                have := varN_len (hM.2 q hq).1
                have := (hM.2 q hq).2.tz
                unfold Tz at this
                exact ⟨by omega, by omega⟩
            have p2 := l4Apply_eq (pairsS m) hsz (rhsT rs[j]) hr4.tz
            rw [sub_pairs (m := m) ⟨hM.1, fun q hq => ⟨(hM.2 q hq).1, (hM.2 q hq).2.1⟩⟩] at p2
            obtain ⟨_, _, s3⟩ := sub_vs hM hr4
            have p3 := with_eq (sub m (rhsT rs[j])) s3 P[i] t hrt ho (by omega)
            show _ = some (A.tup [tm (withT (sub m (rhsT rs[j])) P[i] t), vb true], [])
            simp -implicitDefEqProofs only [evs, Nat.reduceAdd, reduceIte, hltj, pIndexAddr_map hj, ad, lp, i0, i1, pLoadN_tcells, q, List.getElem?_cons_zero, hpi, p1, p2, p3]
      have inner := inner 0 (Nat.zero_le _)
      simp only [List.drop_zero, Int.natCast_zero] at inner
      have fin : L97_0 (tms rs) (vb root) (.sl 1 (P.map plc)) (vi i) (sv t.name) (tms t.args) (sv []) [] = L97_1 (tms rs) (vb root) (.sl 1 (P.map plc)) (vi i) (vi 0) (sv t.name) (tms t.args) (sv []) (sv (atT P[i] t).name) (tms (atT P[i] t).args) [] := by
        rw [l97_0]
        cases root with
        | true =>
          by_cases c : (((P[i]).length : Nat) : Int) = 0
          · simp -implicitDefEqProofs only [evs, Nat.reduceAdd, reduceIte, hlt, hpi, hpl, c, e1]
          · simp -implicitDefEqProofs only [evs, Nat.reduceAdd, reduceIte, hlt, hpi, hpl, c, e1]
        | false =>
          have c : ¬ (((P[i]).length : Nat) : Int) = 0 := fun c => hc ⟨List.length_eq_zero_iff.1 (by omega), rfl⟩
          simp -implicitDefEqProofs only [evs, Nat.reduceAdd, reduceIte, hlt, hpi, hpl, c, e1]
      rw [fin, inner]
      cases rootS rs (atT P[i] t) with
      | none => rfl
      | some v => rfl

def outI (o : Option T) : Option Out := match o with | some u => some (.tup [tm u, vb true], []) | none => some (.tup [.agg [sv [], .sl 2 []], vb false], [])
theorem once_implG (rs : List T) (hr : RS rs) : ∀ (t : T) (root : Bool), Tz t → (∀ u ∈ t.args, Vs u) → (root = true → Vs t ∨ ∀ r ∈ rs, mt [] (lhsT r) t = none) → G 102 [tm t, tms rs, vb root] = outI (once rs root t) := by
  refine T.ind fun t ih root ht hA hRt => ?_
  have hs := ht
  unfold Tz at hs
  rw [tsz_eq] at hs
  have hr1 := hr.1
  have second : L102_1 (vb root) (tms rs) (vi (rs.length : Nat)) (vi 0) (sv t.name) (tms t.args) (sv []) [] = outI (if root then rootS rs t else none) := by
    have key := upto (P := fun j => L102_1 (vb root) (tms rs) (vi (rs.length : Nat)) (vi j) (sv t.name) (tms t.args) (sv []) [] = outI (if root then rootS (rs.drop j) t else none)) (n := rs.length) ?_ ?_ 0 (Nat.zero_le _)
    · exact key
    · rw [l102_1, List.drop_length, rootS, ite_self]
      show _ = some (A.tup [.agg [sv [], .sl 2 []], vb false], [])
      simp -implicitDefEqProofs only [evs, Nat.reduceAdd, reduceIte, ]
    · intro j hj ihj
      have hltj : (j : Int) < ((rs.length : Nat) : Int) := by omega
      have h5j := add_one hj (by show rs.length ≤ 9223372036854775807; omega)
      obtain ⟨hr2, hr3, hr4⟩ := hr.2 rs[j] (List.getElem_mem _)
      obtain ⟨i0, i1⟩ := rule_args hr2
      rw [l102_1, drop_cons hj, rootS]
      cases root with
      | false =>
        simp -implicitDefEqProofs only [evs, Nat.reduceAdd, reduceIte, hltj, pIndexAddr_map hj, pLoadN_tcells, h5j, ihj]
      | true =>
        have q := match0_eq (lhsT rs[j]) hr3.tz hr3.1 t [] ht (fun q hq => by cases hq)
        cases hm : mt [] (lhsT rs[j]) t with
        | none =>
          rw [hm] at q
          obtain ⟨R, q⟩ := q
          have q : C140_0 (tm (lhsT rs[j])) (sv t.name) (tms t.args) [] = some (.top, [vb false, .sl 128 R]) := q
          simp -implicitDefEqProofs only [evs, Nat.reduceAdd, reduceIte, hltj, pIndexAddr_map hj, i0, pLoadN_tcells, q, List.getElem?_cons_zero, h5j, ihj]
        | some m =>
          rw [hm] at q
          have q : C140_0 (tm (lhsT rs[j])) (sv t.name) (tms t.args) [] = some (.top, [vb true, .sl 128 (m.map kv)]) := q
          have hM := (match hRt rfl with | Or.inl hv => mt_vs hv hm | Or.inr hno => by rw [hno _ (List.getElem_mem _)] at hm; cases hm)
          have p1 := replace_eq (m := m) (fun q hq => (hM.2 q hq).1) (fun q hq => (hM.2 q hq).2.tz) (rhsT rs[j]) hr4.tz hr4.1
          show _ = some (A.tup [tm (sub m (rhsT rs[j])), vb true], [])
          simp -implicitDefEqProofs only [evs, Nat.reduceAdd, reduceIte, hltj, pIndexAddr_map hj, i0, i1, pLoadN_tcells, q, List.getElem?_cons_zero, p1]
  have first : ∀ i, i ≤ t.args.length → L102_0 (tms rs) (vb root) (tms t.args) (vi (t.args.length : Nat)) (vi i) (sv t.name) (tms t.args) (sv []) [] = (match onceL rs (t.args.drop i) with | some us => outI (some (.mk t.name (t.args.take i ++ us))) | none => outI (if root then rootS rs t else none)) := by
    refine upto ?_ ?_
    · rw [l102_0, List.drop_length, onceL]
      simp -implicitDefEqProofs only [evs, Nat.reduceAdd, reduceIte, second]
    · intro i hi ih2
      have hlt : (i : Int) < ((t.args.length : Nat) : Int) := by omega
      have h5 := add_one hi (by show t.args.length ≤ 9223372036854775807; omega)
      have hu : t.args[i] ∈ t.args := List.getElem_mem _
      have hv := hA _ hu
      have e1 := ih t.args[i] hu true hv.tz hv.args fun _ => Or.inl hv
      rw [l102_0, drop_cons hi, onceL]
      cases ho : once rs true t.args[i] with
      | none =>
        rw [ho] at e1
        have e1 : G 102 [tm t.args[i], tms rs, vb true] = some (.tup [.agg [sv [], .sl 2 []], vb false], []) := e1
        simp -implicitDefEqProofs only [evs, Nat.reduceAdd, reduceIte, hlt, pIndexAddr_map hi, pLoadN_tcells, e1, h5, ih2]
        cases onceL rs (t.args.drop (i + 1)) with
        | none => rfl
        | some us =>
          show outI (some (.mk t.name (t.args.take (i + 1) ++ us))) = outI (some (.mk t.name (t.args.take i ++ t.args[i] :: us)))
          have e : t.args.take (i + 1) ++ us = t.args.take i ++ t.args[i] :: us := by
            rw [List.take_add_one, List.getElem?_eq_getElem hi, List.append_assoc]
            rfl
          rw [e]
      | some u =>
        rw [ho] at e1
        have e1 : G 102 [tm t.args[i], tms rs, vb true] = some (.tup [tm u, vb true], []) := e1
        have e2 := copyTermC_eq t ht
        have ix : pIx t.args.length (vi (i : Nat)) = some i := pIx_lt hi
        have rg : rGet (t.args.map tcells) i = some (tcells t.args[i]) := by unfold rGet; simp [hi]
        have co : cOver (tcells t.args[i]) 0 [sv u.name, tms u.args] = tcells u := by rw [tcells_eq, tcells_eq]; rfl
        have rs' : rSet (t.args.map tcells) i (tcells u) = (t.args.take i ++ u :: t.args.drop (i + 1)).map tcells := by
          unfold rSet
          rw [← List.map_set, List.set_eq_take_append_cons_drop, if_pos hi]
        show _ = some (A.tup [tm (.mk t.name (t.args.take i ++ u :: t.args.drop (i + 1))), vb true], [])
        simp -implicitDefEqProofs only [evs, Nat.reduceAdd, reduceIte, hlt, pIndexAddr_map hi, pLoadN_tcells, e1, e2, ix, rg, co, rs', List.getElem?_cons_zero]
        rfl
  have first := first 0 (Nat.zero_le _)
  simp only [List.drop_zero, Int.natCast_zero, List.take_zero, List.nil_append] at first
  rw [g102, once_eq]
  simp -implicitDefEqProofs only [evs, Nat.reduceAdd, reduceIte, first]
  cases onceL rs t.args <;> rfl
theorem once_impl (rs : List T) (hr : RS rs) (t : T) (root : Bool) (h : EX root t) : G 102 [tm t, tms rs, vb root] = outI (once rs root t) := once_implG rs hr t root h.1.2 h.2.1 fun e => Or.inl (h.2.2 e)
end Go.Proofs.YtnbjmmldjggkfaaGreat
/- RULES: the symbols of a term; both sides' standard ordering. -/
namespace Go.Proofs.YtnbjmmldjggkfaaGreat
open Go Go.RowKit Go.Proofs.YtnbjmmldjggkfaaGreat.Abs

set_option linter.unusedSimpArgs false
set_option linter.unusedVariables false
set_option maxHeartbeats 1000000

/-! ### Rising lists of names -/
/-- Strictly rising. -/
def Srt (l : List (List UInt8)) : Prop := l.Pairwise fun x y => x < y
theorem sLt_eq (x y : List UInt8) : sLt x y = decide (x < y) := Go.Proofs.bytesLess_eq x y
theorem lt_tri {x y : List UInt8} (h1 : ¬ x < y) (h2 : x ≠ y) : y < x := by
  have h3 : y ≤ x := List.not_lt.1 h1
  exact Std.lt_of_le_of_ne h3 (Ne.symm h2)
theorem srt_ext : ∀ (a b : List (List UInt8)), Srt a → Srt b → (∀ n, n ∈ a ↔ n ∈ b) → a = b
  | [], [], _, _, _ => rfl
  | [], y :: b, _, _, h => by have := (h y).2 (by simp); cases this
  | x :: a, [], _, _, h => by have := (h x).1 (by simp); cases this
  | x :: a, y :: b, ha, hb, h => by
    have ha' := List.pairwise_cons.1 ha
    have hb' := List.pairwise_cons.1 hb
    have hxy : x = y := by
      have h1 : x ∈ y :: b := (h x).1 (by simp)
      have h2 : y ∈ x :: a := (h y).2 (by simp)
      rcases List.mem_cons.1 h1 with h1 | h1
      · exact h1
      · rcases List.mem_cons.1 h2 with h2 | h2
        · exact h2.symm
        · exact absurd (List.lt_trans (ha'.1 y h2) (hb'.1 x h1)) (List.lt_irrefl x)
    subst hxy
    refine congrArg (x :: ·) (srt_ext a b ha'.2 hb'.2 fun n => ⟨fun hn => ?_, fun hn => ?_⟩)
    · rcases List.mem_cons.1 ((h n).1 (List.mem_cons_of_mem _ hn)) with e | e
      · subst e; exact absurd (ha'.1 _ hn) (List.lt_irrefl _)
      · exact e
    · rcases List.mem_cons.1 ((h n).2 (List.mem_cons_of_mem _ hn)) with e | e
      · subst e; exact absurd (hb'.1 _ hn) (List.lt_irrefl _)
      · exact e
theorem srt_sort {l : List (List UInt8)} (h : l.Nodup) : Srt (sortB l) := by
  have h1 : (sortB l).Pairwise fun x y => decide (x ≤ y) = true := List.pairwise_mergeSort (fun a b c h1 h2 => by simp only [decide_eq_true_eq] at *; exact List.le_trans h1 h2) (fun a b => by simp only [Bool.or_eq_true, decide_eq_true_eq]; exact List.le_total a b) l
  have h2 : (sortB l).Nodup := (List.mergeSort_perm l _).nodup_iff.2 h
  exact (h1.and h2).imp fun {x y} hxy => Std.lt_of_le_of_ne (by simpa using hxy.1) hxy.2
theorem srt_put {l : List (List UInt8)} {s : List UInt8} {i : Nat} (hl : Srt l) (h1 : ∀ x ∈ l.take i, x < s) (h2 : ∀ h : i < l.length, s < l[i]) : Srt (l.take i ++ [s] ++ l.drop i) := by
  have hl' : Srt (l.take i ++ l.drop i) := by rw [List.take_append_drop]; exact hl
  obtain ⟨p1, p2, p3⟩ := List.pairwise_append.1 hl'
  have h3 : ∀ y ∈ l.drop i, s < y := by
    intro y hy
    have hlt : i < l.length := by
      rcases Nat.lt_or_ge i l.length with h | h
      · exact h
      · rw [List.drop_of_length_le h] at hy; cases hy
    rw [List.drop_eq_getElem_cons hlt] at hy p2
    rcases List.mem_cons.1 hy with e | e
    · subst e; exact h2 hlt
    · exact List.lt_trans (h2 hlt) ((List.pairwise_cons.1 p2).1 y e)
  refine List.pairwise_append.2 ⟨List.pairwise_append.2 ⟨p1, by simp, fun a ha b hb => ?_⟩, p2, fun a ha b hb => ?_⟩
  · rw [List.mem_singleton.1 hb]; exact h1 a ha
  · rcases List.mem_append.1 ha with ha | ha
    · exact p3 a ha b hb
    · rw [List.mem_singleton.1 ha]; exact h3 b hb
theorem srt_nodup {l : List (List UInt8)} (h : Srt l) : l.Nodup := h.imp fun {x y} hxy e => by subst e; exact List.lt_irrefl _ hxy

/-! ### Symbols of a term -/
mutual
def symsT : T → List (List UInt8)
  | .mk n us => (if varN n then [] else [n]) ++ symsTL us
def symsTL : List T → List (List UInt8)
  | [] => []
  | t :: ts => symsT t ++ symsTL ts
end
theorem symsT_eq (t : T) : symsT t = (if varN t.name then [] else [t.name]) ++ symsTL t.args := by cases t; rfl

theorem l2Put_srt (l : List (List UInt8)) (s : List UInt8) (hl : l.length ≤ 2100000) : ∃ r, G 156 [strs l, sv s] = some (strs r, []) ∧ Coll l [s] 1 r ∧ (Srt l → Srt r) := by
  have key := upto (P := fun i => (Srt l → ∀ x ∈ l.take i, x < s) → ∃ r, L156_0 (strs l) (sv s) (vi i) = some (strs r, []) ∧ Coll l [s] 1 r ∧ (Srt l → Srt r)) (n := l.length) ?_ ?_ 0 (Nat.zero_le _)
  · simp only [Int.natCast_zero] at key
    rw [g156]
    exact key (by simp)
  · intro hless
    have hx : ¬ ((l.length : Nat) : Int) < ((l.length : Nat) : Int) := Int.lt_irrefl _
    have s1 : pSlice 1 (strs l) none (some (vi (l.length : Nat))) = some (strs l) := by rw [pSlice_take (by simp), List.take_of_length_le (by simp)]
    have s2 : pSlice 1 (strs l) (some (vi (l.length : Nat))) none = some (.sl 1 []) := by rw [pSlice_drop (by simp), List.drop_of_length_le (by simp)]
    have f1 : pFit l.length 16 = true := pFit_ok (by omega)
    have f2 : pFit (l.length + 1) 16 = true := pFit_ok (by omega)
    have happ : rApp (rApp (l.map cs) [[sv s]]) [] = (l ++ [s]).map cs := by simp [rApp]
    have hlen : (rApp (l.map cs) [[sv s]]).length = l.length + 1 := by simp [rApp]
    refine ⟨l ++ [s], ?_, ⟨by intro n; simp, by simp⟩, fun h => ?_⟩
    · rw [l156_0]
      simp -implicitDefEqProofs only [evs, Nat.reduceAdd, reduceIte, hx, s1, s2, f1, f2, hlen, happ, Nat.add_zero]
    · have := srt_put (s := s) (i := l.length) h (hless h) (fun h => absurd h (Nat.lt_irrefl _))
      simpa using this
  · intro i hi ih hless
    have hlt : (i : Int) < ((l.length : Nat) : Int) := by omega
    have h5 := add_one hi (by omega)
    rw [l156_0]
    cases h1 : sLt l[i] s
    · by_cases h2 : l[i] = s
      · refine ⟨l, ?_, ⟨fun n => ⟨fun h => Or.inl h, fun h => by
          rcases h with h | h
          · exact h
          · simp at h; rw [h, ← h2]; exact List.getElem_mem _⟩, by omega⟩, id⟩
        rw [h2] at h1
        simp -implicitDefEqProofs only [evs, Nat.reduceAdd, reduceIte, hlt, pIndexAddr_map hi, h2, h1]
      · have s1 : pSlice 1 (strs l) none (some (vi i)) = some (strs (l.take i)) := by rw [pSlice_take (by simp; omega), ← List.map_take]
        have s2 : pSlice 1 (strs l) (some (vi i)) none = some (strs (l.drop i)) := by rw [pSlice_drop (by simp; omega), ← List.map_drop]
        have ht : (l.take i).length = i := by rw [List.length_take]; omega
        have f1 : pFit i 16 = true := pFit_ok (by omega)
        have f2 : pFit (i + 1) 16 = true := pFit_ok (by omega)
        have f3 : pFit (i + 1 + (l.drop i).length) 16 = true := pFit_ok (by rw [List.length_drop]; omega)
        have happ : rApp (rApp ((l.take i).map cs) [[sv s]]) ((l.drop i).map cs) = (l.take i ++ [s] ++ l.drop i).map cs := by simp [rApp]
        have hlen : (rApp ((l.take i).map cs) [[sv s]]).length = i + 1 := by simp [rApp]; omega
        refine ⟨l.take i ++ [s] ++ l.drop i, ?_, ⟨fun n => ?_, by simp; omega⟩, fun h => ?_⟩
        · simp -implicitDefEqProofs only [evs, Nat.reduceAdd, reduceIte, hlt, pIndexAddr_map hi, h1, h2, s1, s2, ht, f1, f2, f3, hlen, happ]
        · have hm : n ∈ l ↔ n ∈ l.take i ∨ n ∈ l.drop i := by rw [← List.mem_append, List.take_append_drop]
          simp only [List.mem_append, List.mem_singleton, hm]
          exact ⟨fun h => by rcases h with (h | h) | h <;> simp [h], fun h => by rcases h with (h | h) | h <;> simp [h]⟩
        · rw [sLt_eq, decide_eq_false_iff_not] at h1
          exact srt_put h (hless h) fun _ => lt_tri h1 h2
    · have hx : l[i] < s := by rw [sLt_eq, decide_eq_true_eq] at h1; exact h1
      obtain ⟨r, e, c⟩ := ih fun h x hm => by
        rw [List.take_succ_eq_append_getElem hi] at hm
        rcases List.mem_append.1 hm with hm | hm
        · exact hless h x hm
        · rw [List.mem_singleton.1 hm]; exact hx
      refine ⟨r, ?_, c⟩
      simp -implicitDefEqProofs only [evs, Nat.reduceAdd, reduceIte, hlt, pIndexAddr_map hi, h1, h5, e]

theorem l12Names_eq : ∀ t : T, twf t → ∀ l : List (List UInt8), l.length + nodes t ≤ 2100000 → ∃ r, G 151 [strs l, tm t] = some (strs r, []) ∧ Coll l (symsT t) (nodes t) r ∧ (Srt l → Srt r) := by
  refine T.ind fun t ih hw l hb => ?_
  obtain ⟨w1, w2, w3⟩ := (twf_eq t).1 hw
  have w3 := (twfL_iff _).1 w3
  have e1 := l2Var_eq t.name w1
  rw [g151, symsT_eq]
  rw [nodes_eq] at hb ⊢
  have key := upto (P := fun i => ∀ l : List (List UInt8), l.length + nodesL (t.args.drop i) ≤ 2100000 → ∃ r, L151_0 (strs l) (vi i) (sv t.name) (tms t.args) = some (strs r, []) ∧ Coll l (symsTL (t.args.drop i)) (nodesL (t.args.drop i)) r ∧ (Srt l → Srt r)) (n := t.args.length) ?_ ?_ 0 (Nat.zero_le _)
  · simp only [Int.natCast_zero, List.drop_zero] at key
    cases hv : varN t.name <;> rw [hv] at e1
    · obtain ⟨r0, e0, ⟨b1, b2⟩, b3⟩ := l2Put_srt l t.name (by omega)
      obtain ⟨r, e, ⟨c1, c2⟩, c3⟩ := key r0 (by omega)
      refine ⟨r, ?_, ⟨fun n => ?_, by omega⟩, fun h => c3 (b3 h)⟩
      · simp -implicitDefEqProofs only [evs, Nat.reduceAdd, reduceIte, e1, e0, e]
      · rw [c1, b1]
        simp only [Bool.false_eq_true, if_false, List.mem_append]
        exact or_assoc
    · obtain ⟨r, e, ⟨c1, c2⟩, c3⟩ := key l (by omega)
      refine ⟨r, ?_, ⟨by simpa using c1, by omega⟩, c3⟩
      simp -implicitDefEqProofs only [evs, Nat.reduceAdd, reduceIte, e1, e]
  · intro l hb
    rw [l151_0, List.drop_length]
    refine ⟨l, ?_, ⟨by simp [symsTL], by omega⟩, id⟩
    simp -implicitDefEqProofs only [evs, Nat.reduceAdd, reduceIte]
  · intro i hi ih' l hb
    have hlt : (i : Int) < ((t.args.length : Nat) : Int) := by omega
    have h5 := add_one hi w2
    rw [drop_cons hi] at hb ⊢
    simp only [nodesL, symsTL] at hb ⊢
    obtain ⟨r1, a1, ⟨c1, c2⟩, c3⟩ := ih t.args[i] (List.getElem_mem _) (w3 _ (List.getElem_mem _)) l (by omega)
    obtain ⟨r2, a2, ⟨d1, d2⟩, d3⟩ := ih' r1 (by omega)
    rw [l151_0]
    refine ⟨r2, ?_, ⟨fun n => ?_, by omega⟩, fun h => d3 (c3 h)⟩
    · simp -implicitDefEqProofs only [evs, Nat.reduceAdd, reduceIte, hlt, pIndexAddr_map hi, pLoadN_tcells, a1, h5, a2]
    · rw [d1, c1, List.mem_append]
      exact or_assoc

theorem sym_of_var {n : List UInt8} (h : varN n = true) : symN n = false := by
  cases n with
  | nil => rfl
  | cons c r =>
    simp only [varN, Bool.and_eq_true, upc, inB, decide_eq_true_eq] at h
    have : lowc c = false := by unfold lowc inB; rw [Bool.and_eq_false_iff]; left; rw [decide_eq_false_iff_not]; omega
    simp [symN, this]
theorem sym_name {t : T} (h : okT t = true) : symN t.name = !varN t.name := by
  obtain ⟨c, r, _, hv, hs⟩ := okT_name h
  cases hx : varN t.name
  · rw [hv] at hx; rw [hs hx]; rfl
  · rw [sym_of_var hx]; rfl

/-- What collecting symbols comes to. -/
def CollN (l vs : List (List UInt8)) (k : Nat) (r : List (List UInt8)) : Prop := Coll l vs k r ∧ (l.Nodup → r.Nodup)

theorem symbolsOf_loop (ts : List T) (hl : ts.length ≤ 9223372036854775807) (ih : ∀ t ∈ ts, ∀ l : List (List UInt8), l.length + nodes t ≤ 2100000 → ∃ r, C154_0 (sv t.name) (tms t.args) (l.map cs) = some (.top, [strs r]) ∧ CollN l (symsT t) (nodes t) r) :
    ∀ i, i ≤ ts.length → ∀ l : List (List UInt8), l.length + nodesL (ts.drop i) ≤ 2100000 → ∃ r, L154c0_0 (tms ts) (vi (ts.length : Nat)) (vi i) (l.map cs) = some (.top, [strs r]) ∧ CollN l (symsTL (ts.drop i)) (nodesL (ts.drop i)) r := by
  refine upto ?_ ?_
  · intro l hb
    rw [l154c0_0, List.drop_length]
    refine ⟨l, ?_, ⟨by simp [symsTL], by omega⟩, id⟩
    simp -implicitDefEqProofs only [evs, Nat.reduceAdd, reduceIte]
  · intro i hi ih' l hb
    have hlt : (i : Int) < ((ts.length : Nat) : Int) := by omega
    have h5 := add_one hi hl
    rw [drop_cons hi] at hb ⊢
    simp only [nodesL, symsTL] at hb ⊢
    obtain ⟨r1, e1, ⟨c1, c2⟩, c3⟩ := ih ts[i] (List.getElem_mem _) l (by omega)
    obtain ⟨r2, e2, ⟨d1, d2⟩, d3⟩ := ih' r1 (by omega)
    rw [l154c0_0]
    refine ⟨r2, ?_, ⟨fun n => ?_, by omega⟩, fun h => d3 (c3 h)⟩
    · simp -implicitDefEqProofs only [evs, Nat.reduceAdd, reduceIte, hlt, pIndexAddr_map hi, pLoadN_tcells, e1, h5, e2]
    · rw [d1, c1, List.mem_append]
      exact or_assoc

theorem symbolsOf_start (ts : List T) (hl : ts.length ≤ 9223372036854775807) (ih : ∀ t ∈ ts, ∀ l : List (List UInt8), l.length + nodes t ≤ 2100000 → ∃ r, C154_0 (sv t.name) (tms t.args) (l.map cs) = some (.top, [strs r]) ∧ CollN l (symsT t) (nodes t) r) (l : List (List UInt8)) (hb : l.length + nodesL ts ≤ 2100000) :
    ∃ r, L154c0_1 (tms ts) (vi (ts.length : Nat)) (vi 0) (l.map cs) = some (.top, [strs r]) ∧ CollN l (symsTL ts) (nodesL ts) r := by
  have loop := symbolsOf_loop ts hl ih
  rw [l154c0_1]
  by_cases h0 : ts.length = 0
  · have ha : ts = [] := List.length_eq_zero_iff.1 h0
    rw [ha]
    refine ⟨l, ?_, ⟨by simp [symsTL], by simp [nodesL]⟩, id⟩
    simp -implicitDefEqProofs only [evs, Nat.reduceAdd, reduceIte]
    rfl
  · have hi : 0 < ts.length := by omega
    have hlt : (0 : Int) < ((ts.length : Nat) : Int) := by omega
    have hix : pIndexAddr 2 (tms ts) (vi 0) = some (.elt (tcells ts[0]) 0) := pIndexAddr_map (i := 0) hi
    have h5 : pBin .add false (vi 0) (vi 1) = some (vi ((1 : Nat) : Int)) := by rw [pBin_add, ck_le (by decide) (by decide)]; rfl
    have hd : ts = ts[0] :: ts.drop 1 := by have := drop_cons hi; simpa using this
    have hns : nodesL ts = nodes ts[0] + nodesL (ts.drop 1) := by conv => lhs; rw [hd, nodesL]
    have hvs : symsTL ts = symsT ts[0] ++ symsTL (ts.drop 1) := by conv => lhs; rw [hd, symsTL]
    obtain ⟨r1, e1, ⟨c1, c2⟩, c3⟩ := ih ts[0] (List.getElem_mem _) l (by omega)
    obtain ⟨r2, e2, ⟨d1, d2⟩, d3⟩ := loop 1 (by omega) r1 (by omega)
    refine ⟨r2, ?_, ⟨fun n => ?_, by omega⟩, fun h => d3 (c3 h)⟩
    · simp -implicitDefEqProofs only [evs, Nat.reduceAdd, reduceIte, hlt, hix, pLoadN_tcells, e1, h5, e2]
    · rw [d1, c1, hvs, List.mem_append]
      exact or_assoc

theorem symbolsOf_eq : ∀ t : T, twf t → okT t = true → ∀ l : List (List UInt8), l.length + nodes t ≤ 2100000 → ∃ r, C154_0 (sv t.name) (tms t.args) (l.map cs) = some (.top, [strs r]) ∧ CollN l (symsT t) (nodes t) r := by
  refine T.ind fun t ih hw hk l hb => ?_
  obtain ⟨w1, w2, w3⟩ := (twf_eq t).1 hw
  have w3 := (twfL_iff _).1 w3
  have hks := okT_args hk
  have e1 := isSymbol_eq t.name w1
  have e2 := contains_strs l t.name (by omega)
  rw [sym_name hk] at e1
  rw [c154_0, symsT_eq]
  have ih' : ∀ u ∈ t.args, ∀ l : List (List UInt8), l.length + nodes u ≤ 2100000 → ∃ r, C154_0 (sv u.name) (tms u.args) (l.map cs) = some (.top, [strs r]) ∧ CollN l (symsT u) (nodes u) r := fun u hu => ih u hu (w3 u hu) (hks u hu)
  rw [nodes_eq] at hb ⊢
  cases hv : varN t.name <;> rw [hv] at e1
  · cases hc : l.contains t.name <;> rw [hc] at e2
    · have hn : ¬ t.name ∈ l := by simpa using hc
      obtain ⟨r, e, ⟨c1, c2⟩, c3⟩ := symbolsOf_loop t.args w2 ih' 0 (Nat.zero_le _) (l ++ [t.name]) (by simp; omega)
      simp only [Int.natCast_zero, List.drop_zero, List.length_append, List.length_singleton] at e c1 c2
      have happ : rApp (l.map cs) [[sv t.name]] = (l ++ [t.name]).map cs := by simp [rApp]
      have f1 : pFit (l.length + 1) 16 = true := pFit_ok (by omega)
      refine ⟨r, ?_, ⟨fun n => ?_, by omega⟩, fun h => c3 ?_⟩
      · simp -implicitDefEqProofs only [evs, Nat.reduceAdd, reduceIte, e1, e2, f1, happ, e]
      · rw [c1]
        simp only [Bool.false_eq_true, if_false, List.mem_append]
        exact or_assoc
      · exact List.nodup_append.2 ⟨h, by simp, fun a ha b hb e => by rw [List.mem_singleton.1 hb] at e; rw [e] at ha; exact hn ha⟩
    · have hn : t.name ∈ l := by simpa using hc
      obtain ⟨r, e, ⟨c1, c2⟩, c3⟩ := symbolsOf_start t.args w2 ih' l (by omega)
      refine ⟨r, ?_, ⟨fun n => ?_, by omega⟩, c3⟩
      · simp -implicitDefEqProofs only [evs, Nat.reduceAdd, reduceIte, e1, e2, e]
      · rw [c1]
        simp only [Bool.false_eq_true, if_false, List.mem_append, List.mem_singleton]
        exact ⟨fun h => by rcases h with h | h <;> simp [h], fun h => by
          rcases h with h | h | h
          · exact Or.inl h
          · exact Or.inl (h ▸ hn)
          · exact Or.inr h⟩
  · obtain ⟨r, e, ⟨c1, c2⟩, c3⟩ := symbolsOf_start t.args w2 ih' l (by omega)
    refine ⟨r, ?_, ⟨by simpa using c1, by omega⟩, c3⟩
    simp -implicitDefEqProofs only [evs, Nat.reduceAdd, reduceIte, e1, e]
end Go.Proofs.YtnbjmmldjggkfaaGreat
/- RULES: the standard ordering; IsRule. -/
namespace Go.Proofs.YtnbjmmldjggkfaaGreat
open Go Go.RowKit Go.Proofs.YtnbjmmldjggkfaaGreat.Abs

set_option linter.unusedSimpArgs false
set_option linter.unusedVariables false
set_option maxHeartbeats 1000000

theorem pFit_ok8 {n : Nat} (h : n ≤ 4000000) : pFit n 8 = true := by
  unfold pFit
  simp
  omega

theorem rep_mul (n : Nat) (h : n ≤ 12) : ((pConv .u64 (rLen [[vi 1]])).bind fun t2 => (pConv .u64 (vi n)).bind fun t3 => (G 161 [t2, t3]).bind (fin false)) = some (.tup [.val (.int .u64 0), .val (.int .u64 n)]) := by
  have c : (pConv .u64 (rLen [[vi 1]])) = some (.val (.int .u64 1)) := by kernel_rfl
  have d : pConv .u64 (vi n) = some (.val (.int .u64 n)) := by
    rcases n with _|_|_|_|_|_|_|_|_|_|_|_|_|n
    rotate_right
    · omega
    all_goals kernel_rfl
  rw [c, d]
  simp only [Option.bind_some]
  rw [g161, g174]
  clear c d
  rcases n with _|_|_|_|_|_|_|_|_|_|_|_|_|n
  rotate_right
  · omega
  all_goals (show _ = _; kernel_rfl)

theorem drop_rep {α : Type} {a b : α} {i j k : Nat} (h : i ≤ k) : (List.replicate i a ++ List.replicate j b).drop k = List.replicate (j - (k - i)) b := by
  rw [List.drop_append, List.drop_replicate, List.drop_replicate, List.length_replicate, show i - k = 0 by omega]
  rfl

theorem rep_loop {n : Nat} (hn : n ≤ 12) (r1 : List (List A)) : ∀ (f j : Nat), n - j ≤ f → 1 ≤ j → j ≤ n →
    L155c0_0 (vi (j : Nat)) (List.replicate j [vi 1] ++ List.replicate (n - j) [vi 0]) r1 = some (.top, [.sl 1 (List.replicate n [vi 1])]) := by
  intro f
  induction f with
  | zero =>
    intro j h1 h2 h3
    have : j = n := by omega
    subst this
    rw [l155c0_0]
    simp -implicitDefEqProofs only [evs, Nat.reduceAdd, reduceIte, List.length_append, List.length_replicate, Nat.sub_self, List.replicate_zero, List.append_nil]
  | succ f ih =>
    intro j h1 h2 h3
    by_cases hj : j = n
    · subst hj
      rw [l155c0_0]
      simp -implicitDefEqProofs only [evs, Nat.reduceAdd, reduceIte, List.length_append, List.length_replicate, Nat.sub_self, List.replicate_zero, List.append_nil]
    · rw [l155c0_0]
      have hl : (List.replicate j [vi 1] ++ List.replicate (n - j) [vi 0]).length = n := by simp; omega
      have e1 : decide ((j : Int) < (n : Int)) = true := by simp; omega
      have hm : j + min j (n - j) ≤ n := by omega
      have e2 : pBin .add false (vi j) (vi (min j (n - j) : Nat)) = some (vi (j + min j (n - j) : Nat)) := by
        rw [pBin_add, ck_le (by omega) (by omega)]; rfl
      have ew : (((List.replicate j [vi 1] ++ List.replicate (n - j) [vi 0]).drop 0).take j) = List.replicate j [vi 1] := by
        rw [List.drop_zero, List.take_append_of_le_length (by simp), List.take_of_length_le (by simp)]
      have eo : rOver (List.replicate j [vi 1] ++ List.replicate (n - j) [vi 0]) (0 + j) ((List.replicate j [vi 1]).take (n - j)) = List.replicate (j + min j (n - j)) [vi 1] ++ List.replicate (n - (j + min j (n - j))) [vi 0] := by
        rw [rOver_eq, Nat.zero_add, List.take_append_of_le_length (by simp), List.take_of_length_le (by simp), List.take_replicate, List.length_replicate, drop_rep]
        · rw [List.replicate_append_replicate, Nat.min_comm (n - j) j]
          congr 2
          omega
        · omega
      have key := ih (j + min j (n - j)) (by omega) (by omega) hm
      simp only [rLen_eq, rCnt_eq, rRem_eq, hl, pBin_lss, Option.bind_some, pBool_vb, e1, brn_true, Nat.sub_zero, pB_none_le (Nat.le_refl n), pB_le h3, rWin_eq, nSub_eq, ew, rMin_eq, rTake_eq, List.length_replicate, e2, eo, key]

theorem rep_eq {n : Nat} (h : n ≤ 12) : C155_0 (vi (n : Nat)) [[vi 1]] = some (.top, [.sl 1 (List.replicate n [vi 1])]) := by
  rw [c155_0]
  have e0 : decide ((n : Int) < 0) = false := by simp
  have em := rep_mul n h
  have eg : decide ((0 : Int) < 0) = false := by simp
  have ec : pConv .i64 (A.val (.int .u64 n)) = some (vi n) := ck_le (by omega) (by omega)
  have ek : pBin .gtr false (A.val (.int .u64 n)) (A.val (.int .u64 9223372036854775807)) = some (vb false) := by
    show some (vb (decide ((9223372036854775807 : Int) < n))) = _
    rw [decide_eq_false (by omega)]
  have ek0 : pBin .gtr false (A.val (.int .u64 0)) (A.val (.int .u64 0)) = some (vb false) := rfl
  have emk : pMake 8 (vi n) (vi n) = some n := by
    show (if FitM 8 (n : Int) (n : Int) then some (n : Int).toNat else none) = _
    rw [if_pos ⟨by omega, by omega, by omega, by omega⟩]; rfl
  have hm : ∀ (k : A → A → Option Out), ((pConv .u64 (rLen [[vi 1]])).bind fun t2 => (pConv .u64 (vi n)).bind fun t3 => ((G 161 [t2, t3]).bind (fin false)).bind fun t4 => (pTup t4 0).bind fun t5 => (pTup t4 1).bind fun t6 => k t5 t6) =
      k (.val (.int .u64 0)) (.val (.int .u64 n)) := by
    intro k
    have : ((pConv .u64 (rLen [[vi 1]])).bind fun t2 => (pConv .u64 (vi n)).bind fun t3 => ((G 161 [t2, t3]).bind (fin false)).bind fun t4 => (pTup t4 0).bind fun t5 => (pTup t4 1).bind fun t6 => k t5 t6) =
        (((pConv .u64 (rLen [[vi 1]])).bind fun t2 => (pConv .u64 (vi n)).bind fun t3 => (G 161 [t2, t3]).bind (fin false)).bind fun t4 => (pTup t4 0).bind fun t5 => (pTup t4 1).bind fun t6 => k t5 t6) := by
      simp only [Option.bind_assoc]
    rw [this, em]; rfl
  rw [pBin_lss, e0]
  simp only [Option.bind_some, pBool_vb, brn_false]
  rw [hm]
  simp only [ek0, ek, Option.bind_some, pG_vb, if_true, pPick_vb, Bool.false_eq_true, if_false, pBool_vb, brn_false, ec, emk, rRep, rCnt_eq, List.length_replicate]
  rcases n with _ | n
  · have e1 : rMin [[vi 1]] 0 = vi ((0 : Nat) : Int) := rfl
    have e2 : rOver (List.replicate 0 [vi 0]) 0 (rTake [[vi 1]] 0) = [] := rfl
    rw [e1, e2, l155c0_0]
    rfl
  · have key := rep_loop (n := n + 1) h [[vi 1]] (n + 1) 1 (by omega) (by omega) (by omega)
    have e1 : rMin [[vi 1]] (n + 1) = vi ((1 : Nat) : Int) := by
      rw [rMin_eq]
      have : min [[vi 1]].length (n + 1) = 1 := by simp
      rw [this]
    have e2 : rOver (List.replicate (n + 1) [vi 0]) 0 (rTake [[vi 1]] (n + 1)) = List.replicate 1 [vi 1] ++ List.replicate (n + 1 - 1) [vi 0] := by
      rw [rOver_eq, rTake_eq]
      simp [List.replicate_succ]
    rw [e1, e2]
    exact key

theorem symsTL_mem {ts : List T} {n : List UInt8} : n ∈ symsTL ts ↔ ∃ t ∈ ts, n ∈ symsT t := by
  induction ts with
  | nil => simp [symsTL]
  | cons t ts ih => simp [symsTL, ih]
theorem symsT_sym : ∀ t : T, okT t = true → ∀ n ∈ symsT t, symN n = true := by
  refine T.ind fun t ih hk n hn => ?_
  rw [symsT_eq, List.mem_append] at hn
  rcases hn with hn | hn
  · cases hv : varN t.name <;> rw [hv] at hn
    · simp at hn
      rw [hn, sym_name hk, hv]; rfl
    · simp at hn
  · obtain ⟨u, hu, hm⟩ := symsTL_mem.1 hn
    exact ih u hu (okT_args hk u hu) n hm
theorem cov_syms (l : List (List UInt8)) : ∀ t : T, (∀ n ∈ symsT t, n ∈ l) → covT l t = true := by
  refine T.ind fun t ih h => ?_
  rw [symsT_eq] at h
  rw [covT_eq, covTL_all, Bool.and_eq_true]
  refine ⟨?_, List.all_eq_true.2 fun u hu => ih u hu fun n hn => h n (List.mem_append_right _ (symsTL_mem.2 ⟨u, hu, hn⟩))⟩
  cases hv : varN t.name
  · rw [hv] at h
    rw [Bool.false_or]
    exact List.contains_iff_mem.2 (h t.name (by simp))
  · rfl

/-- The standard ordering over these symbols. -/
def stdO (r : List (List UInt8)) : Ord' := ⟨r, List.replicate r.length 1, 1⟩

theorem valid_std {r : List (List UInt8)} (h1 : 1 ≤ r.length) (h2 : r.length ≤ 12) (hs : ∀ n ∈ r, symN n = true) (hn : r.Nodup) : validO (stdO r) = true := by
  have hb : inB 1 12 (r.length : Nat) = true := by unfold inB; rw [Bool.and_eq_true, decide_eq_true_eq, decide_eq_true_eq]; omega
  unfold validO stdO
  simp only [hb, List.length_replicate, decide_true, Bool.true_and, Bool.and_eq_true]
  refine ⟨by decide, List.all_eq_true.2 fun i hi => ?_⟩
  have hi : i < r.length := List.mem_range.1 hi
  have g1 : r.getD i [] = r[i] := by simp [List.getD_eq_getElem?_getD, hi]
  have g2 : (List.replicate r.length (1 : Int)).getD i 0 = 1 := by simp [List.getD_eq_getElem?_getD, hi]
  unfold chkO
  simp only [g1, g2, hs _ (List.getElem_mem _), Bool.true_and, Bool.and_eq_true]
  refine ⟨?_, by decide⟩
  rw [Bool.not_eq_true', ← Bool.not_eq_true, List.contains_iff_mem]
  intro hm
  obtain ⟨j, hj, e⟩ := List.mem_take_iff_getElem.1 hm
  have := (List.nodup_iff_pairwise_ne.1 hn)
  have := List.pairwise_iff_getElem.1 this j i (by omega) hi (by omega)
  exact this e

theorem symN_len {n : List UInt8} (h : symN n = true) : n.length ≤ 6 := by
  cases n with
  | nil => simp
  | cons c r =>
    simp only [symN, Bool.and_eq_true, decide_eq_true_eq] at h
    simp only [List.length_cons]
    omega

theorem compareKBO_any (o : Ord') (s t : T) (hw : twf s) (hw' : twf t) (x y : Bool) (e5 : G 92 [od o, tm s, tm t] = some (vb x, [])) (e6 : G 92 [od o, tm t, tm s] = some (vb y, [])) : G 47 [od o, tm s, tm t] = some (vi (codeI (dq s t) x y), []) := by
  have e4 := equalTerms_eq s hw t hw'
  have c1 : G 91 [.elt (ocells o) 0, .elt [sv s.name, .sl 2 (s.args.map tcells)] 0, .elt [sv t.name, .sl 2 (t.args.map tcells)] 0] = some (vb x, []) := by
    rw [g91]
    simp -implicitDefEqProofs only [evs, Nat.reduceAdd, reduceIte, pLoadN_2, pLoadN_3, e5]
  have c2 : G 93 [.elt (ocells o) 0, .elt [sv t.name, .sl 2 (t.args.map tcells)] 0, .elt [sv s.name, .sl 2 (s.args.map tcells)] 0] = some (vb y, []) := by
    rw [g93]
    simp -implicitDefEqProofs only [evs, Nat.reduceAdd, reduceIte, pLoadN_2, pLoadN_3, e6]
  have e7 := ordered_eq (f := 91) (g := 93) rfl rfl (dq s t) _ _ c1 c2
  rw [g47]
  simp -implicitDefEqProofs only [evs, Nat.reduceAdd, reduceIte, e4, e7]

theorem var_args0 {t : T} (hk : okT t = true) (hv : varN t.name = true) : t.args = [] := by
  rw [okT_eq, hv, if_pos rfl] at hk
  exact List.isEmpty_iff.1 hk

theorem kbo_vars (o : Ord') (s t : T) (hw : twf s) (hw' : twf t) (hk : okT s = true) (hk' : okT t = true) (hv : varN s.name = true) (hv' : varN t.name = true) (hne : ¬ s.name = t.name) : G 92 [od o, tm s, tm t] = some (vb false, []) := by
  have as_ := var_args0 hk hv
  have at_ := var_args0 hk' hv'
  have ns : nodes s ≤ 1048577 := by rw [nodes_eq, as_]; simp [nodesL]
  have nt : nodes t ≤ 1048577 := by rw [nodes_eq, at_]; simp [nodesL]
  obtain ⟨r, er, c1, c2⟩ := variables_eq t hw' hk' nt
  have hvt : varsT t = [t.name] := by rw [varsT_eq, if_pos hv']
  have hpos : 0 < r.length := by
    rcases Nat.eq_zero_or_pos r.length with h | h
    · have hr : r = [] := List.length_eq_zero_iff.1 h
      have := (c1 t.name).2 (by rw [hvt]; simp)
      rw [hr] at this; cases this
    · exact h
  have h0 : r[0] = t.name := by
    have := (c1 r[0]).1 (List.getElem_mem _)
    rw [hvt] at this
    simpa using this
  have hlt : (0 : Int) < ((r.length : Nat) : Int) := by omega
  have hix : pIndexAddr 1 (strs r) (vi 0) = some (.elt (cs t.name) 0) := by have := pIndexAddr_map (k := 1) (f := cs) (i := 0) hpos; rw [h0] at this; exact this
  have a1 := countName_eq t.name s hw ns
  have a2 := countName_eq t.name t hw' nt
  have k1 : cnt t.name s = 0 := by rw [cnt_eq, as_, if_neg hne]; simp [cntL]
  have k2 : cnt t.name t = 1 := by rw [cnt_eq, at_]; simp [cntL]
  rw [k1] at a1
  rw [k2] at a2
  have h' : ((0 : Nat) : Int) < ((1 : Nat) : Int) := by omega
  rw [g92]
  simp -implicitDefEqProofs only [evs, Nat.reduceAdd, reduceIte, er]
  rw [l92_0]
  simp -implicitDefEqProofs only [evs, Nat.reduceAdd, reduceIte, hlt, hix, a1, a2, h']
end Go.Proofs.YtnbjmmldjggkfaaGreat
/- RULES: the standard ordering of two terms; IsRule. -/
namespace Go.Proofs.YtnbjmmldjggkfaaGreat
open Go Go.RowKit Go.Proofs.YtnbjmmldjggkfaaGreat.Abs

set_option linter.unusedSimpArgs false
set_option linter.unusedVariables false
set_option maxHeartbeats 1000000

theorem std_loop (a b : T) (r : List (List UInt8)) (hr : r.length ≤ 12) (x : Int) (ok : Bool) (e : G 152 [.agg [strs r, .sl 1 (List.replicate r.length [vi 1]), vi 1], tm a, tm b] = some (.tup [vi x, vb ok], [])) :
    L132_0 (vi 0) (sv a.name) (tms a.args) (sv b.name) (tms b.args) (strs r) (vi 1) [] = some (vi (if ok then x else 0), []) := by
  have key := upto (P := fun i => L132_0 (vi i) (sv a.name) (tms a.args) (sv b.name) (tms b.args) (strs r) (vi 1) (List.replicate i [vi 1]) = some (vi (if ok then x else 0), [])) (n := r.length) ?_ ?_ 0 (Nat.zero_le _)
  · simpa using key
  · rw [l132_0]
    have hf : fin true (A.tup [vi x, vb ok], []) = some (A.tup [vi x, vb ok]) := rfl
    cases ok
    · simp -implicitDefEqProofs only [evs, Nat.reduceAdd, reduceIte, e, hf]
    · simp -implicitDefEqProofs only [evs, Nat.reduceAdd, reduceIte, e, hf]
  · intro i hi ih
    have hlt : (i : Int) < ((r.length : Nat) : Int) := by omega
    have h5 := add_one hi (by omega)
    have f1 : pFit (i + 1) 8 = true := pFit_ok8 (by omega)
    have happ : rApp (List.replicate i [vi 1]) [[vi 1]] = List.replicate (i + 1) [vi 1] := by rw [List.replicate_succ']; rfl
    have hlen : (List.replicate i ([vi 1] : List A)).length = i := List.length_replicate
    rw [l132_0]
    simp -implicitDefEqProofs only [evs, Nat.reduceAdd, reduceIte, hlt, hlen, f1, h5, happ, ih]

theorem kp_fun {o : Ord'} (hv : validO o = true) {s t : T} (ks : okT s = true) (hc : covT o.syms t = true) (h : Kp o s t) : varN s.name = false := by
  cases hs : varN s.name with
  | false => rfl
  | true =>
    obtain ⟨_, h⟩ := (Kp_iff o s t).1 h
    rcases h with h | ⟨_, h, _⟩
    · have := wt_var hv hc
      rw [wt_eq o s, var_args0 ks hs, hs, if_pos rfl] at h
      simp only [wtL] at h
      omega
    · rw [hs] at h; cases h.1
theorem order_eq (a b : T) (hw : twf a) (hw' : twf b) (hs : tsz a ≤ 1048576) (hs' : tsz b ≤ 1048576) (hva : validT a = true) (hvb : validT b = true) :
    ∃ x : Int, G 132 [tm a, tm b] = some (vi x, []) ∧ G 139 [tm a, tm b] = some (vi x, []) ∧ (x = 2 → varN a.name = false) := by
  have hk : okT a = true := by unfold validT at hva; rw [Bool.and_eq_true] at hva; exact hva.2
  have hk' : okT b = true := by unfold validT at hvb; rw [Bool.and_eq_true] at hvb; exact hvb.2
  have na : nodes a ≤ 30 := by simp only [validT, smallT, Bool.and_eq_true, decide_eq_true_eq] at hva; exact hva.1.1
  have nb : nodes b ≤ 30 := by simp only [validT, smallT, Bool.and_eq_true, decide_eq_true_eq] at hvb; exact hvb.1.1
  have e1 := l2Same_eq a hw b hw'
  have e2 := equalTerms_eq a hw b hw'
  rw [g132, g139]
  cases hd : dq a b <;> rw [hd] at e1 e2
  rotate_left
  · exact ⟨1, by simp -implicitDefEqProofs only [evs, Nat.reduceAdd, reduceIte, e1], by simp -implicitDefEqProofs only [evs, Nat.reduceAdd, reduceIte, e2], fun h => absurd h (by decide)⟩
  obtain ⟨r1, f1, ⟨c1, c2⟩, c3⟩ := l12Names_eq a hw [] (by simp; omega)
  obtain ⟨r, f2, ⟨d1, d2⟩, d3⟩ := l12Names_eq b hw' r1 (by simp at c2; omega)
  have hsrt : Srt r := d3 (c3 List.Pairwise.nil)
  have hmem : ∀ n, n ∈ r ↔ n ∈ symsT a ∨ n ∈ symsT b := fun n => by rw [d1, c1]; simp
  have hlen : r.length ≤ 60 := by simp at c2; omega
  have f1 : G 151 [.sl 1 [], tm a] = some (strs r1, []) := f1
  obtain ⟨p1, g1, ⟨i1, i2⟩, i3⟩ := symbolsOf_eq a hw hk [] (by simp; omega)
  obtain ⟨p, g2, ⟨j1, j2⟩, j3⟩ := symbolsOf_eq b hw' hk' p1 (by simp at i2; omega)
  have hnd : p.Nodup := j3 (i3 List.nodup_nil)
  have hpm : ∀ n, n ∈ p ↔ n ∈ symsT a ∨ n ∈ symsT b := fun n => by rw [j1, i1]; simp
  have hsort : sortB p = r := srt_ext _ _ (srt_sort hnd) hsrt fun n => by rw [hmem, ← hpm]; unfold sortB; exact List.mem_mergeSort
  have hpl : p.length = r.length := by rw [← hsort]; simp [sortB]
  have g1 : C154_0 (sv a.name) (tms a.args) [] = some (.top, [strs p1]) := g1
  have g3 : C149_0 (p.map cs) = some (.top, [strs r]) := by
    rw [c149_0]
    simp only [sortX, strsOf_map]
    rw [if_pos (by omega), hsort]
  by_cases h12 : r.length ≤ 12
  rotate_left
  · have hgt : ((12 : Nat) : Int) < ((r.length : Nat) : Int) := by omega
    have hle : ¬ ((r.length : Nat) : Int) ≤ 12 := by omega
    have hgt : (12 : Int) < ((r.length : Nat) : Int) := by omega
    have hz : ¬ ((r.length : Nat) : Int) = 0 := by omega
    refine ⟨0, ?_, ?_, fun h => absurd h (by decide)⟩
    · simp -implicitDefEqProofs only [evs, Nat.reduceAdd, reduceIte, e1, f1, f2, hz, hle, hgt]
    · simp -implicitDefEqProofs only [evs, Nat.reduceAdd, reduceIte, e2, g1, g2, hpl, hle, hgt]
  have hle : ((r.length : Nat) : Int) ≤ 12 := by omega
  have hgt : ¬ (12 : Int) < ((r.length : Nat) : Int) := by omega
  have hrep := rep_eq h12
  have hci : (ints (List.replicate r.length 1) : A) = .sl 1 (List.replicate r.length [vi 1]) := by show A.sl 1 _ = _; rw [List.map_replicate]
  have hod : (od (stdO r) : A) = .agg [strs r, .sl 1 (List.replicate r.length [vi 1]), vi 1] := by rw [← hci]; rfl
  by_cases h0 : r.length = 0
  · have hr : r = [] := List.length_eq_zero_iff.1 h0
    have hz : ((r.length : Nat) : Int) = 0 := by omega
    have va : varN a.name = true := by
      cases hv : varN a.name
      · have := (hmem a.name).2 (Or.inl (by rw [symsT_eq, hv]; simp))
        rw [hr] at this
        cases this
      · rfl
    have vb' : varN b.name = true := by
      cases hv : varN b.name
      · have := (hmem b.name).2 (Or.inr (by rw [symsT_eq, hv]; simp))
        rw [hr] at this
        cases this
      · rfl
    have hne : ¬ a.name = b.name := fun e => by
      rw [dq_T, e, var_args0 hk va, var_args0 hk' vb', dq_self] at hd
      simp at hd
    have q := compareKBO_any (stdO r) a b hw hw' false false (kbo_vars _ a b hw hw' hk hk' va vb' hne) (kbo_vars _ b a hw' hw hk' hk vb' va (fun e => hne e.symm))
    rw [hd, hod] at q
    refine ⟨0, ?_, ?_, fun h => absurd h (by decide)⟩
    · simp -implicitDefEqProofs only [evs, Nat.reduceAdd, reduceIte, e1, f1, f2, hz]
    · simp -implicitDefEqProofs only [evs, Nat.reduceAdd, reduceIte, e2, g1, g2, hpl, hle, hgt, g3, hrep, q, codeI]
  have hsym : ∀ n ∈ r, symN n = true := fun n hn => by
    rcases (hmem n).1 hn with h | h
    · exact symsT_sym a hk n h
    · exact symsT_sym b hk' n h
  have hval := valid_std (by omega) h12 hsym (srt_nodup hsrt)
  have hca : covT (stdO r).syms a = true := cov_syms _ a fun n hn => (hmem n).2 (Or.inl hn)
  have hcb : covT (stdO r).syms b = true := cov_syms _ b fun n hn => (hmem n).2 (Or.inr hn)
  have howf : owf (stdO r) := by
    refine ⟨⟨fun s hs => ?_, by show r.length ≤ _; omega⟩, ⟨fun x hx => ?_, by show (List.replicate r.length (1 : Int)).length ≤ _; rw [List.length_replicate]; omega⟩, by show I64 1; exact ⟨by decide, by decide⟩⟩
    · have := symN_len (hsym s hs)
      omega
    · have : x = 1 := by have := List.eq_of_mem_replicate hx; exact this
      rw [this]; exact ⟨by decide, by decide⟩
  have q1 := spec_compareKBO (stdO r) a b howf hw hs hw' hs'
  have q2 := compareKBO_code hval a b howf hw hs hw' hs' hk hk' hca hcb
  have q3 : compareKBO (stdO r) a b = .tup [vi (cmpKBO (stdO r) a b), vb true] := by unfold compareKBO good; rw [hval, hva, hvb, hca, hcb]; rfl
  rw [q3, hod] at q1
  rw [hod] at q2
  have q4 := std_loop a b r h12 _ _ q1
  have hz : ¬ ((r.length : Nat) : Int) = 0 := by omega
  refine ⟨cmpKBO (stdO r) a b, ?_, ?_, fun h => kp_fun hval hk hcb ((kbo_two _ _ _).1 h)⟩
  · simp -implicitDefEqProofs only [evs, Nat.reduceAdd, reduceIte, e1, f1, f2, hz, hgt, hle, q4]
  · simp -implicitDefEqProofs only [evs, Nat.reduceAdd, reduceIte, e2, g1, g2, hpl, hle, hgt, g3, hrep, q2]

theorem depL_mem {ts : List T} {t : T} (h : t ∈ ts) : dep t ≤ depL ts := by
  induction ts with
  | nil => cases h
  | cons u us ih =>
    simp only [depL]
    rcases List.mem_cons.1 h with h | h
    · subst h; omega
    · have := ih h; omega
theorem small_arg {t u : T} (h : u ∈ t.args) (hs : smallT t = true) : smallT u = true := by
  simp only [smallT, Bool.and_eq_true, decide_eq_true_eq] at hs ⊢
  have h1 := nodesL_mem h
  have h2 := depL_mem h
  rw [nodes_eq, dep_eq] at hs
  omega

end Go.Proofs.YtnbjmmldjggkfaaGreat
/- RULES, AND REWRITING TILL NOTHING APPLIES. -/
namespace Go.Proofs.YtnbjmmldjggkfaaGreat
open Go Go.RowKit Go.Proofs.YtnbjmmldjggkfaaGreat.Abs

set_option linter.unusedSimpArgs false
set_option linter.unusedVariables false
set_option maxHeartbeats 1000000


theorem anyAtom_eq' (t : T) (hs : Tz t) (he : ¬ t.name = [61]) : G 53 [tm t] = some (vb (symN t.name && validT t), []) := by
  have e1 := l2Symbol_eq t.name ((twf_eq t).1 hs.wf).1
  have e2 := l2Good_eq t hs.wf hs
  rw [g53]
  cases h : symN t.name <;> rw [h] at e1
  · simp -implicitDefEqProofs only [evs, Nat.reduceAdd, reduceIte, he, e1, Bool.false_and]
  · simp -implicitDefEqProofs only [evs, Nat.reduceAdd, reduceIte, he, e1, e2, Bool.true_and]
theorem eqn_vs {t : T} (h : eqnT t = true) : t.args.length = 2 ∧ Vs (lhsT t) ∧ Vs (rhsT t) ∧ smallT t = true := by
  have h' := h
  unfold eqnT at h
  rw [Bool.and_eq_true, Bool.and_eq_true, Bool.and_eq_true, decide_eq_true_eq] at h
  obtain ⟨h1, h2, h3, h4⟩ := h
  obtain ⟨_, _, ma, mb⟩ := arg_facts h1
  have hn : nodes t ≤ 30 := by simp only [smallT, Bool.and_eq_true, decide_eq_true_eq] at h2; exact h2.1
  exact ⟨h1, ⟨h3, by have := nodes_arg ma; show nodes (arg0 t) ≤ 30; omega⟩, ⟨h4, by have := nodes_arg mb; show nodes (arg1 t) ≤ 30; omega⟩, h2⟩
/-- A rule, as both see it. -/
theorem rule_eq (t : T) (hs : Tz t) : ∃ b : Bool, G 96 [tm t] = some (vb b, []) ∧ G 101 [tm t] = some (vb b, []) ∧ (b = true → t.name = [61] ∧ eqnT t = true ∧ varN (lhsT t).name = false) := by
  have hw := hs.wf
  obtain ⟨w1, w2, w3⟩ := (twf_eq t).1 hw
  have w3 := (twfL_iff _).1 w3
  have q0 := isEquality_eq t
  by_cases he : t.name = [61]
  rotate_left
  · have e1 := anyAtom_eq' t hs he
    rw [decide_eq_false he] at q0
    refine ⟨false, ?_, ?_, fun h => by cases h⟩
    · rw [g96]
      cases h1 : (symN t.name && validT t) <;> rw [h1] at e1 <;> simp -implicitDefEqProofs only [evs, Nat.reduceAdd, reduceIte, he, e1]
    · rw [g101]
      simp -implicitDefEqProofs only [evs, Nat.reduceAdd, reduceIte, q0]
  · have e1 := l2Atom_eqn t hw hs he
    have e2 := isValidAtom_eqn t hw hs he
    rw [decide_eq_true he] at q0
    have het : (t.name = [61]) = True := eq_true he
    rw [g96, g101]
    cases h : eqnT t <;> rw [h] at e1 e2
    · exact ⟨false, by simp -implicitDefEqProofs only [evs, Nat.reduceAdd, reduceIte, e1], by simp -implicitDefEqProofs only [evs, Nat.reduceAdd, reduceIte, q0, e2], fun h => by cases h⟩
    · obtain ⟨h1, v1, v2, hsm⟩ := eqn_vs h
      obtain ⟨i0, i1, ma, mb⟩ := arg_facts h1
      have va : validT (arg0 t) = true := by unfold validT; rw [small_arg ma hsm]; exact v1.1
      have vb' : validT (arg1 t) = true := by unfold validT; rw [small_arg mb hsm]; exact v2.1
      obtain ⟨x, o1, o2, o3⟩ := order_eq (arg0 t) (arg1 t) (w3 _ ma) (w3 _ mb) v1.tz v2.tz va vb'
      refine ⟨decide (x = 2), ?_, ?_, fun hx => ⟨he, rfl, o3 (of_decide_eq_true hx)⟩⟩
      · simp -implicitDefEqProofs only [evs, Nat.reduceAdd, reduceIte, e1, het, i0, i1, pLoadN_tcells, o1]
      · simp -implicitDefEqProofs only [evs, Nat.reduceAdd, reduceIte, q0, e2, i0, i1, pLoadN_tcells, o2]
theorem rules_eq (rs : List T) (hl : rs.length ≤ 1048576) (hs : ∀ r ∈ rs, Tz r) : ∃ b : Bool, G 54 [tms rs] = some (vb b, []) ∧ G 62 [tms rs] = some (vb b, []) ∧ (b = true → RS rs ∧ ∀ r ∈ rs, r.name = [61] ∧ eqnT r = true ∧ varN (lhsT r).name = false) := by
  obtain ⟨p, hp⟩ := Classical.axiomOfChoice (r := fun (t : T) (b : Bool) => Tz t → G 96 [tm t] = some (vb b, []) ∧ G 101 [tm t] = some (vb b, []) ∧ (b = true → t.name = [61] ∧ eqnT t = true ∧ varN (lhsT t).name = false)) fun t => by
    by_cases h : Tz t
    · obtain ⟨b, hb⟩ := rule_eq t h
      exact ⟨b, fun _ => hb⟩
    · exact ⟨false, fun h' => absurd h' h⟩
  have hp : ∀ r ∈ rs, G 96 [tm r] = some (vb (p r), []) ∧ G 101 [tm r] = some (vb (p r), []) ∧ (p r = true → r.name = [61] ∧ eqnT r = true ∧ varN (lhsT r).name = false) := fun r hr => hp r (hs r hr)
  refine ⟨decide (rs.length ≤ 10) && rs.all p, ?_, ?_, fun h => ?_⟩
  · have key := upto (P := fun i => L54_0 (tms rs) (vi i) = some (vb (decide (rs.length ≤ 10) && (rs.drop i).all p), [])) (n := rs.length) ?_ ?_ 0 (Nat.zero_le _)
    · rw [g54]
      exact key
    · rw [l54_0, List.drop_length]
      have e : decide (((rs.length : Nat) : Int) ≤ 10) = decide (rs.length ≤ 10) := by
        by_cases h : rs.length ≤ 10
        · rw [decide_eq_true h, decide_eq_true (by omega)]
        · rw [decide_eq_false h, decide_eq_false (by omega)]
      simp -implicitDefEqProofs only [evs, Nat.reduceAdd, reduceIte, e]
    · intro i hi ih
      have hlt : (i : Int) < ((rs.length : Nat) : Int) := by omega
      have h5 := add_one hi (by show rs.length ≤ 9223372036854775807; omega)
      obtain ⟨e1, _, _⟩ := hp rs[i] (List.getElem_mem _)
      rw [l54_0, drop_cons hi, List.all_cons]
      cases h : p rs[i] <;> rw [h] at e1
      · simp -implicitDefEqProofs only [evs, Nat.reduceAdd, reduceIte, hlt, pIndexAddr_map hi, pLoadN_tcells, e1, Bool.false_and, Bool.and_false]
      · simp -implicitDefEqProofs only [evs, Nat.reduceAdd, reduceIte, hlt, pIndexAddr_map hi, pLoadN_tcells, e1, h5, ih, Bool.true_and]
  · have e1 := contains_terms (f := 100) (caps := []) rfl (fun r => !p r) rs (by show rs.length ≤ 9223372036854775807; omega) fun r hr => by
      obtain ⟨_, e2, _⟩ := hp r hr
      rw [g100]
      simp -implicitDefEqProofs only [evs, Nat.reduceAdd, reduceIte, e2]
    rw [any_not_all] at e1
    rw [g62]
    by_cases h : rs.length ≤ 10
    · have h' : ((rs.length : Nat) : Int) ≤ 10 := by omega
      simp -implicitDefEqProofs only [evs, Nat.reduceAdd, reduceIte, h, h', e1, Bool.true_and, Bool.not_not]
    · have h' : ¬ ((rs.length : Nat) : Int) ≤ 10 := by omega
      simp -implicitDefEqProofs only [evs, Nat.reduceAdd, reduceIte, h, h', Bool.false_and]
  · rw [Bool.and_eq_true, decide_eq_true_eq, List.all_eq_true] at h
    refine ⟨⟨h.1, fun r hr => ?_⟩, fun r hr => (hp r hr).2.2 (h.2 r hr)⟩
    obtain ⟨_, h2, _⟩ := (hp r hr).2.2 (h.2 r hr)
    obtain ⟨q1, q2, q3, _⟩ := eqn_vs h2
    exact ⟨q1, q2, q3⟩
end Go.Proofs.YtnbjmmldjggkfaaGreat
/- REWRITING TILL NOTHING APPLIES. -/
namespace Go.Proofs.YtnbjmmldjggkfaaGreat
open Go Go.RowKit Go.Proofs.YtnbjmmldjggkfaaGreat.Abs

set_option linter.unusedSimpArgs false
set_option linter.unusedVariables false
set_option maxHeartbeats 1000000


theorem once_nodes {rs : List T} (hr : RS rs) : ∀ (t : T) (root : Bool) {u : T}, EX root t → once rs root t = some u → nodes u ≤ nodes t + 900 := by
  refine T.ind (p := fun t => ∀ (root : Bool) {u : T}, EX root t → once rs root t = some u → nodes u ≤ nodes t + 900) fun t ih => ?_
  intro root u h ho
  have hL : ∀ (us : List T) {us' : List T}, (∀ u ∈ us, ∀ u', once rs true u = some u' → nodes u' ≤ nodes u + 900) → onceL rs us = some us' → nodesL us' ≤ nodesL us + 900 := by
    intro us
    induction us with
    | nil => intro us' _ h; simp [onceL] at h
    | cons v vs ih2 =>
      intro us' hv h
      rw [onceL] at h
      split at h
      · rename_i v' hv'
        cases h
        have := hv v (by simp) _ hv'
        simp only [nodesL]
        omega
      · rw [Option.map_eq_some_iff] at h
        obtain ⟨r, h3, rfl⟩ := h
        have := ih2 (fun w hw => hv w (by simp [hw])) h3
        simp only [nodesL]
        omega
  rw [once_eq] at ho
  split at ho
  · rename_i us hus
    cases ho
    have := hL t.args (fun v hv u' hu' => by
      have hw := h.2.1 v hv
      exact ih v hv true ⟨⟨by have := hw.2; omega, hw.tz⟩, hw.args, fun _ => hw⟩ hu') hus
    rw [nodes_eq t]
    show 1 + nodesL us ≤ _
    omega
  · cases root with
    | false => cases ho
    | true =>
      have := (rootS_vs hr (h.2.2 rfl) ho).2
      omega
/-- What is rewritten: a valid term, or the two sides of an equation. -/
def EX' (root : Bool) (t : T) : Prop := EX root t ∧ (root = false → t.name = [61] ∧ t.args.length = 2)
theorem okL_tsz {us : List T} (h : ∀ u ∈ us, okT u = true) : tszL us ≤ 10 * nodesL us := by
  induction us with
  | nil => simp [tszL]
  | cons u us ih =>
    have := ok_tsz u (h u (by simp))
    have := ih fun w hw => h w (by simp [hw])
    simp only [tszL, nodesL]
    omega
theorem ok_name {t : T} (h : okT t = true) : ¬ t.name = [61] := fun e => by
  rw [okT_eq, e] at h
  exact absurd h (by
    rw [show varN [61] = false from by decide, if_neg Bool.false_ne_true, show symN [61] = false from by decide]
    simp)
theorem any_eq' {t : T} (ht : Tz t) (h : okT t = true ∨ (t.name = [61] ∧ t.args.length = 2 ∧ ∀ u ∈ t.args, okT u = true)) : G 59 [tm t] = some (vb (smallT t), []) := by
  have e2 := l2Good_eq t ht.wf ht
  rw [g59]
  rcases h with h | ⟨h1, h2, h3⟩
  · have hv : validT t = smallT t := by unfold validT; rw [h, Bool.and_true]
    rw [hv] at e2
    have e1 := anyAtom_eq' t ht (ok_name h)
    rw [hv] at e1
    cases hs : smallT t <;> rw [hs] at e1 e2
    · rw [Bool.and_false] at e1
      simp -implicitDefEqProofs only [evs, Nat.reduceAdd, reduceIte, e1, e2]
    · simp -implicitDefEqProofs only [evs, Nat.reduceAdd, reduceIte, e2]
  · have hk : okT t = false := by
      cases hk : okT t with
      | false => rfl
      | true => exact absurd h1 (ok_name hk)
    have hv : validT t = false := by unfold validT; rw [hk, Bool.and_false]
    rw [hv] at e2
    have e1 := l2Atom_eqn t ht.wf ht h1
    obtain ⟨_, _, ma, mb⟩ := arg_facts h2
    have he : eqnT t = smallT t := by unfold eqnT; rw [decide_eq_true h2, h3 _ ma, h3 _ mb]; simp
    rw [he] at e1
    simp -implicitDefEqProofs only [evs, Nat.reduceAdd, reduceIte, e1, e2]
theorem once_facts {rs : List T} (hr : RS rs) {root : Bool} {t u : T} (h : EX' root t) (ho : once rs root t = some u) : Tz u ∧ (smallT u = true → EX' root u) ∧ G 59 [tm u] = some (vb (smallT u), []) := by
  have hn := once_nodes hr t root h.1 ho
  have ht := h.1.1.1
  cases root with
  | true =>
    have hk := once_ok hr.ok t (h.1.2.2 rfl).1 ho
    have hz : Tz u := by have := ok_tsz u hk; unfold Tz; omega
    refine ⟨hz, fun hs => ?_, any_eq' hz (Or.inl hk)⟩
    have hv : Vs u := ⟨hk, by simp only [smallT, Bool.and_eq_true, decide_eq_true_eq] at hs; exact hs.1⟩
    exact ⟨⟨⟨by have := hv.2; omega, hz⟩, hv.args, fun _ => hv⟩, fun h => by cases h⟩
  | false =>
    obtain ⟨n1, n2⟩ := h.2 rfl
    rw [once_eq] at ho
    split at ho
    rotate_left
    · cases ho
    rename_i us hus
    cases ho
    obtain ⟨g1, g2⟩ := onceL_spec hus
    have hk : ∀ v ∈ us, okT v = true := g2 (fun v => okT v = true) (fun v hv => (h.1.2.1 v hv).1) fun v hv u' hu' => once_ok hr.ok v (h.1.2.1 v hv).1 hu'
    have hz : Tz (.mk t.name us) := by
      have := okL_tsz hk
      have e : nodes (.mk t.name us) = 1 + nodesL us := rfl
      unfold Tz
      rw [tsz_mk, n1, g1, n2]
      simp only [List.length_cons, List.length_nil]
      omega
    refine ⟨hz, fun hs => ?_, any_eq' hz (Or.inr ⟨n1, g1.trans n2, hk⟩)⟩
    have hns : nodes (.mk t.name us) ≤ 30 := by simp only [smallT, Bool.and_eq_true, decide_eq_true_eq] at hs; exact hs.1
    refine ⟨⟨⟨by omega, hz⟩, fun v hv => ⟨hk v hv, ?_⟩, fun h => by cases h⟩, fun _ => ⟨n1, g1.trans n2⟩⟩
    have := nodes_arg (t := .mk t.name us) hv
    omega
def outR (o : Option (T × Nat)) : Option Out := match o with | some r => some (.tup [tm r.1, vi (r.2 : Nat), vb true], []) | none => some (.tup [.agg [sv [], .sl 2 []], vi 0, vb false], [])

theorem rews_loop (rs : List T) (hr : RS rs) (root : Bool) : ∀ (k n : Nat), k + n = 51 → 1 ≤ k → ∀ t : T, EX' root t → L55_0 (tms rs) (vb root) (vi (n : Nat)) (sv []) (sv t.name) (tms t.args) [] = outR (rwN rs root k n t) := by
  intro k
  induction k with
  | zero => intro n _ h; omega
  | succ k ih =>
    intro n hk _ t ht
    have e1 := once_spec rs hr root t ht.1
    rw [l55_0, rwN]
    cases ho : once rs root t with
    | none =>
      rw [ho] at e1
      have e1 : G 97 [tm t, tms rs, vb root] = some (.tup [tm t, vb false], []) := e1
      show _ = some (A.tup [tm t, vi (n : Nat), vb true], [])
      simp -implicitDefEqProofs only [evs, Nat.reduceAdd, reduceIte, e1]
    | some u =>
      rw [ho] at e1
      have e1 : G 97 [tm t, tms rs, vb root] = some (.tup [tm u, vb true], []) := e1
      obtain ⟨hu, hs, hA⟩ := once_facts hr ht ho
      have e2 : G 59 [tm u] = some (vb (smallT u), []) := hA
      by_cases h50 : n = 50
      · have hk0 : k = 0 := by omega
        have hn : ((n : Nat) : Int) = 50 := by omega
        show _ = outR (if k = 0 ∨ smallT u = false then none else rwN rs root k (n + 1) u)
        rw [if_pos (Or.inl hk0)]
        show _ = some (A.tup [.agg [sv [], .sl 2 []], vi 0, vb false], [])
        simp -implicitDefEqProofs only [evs, Nat.reduceAdd, reduceIte, e1, hn]
      · have hn : ¬ ((n : Nat) : Int) = 50 := by omega
        have hk0 : ¬ k = 0 := by omega
        show _ = outR (if k = 0 ∨ smallT u = false then none else rwN rs root k (n + 1) u)
        cases hsm : smallT u with
        | false =>
          rw [hsm] at e2
          rw [if_pos (Or.inr rfl)]
          show _ = some (A.tup [.agg [sv [], .sl 2 []], vi 0, vb false], [])
          simp -implicitDefEqProofs only [evs, Nat.reduceAdd, reduceIte, e1, hn, e2]
        | true =>
          rw [hsm] at e2
          rw [if_neg (by simp [hk0])]
          have h5 : ck ((n : Int) + 1) = some (vi ((n + 1 : Nat) : Int)) := ck_le (by omega) (by omega)
          have := ih (n + 1) (by omega) (by omega) u (hs hsm)
          rw [← this]
          simp -implicitDefEqProofs only [evs, Nat.reduceAdd, reduceIte, e1, hn, e2, h5]

theorem rewi_loop (rs : List T) (hr : RS rs) (root : Bool) : ∀ (k n : Nat), k + n = 51 → 1 ≤ k → ∀ t : T, EX' root t → L63_0 (tms rs) (vb root) (vi (n : Nat)) (sv []) (sv t.name) (tms t.args) [] = outR (rwN rs root k n t) := by
  intro k
  induction k with
  | zero => intro n _ h; omega
  | succ k ih =>
    intro n hk _ t ht
    have e1 := once_impl rs hr t root ht.1
    rw [l63_0, rwN]
    cases ho : once rs root t with
    | none =>
      rw [ho] at e1
      have e1 : G 102 [tm t, tms rs, vb root] = some (.tup [.agg [sv [], .sl 2 []], vb false], []) := e1
      show _ = some (A.tup [tm t, vi (n : Nat), vb true], [])
      simp -implicitDefEqProofs only [evs, Nat.reduceAdd, reduceIte, e1]
    | some u =>
      rw [ho] at e1
      have e1 : G 102 [tm t, tms rs, vb root] = some (.tup [tm u, vb true], []) := e1
      obtain ⟨hu, hs, hA⟩ := once_facts hr ht ho
      have e2 : G 72 [tm u] = some (vb (smallT u), []) := isSmall_eq u hu.wf hu
      by_cases h50 : n = 50
      · have hk0 : k = 0 := by omega
        have hn : ((n : Nat) : Int) = 50 := by omega
        show _ = outR (if k = 0 ∨ smallT u = false then none else rwN rs root k (n + 1) u)
        rw [if_pos (Or.inl hk0)]
        show _ = some (A.tup [.agg [sv [], .sl 2 []], vi 0, vb false], [])
        simp -implicitDefEqProofs only [evs, Nat.reduceAdd, reduceIte, e1, hn]
      · have hn : ¬ ((n : Nat) : Int) = 50 := by omega
        have hk0 : ¬ k = 0 := by omega
        show _ = outR (if k = 0 ∨ smallT u = false then none else rwN rs root k (n + 1) u)
        cases hsm : smallT u with
        | false =>
          rw [hsm] at e2
          rw [if_pos (Or.inr rfl)]
          show _ = some (A.tup [.agg [sv [], .sl 2 []], vi 0, vb false], [])
          simp -implicitDefEqProofs only [evs, Nat.reduceAdd, reduceIte, e1, hn, e2]
        | true =>
          rw [hsm] at e2
          rw [if_neg (by simp [hk0])]
          have h5 : ck ((n : Int) + 1) = some (vi ((n + 1 : Nat) : Int)) := ck_le (by omega) (by omega)
          have := ih (n + 1) (by omega) (by omega) u (hs hsm)
          rw [← this]
          simp -implicitDefEqProofs only [evs, Nat.reduceAdd, reduceIte, e1, hn, e2, h5]

theorem rewS_eq (rs : List T) (hr : RS rs) (root : Bool) (t : T) (ht : EX' root t) : G 55 [tm t, tms rs, vb root] = outR (rwN rs root 51 0 t) := by
  have e1 := own_eq t ht.1.1.2
  have := rews_loop rs hr root 51 0 rfl (by decide) t ht
  have : L55_0 (tms rs) (vb root) (vi 0) (sv []) (sv t.name) (tms t.args) [] = _ := this
  rw [g55]
  simp -implicitDefEqProofs only [evs, Nat.reduceAdd, reduceIte, e1, this]
theorem rewI_eq (rs : List T) (hr : RS rs) (root : Bool) (t : T) (ht : EX' root t) : G 63 [tm t, tms rs, vb root] = outR (rwN rs root 51 0 t) := by
  have e1 := copyTerm_eq t ht.1.1.2
  have := rewi_loop rs hr root 51 0 rfl (by decide) t ht
  have : L63_0 (tms rs) (vb root) (vi 0) (sv []) (sv t.name) (tms t.args) [] = _ := this
  rw [g63]
  simp -implicitDefEqProofs only [evs, Nat.reduceAdd, reduceIte, e1, this]
theorem Vs.ex {t : T} (h : Vs t) : EX' true t := ⟨⟨⟨by have := h.2; omega, h.tz⟩, h.args, fun _ => h⟩, fun h => by cases h⟩
end Go.Proofs.YtnbjmmldjggkfaaGreat
/- VALUES OF TERMS, AND THAT REWRITING PRESERVES THEM. Plain. -/
namespace Go.Proofs.YtnbjmmldjggkfaaGreat
open Go Go.RowKit Go.Proofs.YtnbjmmldjggkfaaGreat.Abs

set_option linter.unusedSimpArgs false
set_option linter.unusedVariables false
set_option maxHeartbeats 1000000

def upN : List UInt8 → Bool
  | [] => false
  | c :: _ => upc c
mutual
/-- The value of a term; M tells what a symbol does with values, e what variables stand for. -/
def val (M : List UInt8 → List Int → Int) (e : List UInt8 → Int) : T → Int
  | .mk n us => if us.isEmpty && upN n then e n else M n (valL M e us)
def valL (M : List UInt8 → List Int → Int) (e : List UInt8 → Int) : List T → List Int
  | [] => []
  | t :: ts => val M e t :: valL M e ts
end
theorem valL_map (M : List UInt8 → List Int → Int) (e : List UInt8 → Int) : ∀ ts : List T, valL M e ts = ts.map (val M e)
  | [] => rfl
  | t :: ts => by rw [valL, valL_map M e ts, List.map_cons]
theorem val_eq (M : List UInt8 → List Int → Int) (e : List UInt8 → Int) (t : T) : val M e t = if t.args.isEmpty && upN t.name then e t.name else M t.name (t.args.map (val M e)) := by
  obtain ⟨n, us⟩ := t
  rw [val, valL_map]
  rfl
theorem upN_var {n : List UInt8} (h : varN n = true) : upN n = true := by
  cases n with
  | nil => cases h
  | cons c r => simp only [varN, Bool.and_eq_true] at h; exact h.1
theorem upN_sym {n : List UInt8} (h : symN n = true) : upN n = false := by
  cases n with
  | nil => rfl
  | cons c r =>
    simp only [symN, Bool.and_eq_true] at h
    have h := h.1
    show upc c = false
    cases hu : upc c with
    | false => rfl
    | true =>
      simp only [upc, lowc, inB, Bool.and_eq_true, decide_eq_true_eq] at h hu
      omega
theorem ok_sym {t : T} (h : okT t = true) (hv : varN t.name = false) : symN t.name = true := by
  rw [okT_eq, hv, if_neg Bool.false_ne_true, Bool.and_eq_true] at h
  exact h.1
section
variable {M : List UInt8 → List Int → Int}
theorem val_var {e : List UInt8 → Int} {t : T} (h : okT t = true) (hv : varN t.name = true) : val M e t = e t.name := by
  rw [val_eq, var_args h hv, upN_var hv]
  rfl
theorem val_fun {e : List UInt8 → Int} {t : T} (h : upN t.name = false) : val M e t = M t.name (t.args.map (val M e)) := by
  rw [val_eq, h, Bool.and_false, if_neg Bool.false_ne_true]
theorem val_sub (u : Sub') (e : List UInt8 → Int) : ∀ t : T, okT t = true → val M e (sub u t) = val M (fun x => val M e (sub1 u x)) t := by
  refine T.ind fun t ih => ?_
  intro ht
  cases hv : varN t.name with
  | true => rw [val_var ht hv, sub_var hv]
  | false =>
    have hs := upN_sym (ok_sym ht hv)
    rw [val_fun hs, sub_fun hv, val_fun (t := .mk t.name (t.args.map (sub u))) hs]
    show M t.name ((t.args.map (sub u)).map (val M e)) = _
    rw [List.map_map]
    congr 1
    exact List.map_congr_left fun a ha => ih a ha (okT_args ht a ha)
theorem val_congr {e e' : List UInt8 → Int} : ∀ t : T, okT t = true → (∀ x ∈ varsT t, e x = e' x) → val M e t = val M e' t := by
  refine T.ind fun t ih => ?_
  intro ht h
  rw [varsT_eq] at h
  cases hv : varN t.name with
  | true =>
    rw [val_var ht hv, val_var ht hv]
    rw [hv, if_pos rfl] at h
    exact h _ (by simp)
  | false =>
    have hs := upN_sym (ok_sym ht hv)
    rw [val_fun hs, val_fun hs]
    rw [hv, if_neg Bool.false_ne_true] at h
    congr 1
    refine List.map_congr_left fun a ha => ih a ha (okT_args ht a ha) fun x hx => h x ?_
    have : ∀ us : List T, a ∈ us → x ∈ varsTL us := by
      intro us
      induction us with
      | nil => intro h; cases h
      | cons v vs ih =>
        intro h
        rw [varsTL]
        rcases List.mem_cons.1 h with rfl | h
        · exact List.mem_append_left _ hx
        · exact List.mem_append_right _ (ih h)
    exact this _ ha

/-! ### A match, put in, gives the subject -/
def Ext (m m' : Sub') : Prop := ∀ x r, look m x = some r → look m' x = some r
theorem Ext.refl (m : Sub') : Ext m m := fun _ _ h => h
theorem Ext.trans {a b c : Sub'} (h : Ext a b) (h' : Ext b c) : Ext a c := fun x r hx => h' x r (h x r hx)
theorem mt_sub : ∀ (a : T) {m m' : Sub'} {t : T}, okT a = true → mt m a t = some m' → Ext m m' ∧ ∀ m'', Ext m' m'' → sub m'' a = t := by
  refine T.ind (p := fun a => ∀ {m m' : Sub'} {t : T}, okT a = true → mt m a t = some m' → Ext m m' ∧ ∀ m'', Ext m' m'' → sub m'' a = t) fun a ih => ?_
  intro m m' t ha h
  cases hv : varN a.name with
  | true =>
    rw [mt_var hv] at h
    split at h
    · rename_i r hl
      split at h
      · rename_i hd
        cases h
        refine ⟨Ext.refl _, fun m'' h => ?_⟩
        rw [sub_var hv, sub1, h _ _ hl]
        exact dq_true.1 hd
      · cases h
    · rename_i hl
      cases h
      refine ⟨fun x r hx => by rw [look_append, hx], fun m'' h => ?_⟩
      have : look (m ++ [(a.name, t)]) a.name = some t := by rw [look_append, hl]; simp [look]
      rw [sub_var hv, sub1, h _ _ this]
      rfl
  | false =>
    rw [mt_fun hv] at h
    split at h
    · rename_i hn
      have key : ∀ (us : List T) (ts : List T) {m m' : Sub'}, (∀ u ∈ us, u ∈ a.args) → us.length = ts.length → mtL m us ts = some m' → Ext m m' ∧ ∀ m'', Ext m' m'' → us.map (sub m'') = ts := by
        intro us
        induction us with
        | nil =>
          intro ts m m' _ hl h
          simp only [mtL, Option.some.injEq] at h
          cases ts with
          | nil => exact h ▸ ⟨Ext.refl _, fun _ _ => rfl⟩
          | cons => cases hl
        | cons u us ih2 =>
          intro ts m m' hu hl h
          cases ts with
          | nil => cases hl
          | cons s ts =>
            simp only [mtL] at h
            obtain ⟨m1, h1, h2⟩ := Option.bind_eq_some_iff.1 h
            obtain ⟨x1, x2⟩ := ih u (hu u (by simp)) (okT_args ha u (hu u (by simp))) h1
            obtain ⟨y1, y2⟩ := ih2 ts (fun v hv => hu v (by simp [hv])) (Nat.succ.inj hl) h2
            exact ⟨x1.trans y1, fun m'' h => by rw [List.map_cons, x2 m'' (y1.trans h), y2 m'' h]⟩
      obtain ⟨x1, x2⟩ := key a.args t.args (fun _ h => h) hn.2 h
      refine ⟨x1, fun m'' h => ?_⟩
      rw [sub_fun hv, x2 m'' h, hn.1]
      cases t; rfl
    · cases h

/-! ### Rewriting preserves values -/
variable {good : Int → Prop}
theorem val_good (hM : ∀ n vs, good (M n vs)) {e : List UInt8 → Int} (he : ∀ x, good (e x)) (t : T) : good (val M e t) := by
  rw [val_eq]
  split
  · exact he _
  · exact hM _ _
def RHold (M : List UInt8 → List Int → Int) (good : Int → Prop) (rs : List T) : Prop := ∀ r ∈ rs, ∀ e : List UInt8 → Int, (∀ x, good (e x)) → val M e (lhsT r) = val M e (rhsT r)
theorem rootS_val (hM : ∀ n vs, good (M n vs)) {e : List UInt8 → Int} (he : ∀ x, good (e x)) {t : T} : ∀ {rs : List T} {u : T}, RulesOk rs → RHold M good rs → rootS rs t = some u → val M e u = val M e t
  | r :: rs, u, hr, hh, h => by
    rw [rootS] at h
    split at h
    · rename_i m hm
      cases h
      obtain ⟨r1, r2⟩ := hr r (by simp)
      obtain ⟨_, x2⟩ := mt_sub _ r1 hm
      have := x2 m (Ext.refl m)
      rw [← this, val_sub m e _ r1, val_sub m e _ r2]
      exact (hh r (by simp) _ fun x => val_good hM he _).symm
    · exact rootS_val hM he (fun q hq => hr q (by simp [hq])) (fun q hq => hh q (by simp [hq])) h
theorem onceL_val {rs : List T} {e : List UInt8 → Int} : ∀ {us us' : List T}, (∀ u ∈ us, ∀ u', once rs true u = some u' → val M e u' = val M e u) → onceL rs us = some us' → us'.map (val M e) = us.map (val M e) ∧ us'.length = us.length
  | t :: ts, us', hk, h => by
    rw [onceL] at h
    split at h
    · rename_i t' ht
      cases h
      rw [List.map_cons, List.map_cons, hk t (by simp) _ ht]
      exact ⟨rfl, by simp⟩
    · rw [Option.map_eq_some_iff] at h
      obtain ⟨r, h3, rfl⟩ := h
      obtain ⟨g1, g2⟩ := onceL_val (fun u hu => hk u (by simp [hu])) h3
      rw [List.map_cons, List.map_cons, g1]
      exact ⟨rfl, by simp [g2]⟩
theorem once_val (hM : ∀ n vs, good (M n vs)) {e : List UInt8 → Int} (he : ∀ x, good (e x)) {rs : List T} (hr : RulesOk rs) (hh : RHold M good rs) : ∀ (t : T) {u : T}, okT t = true → once rs true t = some u → val M e u = val M e t := by
  refine T.ind (p := fun t => ∀ {u : T}, okT t = true → once rs true t = some u → val M e u = val M e t) fun t ih => ?_
  intro u ht h
  rw [once_eq] at h
  split at h
  · rename_i us ho
    cases h
    obtain ⟨g1, g2⟩ := onceL_val (M := M) (e := e) (fun v hv u' hu' => ih v hv (okT_args ht v hv) hu') ho
    rw [val_eq, val_eq M e t]
    show (if us.isEmpty && upN t.name then e t.name else M t.name (us.map (val M e))) = _
    rw [g1]
    have : us.isEmpty = t.args.isEmpty := by
      cases us <;> cases hta : t.args <;> rw [hta] at g2 <;> simp_all
    rw [this]
  · exact rootS_val hM he hr hh h
theorem rwN_val (hM : ∀ n vs, good (M n vs)) {e : List UInt8 → Int} (he : ∀ x, good (e x)) {rs : List T} (hr : RulesOk rs) (hh : RHold M good rs) : ∀ (k n : Nat) (t : T) {r : T × Nat}, okT t = true → rwN rs true k n t = some r → val M e r.1 = val M e t ∧ okT r.1 = true := by
  intro k
  induction k with
  | zero => intro n t r _ h; cases h
  | succ k ih =>
    intro n t r ht h
    rw [rwN] at h
    split at h
    · cases h; exact ⟨rfl, ht⟩
    · rename_i u hu
      split at h
      · cases h
      · obtain ⟨q1, q2⟩ := ih (n + 1) u (once_ok hr t ht hu) h
        exact ⟨q1.trans (once_val hM he hr hh t ht hu), q2⟩
theorem rwN_valE (hM : ∀ n vs, good (M n vs)) {e : List UInt8 → Int} (he : ∀ x, good (e x)) {rs : List T} (hr : RulesOk rs) (hh : RHold M good rs) : ∀ (k n : Nat) (t : T) {r : T × Nat}, (∀ u ∈ t.args, okT u = true) → rwN rs false k n t = some r → r.1.name = t.name ∧ r.1.args.map (val M e) = t.args.map (val M e) ∧ ∀ u ∈ r.1.args, okT u = true := by
  intro k
  induction k with
  | zero => intro n t r _ h; cases h
  | succ k ih =>
    intro n t r ht h
    rw [rwN] at h
    split at h
    · cases h; exact ⟨rfl, rfl, ht⟩
    · rename_i u hu
      split at h
      · cases h
      · rw [once_eq] at hu
        split at hu
        rotate_left
        · cases hu
        rename_i us ho
        cases hu
        obtain ⟨_, g2⟩ := onceL_spec ho
        have hk : ∀ v ∈ us, okT v = true := g2 (fun v => okT v = true) ht fun v hv u' hu' => once_ok hr v (ht v hv) hu'
        obtain ⟨q1, q2, q3⟩ := ih (n + 1) (.mk t.name us) hk h
        exact ⟨q1, q2.trans (onceL_val (M := M) (e := e) (fun v hv u' hu' => once_val hM he hr hh v (ht v hv) hu') ho).1, q3⟩
end
/-! ### What rewriting ends in -/
theorem rwN_end {rs : List T} {root : Bool} : ∀ (k n : Nat) (t : T) {r : T × Nat}, rwN rs root k n t = some r → once rs root r.1 = none ∧ n ≤ r.2 ∧ (r.2 = n → r.1 = t) := by
  intro k
  induction k with
  | zero => intro n t r h; cases h
  | succ k ih =>
    intro n t r h
    rw [rwN] at h
    split at h
    · rename_i ho; cases h; exact ⟨ho, Nat.le_refl _, fun _ => rfl⟩
    · split at h
      · cases h
      · obtain ⟨q1, q2, _⟩ := ih (n + 1) _ h
        exact ⟨q1, by omega, fun h => by omega⟩
theorem rwN_norm {rs : List T} {root : Bool} {t : T} (h : once rs root t = none) (k n : Nat) : rwN rs root (k + 1) n t = some (t, n) := by
  rw [rwN, h]
/-- No rule applies at the root of an equation. -/
theorem rootS_eqn {t : T} (ht : t.name = [61]) : ∀ {rs : List T}, (∀ r ∈ rs, okT (lhsT r) = true ∧ varN (lhsT r).name = false) → rootS rs t = none
  | [], _ => rfl
  | r :: rs, h => by
    obtain ⟨h1, h2⟩ := h r (by simp)
    have : mt [] (lhsT r) t = none := by
      rw [mt_fun h2, if_neg]
      intro hh
      exact ok_name h1 (hh.1.trans ht)
    rw [rootS, this]
    exact rootS_eqn ht fun q hq => h q (by simp [hq])
theorem once_eqn {rs : List T} (hr : ∀ r ∈ rs, okT (lhsT r) = true ∧ varN (lhsT r).name = false) {t : T} (ht : t.name = [61]) : once rs true t = once rs false t := by
  rw [once_eq, once_eq, rootS_eqn ht hr]
  rfl
/-! ### Numbers in a base -/
def dec (n : Nat) : Nat → Nat → List Nat
  | 0, _ => []
  | l + 1, k => k % n :: dec n l (k / n)
def enc (n : Nat) : List Nat → Nat
  | [] => 0
  | v :: vs => v + n * enc n vs
theorem enc_lt {n : Nat} (hn : 1 ≤ n) : ∀ vs : List Nat, (∀ v ∈ vs, v < n) → enc n vs < n ^ vs.length
  | [], _ => by simp [enc]
  | v :: vs, h => by
    have h1 := h v (by simp)
    have h2 := enc_lt hn vs fun w hw => h w (by simp [hw])
    rw [enc, List.length_cons, Nat.pow_succ, Nat.mul_comm (n ^ vs.length) n]
    have : n * (enc n vs + 1) ≤ n * n ^ vs.length := Nat.mul_le_mul_left n h2
    rw [Nat.mul_add] at this
    omega
theorem dec_enc {n : Nat} (hn : 1 ≤ n) : ∀ vs : List Nat, (∀ v ∈ vs, v < n) → dec n vs.length (enc n vs) = vs
  | [], _ => rfl
  | v :: vs, h => by
    have h1 := h v (by simp)
    have h2 := dec_enc hn vs fun w hw => h w (by simp [hw])
    rw [List.length_cons, dec, enc, Nat.add_mul_mod_self_left, Nat.mod_eq_of_lt h1, Nat.add_mul_div_left _ _ (by omega), Nat.div_eq_of_lt h1, Nat.zero_add, h2]

/-! ### Names that occur, in order, each once -/
def vnA (l : List (List UInt8)) (n : List UInt8) : List (List UInt8) := if l.contains n then l else l ++ [n]
mutual
def vn (l : List (List UInt8)) : T → List (List UInt8)
  | .mk n us => if us.isEmpty && upN n then vnA l n else vnL l us
def vnL (l : List (List UInt8)) : List T → List (List UInt8)
  | [] => l
  | t :: ts => vnL (vn l t) ts
end
theorem vn_eq (l : List (List UInt8)) (t : T) : vn l t = if t.args.isEmpty && upN t.name then vnA l t.name else vnL l t.args := by cases t; rfl
/-- Variables are among these names. -/
def VIn (S : List (List UInt8)) (t : T) : Prop := ∀ x ∈ varsT t, x ∈ S
theorem vnA_facts {S l : List (List UInt8)} {n : List UInt8} (hl : l.Nodup) (hS : ∀ x ∈ l, x ∈ S) (hn : n ∈ S) : (vnA l n).Nodup ∧ (∀ x ∈ vnA l n, x ∈ S) ∧ (∀ x ∈ l, x ∈ vnA l n) ∧ n ∈ vnA l n := by
  unfold vnA
  split
  · rename_i h; exact ⟨hl, hS, fun _ h => h, List.contains_iff_mem.1 h⟩
  · rename_i h
    have h : n ∉ l := fun hh => h (List.contains_iff_mem.2 hh)
    refine ⟨?_, fun x hx => ?_, fun x hx => List.mem_append_left _ hx, by simp⟩
    · rw [List.nodup_append]
      exact ⟨hl, by simp, fun a ha b hb => by simp only [List.mem_singleton] at hb; subst hb; exact fun e => h (e ▸ ha)⟩
    · rcases List.mem_append.1 hx with hx | hx
      · exact hS x hx
      · simp only [List.mem_singleton] at hx; exact hx ▸ hn
theorem vn_facts {S : List (List UInt8)} : ∀ (t : T), okT t = true → VIn S t → ∀ l : List (List UInt8), l.Nodup → (∀ x ∈ l, x ∈ S) → (vn l t).Nodup ∧ (∀ x ∈ vn l t, x ∈ S) ∧ (∀ x ∈ l, x ∈ vn l t) ∧ ∀ x ∈ varsT t, x ∈ vn l t := by
  refine T.ind fun t ih => ?_
  intro ht hV l hl hS
  rw [vn_eq]
  unfold VIn at hV
  rw [varsT_eq] at hV ⊢
  cases hv : varN t.name with
  | true =>
    rw [hv, if_pos rfl] at hV
    rw [var_args ht hv, upN_var hv, if_pos rfl]
    obtain ⟨q1, q2, q3, q4⟩ := vnA_facts hl hS (hV t.name (by simp))
    exact ⟨q1, q2, q3, fun x hx => by simp only [if_true, List.mem_singleton] at hx; exact hx ▸ q4⟩
  | false =>
    rw [hv, if_neg Bool.false_ne_true] at hV
    rw [upN_sym (ok_sym ht hv), Bool.and_false, if_neg Bool.false_ne_true]
    have key : ∀ us : List T, (∀ u ∈ us, u ∈ t.args) → (∀ x ∈ varsTL us, x ∈ S) → ∀ l : List (List UInt8), l.Nodup → (∀ x ∈ l, x ∈ S) → (vnL l us).Nodup ∧ (∀ x ∈ vnL l us, x ∈ S) ∧ (∀ x ∈ l, x ∈ vnL l us) ∧ ∀ x ∈ varsTL us, x ∈ vnL l us := by
      intro us
      induction us with
      | nil => intro _ _ l hl hS; exact ⟨hl, hS, fun _ h => h, fun x h => by cases h⟩
      | cons u us ih2 =>
        intro hu hV l hl hS
        rw [varsTL] at hV
        obtain ⟨q1, q2, q3, q4⟩ := ih u (hu u (by simp)) (okT_args ht u (hu u (by simp))) (fun x hx => hV x (List.mem_append_left _ hx)) l hl hS
        obtain ⟨p1, p2, p3, p4⟩ := ih2 (fun v hv => hu v (by simp [hv])) (fun x hx => hV x (List.mem_append_right _ hx)) (vn l u) q1 q2
        rw [vnL, varsTL]
        refine ⟨p1, p2, fun x hx => p3 x (q3 x hx), fun x hx => ?_⟩
        rcases List.mem_append.1 hx with hx | hx
        · exact p3 x (q4 x hx)
        · exact p4 x hx
    exact key t.args (fun _ h => h) hV l hl hS
theorem nodup_len {α : Type} [DecidableEq α] : ∀ (S l : List α), l.Nodup → (∀ x ∈ l, x ∈ S) → l.length ≤ S.length
  | S, [], _, _ => Nat.zero_le _
  | S, x :: l, hl, h => by
    have hx := h x (by simp)
    rw [List.nodup_cons] at hl
    have := nodup_len (S.erase x) l hl.2 fun y hy => (List.mem_erase_of_ne (fun e : y = x => hl.1 (by rw [← e]; exact hy))).2 (h y (by simp [hy]))
    rw [List.length_erase_of_mem hx] at this
    have : 0 < S.length := List.length_pos_of_mem hx
    rw [List.length_cons]
    omega
end Go.Proofs.YtnbjmmldjggkfaaGreat
/- DRAWS FROM BYTES: whatever the bytes are, something of the right form comes. -/
namespace Go.Proofs.YtnbjmmldjggkfaaGreat
open Go Go.RowKit Go.Proofs.YtnbjmmldjggkfaaGreat.Abs

set_option linter.unusedSimpArgs false
set_option linter.unusedVariables false
set_option maxHeartbeats 1000000

abbrev cy (n : Int) : List A := [vy n]
abbrev bts (l : List Int) : A := .sl 1 (l.map cy)
abbrev vu (n : Int) : A := .val (.int .u64 n)
def By (l : List Int) : Prop := (∀ n ∈ l, 0 ≤ n ∧ n ≤ 255) ∧ l.length ≤ 65536

theorem hR_4 (a x0 x1 x2 x3 : A) (us : List T) (l : List A) : hR 2 (a, x0 :: x1 :: x2 :: x3 :: tms us :: l) 4 = some (us.map tcells) := by simp [hR, tms]
set_option maxRecDepth 100000 in
theorem wrap_255 : ∀ n : Fin 256, IntKind.u64.wrap ((n.val : Nat) : Int) = ((n.val : Nat) : Int) := by decide
theorem pU_mul (x y : Int) : pBin .mul false (vu x) (vu y) = some (vu (IntKind.u64.wrap (x * y))) := rfl
theorem pU_add (x y : Int) : pBin .add false (vu x) (vu y) = some (vu (IntKind.u64.wrap (x + y))) := rfl
theorem pU_shr (x : Int) : pBin .shr false (vu x) (vu 40) = some (vu (bitK .shr .u64 x 40)) := by
  show (if (0 : Int) ≤ 40 then some (vu (bitK .shr .u64 x 40)) else none) = _
  rw [if_pos (by decide)]
theorem pU_and (x : Int) : pBin .and false (vu x) (vu 255) = some (vu (bitK .and .u64 x 255)) := rfl
theorem and_bound (x : Int) : 0 ≤ bitK .and .u64 x 255 ∧ bitK .and .u64 x 255 ≤ 255 := by
  have h : (BitVec.ofInt 64 x &&& BitVec.ofInt 64 255).toNat ≤ 255 := by
    rw [BitVec.toNat_and]
    have h2 : (BitVec.ofInt 64 255).toNat = 255 := by decide
    rw [h2]
    exact Nat.and_le_right
  show 0 ≤ IntKind.u64.wrap (((BitVec.ofInt 64 x &&& BitVec.ofInt 64 255).toNat : Nat) : Int) ∧ IntKind.u64.wrap (((BitVec.ofInt 64 x &&& BitVec.ofInt 64 255).toNat : Nat) : Int) ≤ 255
  generalize (BitVec.ofInt 64 x &&& BitVec.ofInt 64 255).toNat = m at *
  have := wrap_255 ⟨m, by omega⟩
  simp only at this
  rw [this]
  omega
theorem pC_u64 (k : IntKind) (a : Int) : pConv .u64 (.val (.int k a)) = some (vu (IntKind.u64.wrap a)) := rfl
theorem pC_i64 (k : IntKind) (a : Int) : pConv .i64 (.val (.int k a)) = ck a := rfl
theorem okA_vu (n : Int) : okA (vu n) = true := rfl

section
variable {code : List Int} (hb : By code)
include hb
theorem next_eq (a s : Int) (h0 : 0 ≤ a) (h1 : a ≤ 1000000000) : ∃ s' x, 0 ≤ x ∧ x ≤ 255 ∧ C142_0 (bts code) (vi a) (vu s) = some (.top, [bts code, vi (a + 1), vu s', vi x]) := by
  obtain ⟨k, rfl⟩ : ∃ k : Nat, a = (k : Nat) := ⟨a.toNat, by omega⟩
  have c1 : ck (((k : Nat) : Int) + 1) = some (vi (((k : Nat) : Int) + 1)) := ck_le (by omega) (by omega)
  have hcl := hb.2
  rw [c142_0]
  by_cases hk : k < code.length
  · have hlt : ((k : Nat) : Int) < ((code.length : Nat) : Int) := by omega
    have hle : ((k : Nat) : Int) + 1 ≤ ((code.length : Nat) : Int) := by omega
    have hv := hb.1 code[k] (List.getElem_mem hk)
    have c2 : ck code[k] = some (vi code[k]) := ck_le (by omega) (by omega)
    exact ⟨_, code[k], hv.1, hv.2, by simp -implicitDefEqProofs only [evs, Nat.reduceAdd, reduceIte, hlt, pIndexAddr_map hk, pC_i64, c2, c1, pU_mul, pC_u64, pU_add, okA_vu, hle]; rfl⟩
  · have hlt : ¬ ((k : Nat) : Int) < ((code.length : Nat) : Int) := by omega
    have hle : ¬ ((k : Nat) : Int) + 1 ≤ ((code.length : Nat) : Int) := by omega
    generalize hz : IntKind.u64.wrap (IntKind.u64.wrap (IntKind.u64.wrap (s * 6364136223846793005) + IntKind.u64.wrap 0) + 892892) = z
    have hbd := and_bound (bitK .shr .u64 z 40)
    have c2 : ck (bitK .and .u64 (bitK .shr .u64 z 40) 255) = some (vi (bitK .and .u64 (bitK .shr .u64 z 40) 255)) := ck_le (by omega) (by omega)
    exact ⟨z, _, hbd.1, hbd.2, by simp -implicitDefEqProofs only [evs, Nat.reduceAdd, reduceIte, hlt, c1, pU_mul, pC_u64, pU_add, hz, okA_vu, hle, pU_shr, pU_and, pC_i64, c2]⟩
omit hb in
theorem pRem {x n : Int} (h0 : 0 ≤ x) (hn : 1 ≤ n) : pBin .rem false (vi x) (vi n) = some (vi (x % n)) := by
  show (if n = 0 then none else some (vi (x.tmod n))) = _
  rw [if_neg (by omega), Int.tmod_eq_emod_of_nonneg h0]
theorem pick_eq (n : Int) (hn : 1 ≤ n) (hn' : n ≤ 200) (a s : Int) (h0 : 0 ≤ a) (h1 : a ≤ 1000000000) : ∃ a' s' x, a ≤ a' ∧ a' ≤ a + 1 ∧ 0 ≤ x ∧ x < n ∧ C103_0 (vi n) (bts code) (vi a) (vu s) = some (.top, [bts code, vi a', vu s', vi x]) := by
  rw [c103_0]
  by_cases h : n ≤ 1
  · exact ⟨a, s, 0, by omega, by omega, by omega, by omega, by simp -implicitDefEqProofs only [evs, Nat.reduceAdd, reduceIte, h]⟩
  · obtain ⟨s', x, x0, x1, e⟩ := next_eq hb a s h0 h1
    have e2 := pRem x0 hn
    have hg : ¬ (200 : Int) < n := by omega
    refine ⟨a + 1, s', x % n, by omega, by omega, Int.emod_nonneg _ (by omega), Int.emod_lt_of_pos _ (by omega), ?_⟩
    simp -implicitDefEqProofs only [evs, Nat.reduceAdd, reduceIte, h, e, List.getElem?_cons_zero, List.getElem?_cons_succ, hg, e2, hR_4]
theorem one_eq (n : Int) (hn : 1 ≤ n) (hn' : n ≤ 200) (a s : Int) (h0 : 0 ≤ a) (h1 : a ≤ 1000000000) : ∃ a' s' b, a ≤ a' ∧ a' ≤ a + 1 ∧ C67_0 (vi n) (bts code) (vi a) (vu s) = some (.top, [bts code, vi a', vu s', vb b]) := by
  obtain ⟨a', s', x, q1, q2, _, _, e⟩ := pick_eq hb n hn hn' a s h0 h1
  refine ⟨a', s', decide (x = 0), q1, q2, ?_⟩
  rw [c67_0]
  simp -implicitDefEqProofs only [evs, Nat.reduceAdd, reduceIte, e, List.getElem?_cons_zero, List.getElem?_cons_succ, hR_4]
theorem of_eq (l : List (List UInt8)) (hn : 1 ≤ l.length) (hn' : l.length ≤ 200) (a s : Int) (h0 : 0 ≤ a) (h1 : a ≤ 1000000000) : ∃ a' s' w, w ∈ l ∧ a ≤ a' ∧ a' ≤ a + 1 ∧ C143_0 (bts code) (vi a) (vu s) (l.map cs) = some (.top, [bts code, vi a', vu s', sv w]) := by
  obtain ⟨a', s', x, q1, q2, x0, x1, e⟩ := pick_eq hb ((l.length : Nat) : Int) (by omega) (by omega) a s h0 h1
  obtain ⟨i, rfl⟩ : ∃ i : Nat, x = (i : Nat) := ⟨x.toNat, by omega⟩
  have hi : i < l.length := by omega
  have e1 : pIx l.length (vi ((i : Nat) : Int)) = some i := pIx_lt hi
  have e2 : pRowP (l.map cs) i 0 = some (sv l[i]) := by unfold pRowP; simp [hi]
  refine ⟨a', s', l[i], List.getElem_mem hi, q1, q2, ?_⟩
  rw [c143_0]
  simp -implicitDefEqProofs only [evs, Nat.reduceAdd, reduceIte, e, List.getElem?_cons_zero, List.getElem?_cons_succ, e1, e2]
end

theorem tms1 (t : T) : tms [t] = .sl 2 [[sv t.name, .sl 2 (t.args.map tcells)]] := by
  show A.sl 2 [tcells t] = _
  rw [tcells_eq]
theorem tms2 (t u : T) : tms [t, u] = .sl 2 [[sv t.name, .sl 2 (t.args.map tcells)], [sv u.name, .sl 2 (u.args.map tcells)]] := by
  show A.sl 2 [tcells t, tcells u] = _
  rw [tcells_eq, tcells_eq]
/-- A term that a draw gives: its size, and how far the draw went. -/
def TD (code : List Int) (z q : Nat) (a : Int) (o : Option Out) : Prop := ∃ a' s' t, a ≤ a' ∧ a' ≤ a + (q : Nat) ∧ tsz t ≤ z ∧ o = some (.top, [bts code, vi a', vu s', sv (T.name t), tms (T.args t)])

section
variable {code : List Int} (hb : By code)
include hb
theorem leaf_eq (l : List (List UInt8)) (hn : 1 ≤ l.length) (hn' : l.length ≤ 200) (hl : ∀ w ∈ l, w.length ≤ 1) (a s : Int) (h0 : 0 ≤ a) (h1 : a ≤ 1000000000) :
    ∃ a' s' w, w.length ≤ 1 ∧ a ≤ a' ∧ a' ≤ a + 1 ∧ C143_0 (bts code) (vi a) (vu s) (l.map cs) = some (.top, [bts code, vi a', vu s', sv w]) := by
  obtain ⟨a', s', w, hw, q1, q2, e⟩ := of_eq hb l hn hn' a s h0 h1
  exact ⟨a', s', w, hl w hw, q1, q2, e⟩
theorem grown_eq : ∀ (d : Nat), d ≤ 100 → ∀ (dep : Int), dep ≤ (d : Nat) → -1000 ≤ dep → ∀ (a s : Int), 0 ≤ a → a + ((3 * 4 ^ d : Nat) : Int) ≤ 1000000000 → TD code (3 * 4 ^ d) (3 * 4 ^ d) a (C109_0 (vi dep) (bts code) (vi a) (vu s)) := by
  have base : ∀ (d : Nat) (dep : Int), dep ≤ 1 → ∀ (a s : Int), 0 ≤ a → a + ((3 * 4 ^ d : Nat) : Int) ≤ 1000000000 → TD code (3 * 4 ^ d) (3 * 4 ^ d) a (C109_0 (vi dep) (bts code) (vi a) (vu s)) := by
    intro d dep hd a s h0 h1
    have hp : 1 ≤ 4 ^ d := Nat.pos_of_ne_zero (by simp)
    obtain ⟨a1, s1, w, hw, q1, q2, e⟩ := leaf_eq hb [[88], [89], [90], [97], [98], [88], [97]] (by decide) (by decide) (by decide) a s h0 (by omega)
    have e : C143_0 (bts code) (vi a) (vu s) [[sv [88]], [sv [89]], [sv [90]], [sv [97]], [sv [98]], [sv [88]], [sv [97]]] = some (.top, [bts code, vi a1, vu s1, sv w]) := e
    refine ⟨a1, s1, .mk w [], q1, by omega, by rw [tsz_mk]; simp [tszL]; omega, ?_⟩
    rw [c109_0]
    simp -implicitDefEqProofs only [evs, Nat.reduceAdd, reduceIte, hd, e, List.getElem?_cons_zero, List.getElem?_cons_succ, hR_4]
    rfl
  intro d
  induction d with
  | zero => intro _ dep hd _ a s h0 h1; exact base 0 dep (by omega) a s h0 h1
  | succ d ih =>
    intro hdd dep hd hd' a s h0 h1
    by_cases hle : dep ≤ 1
    · exact base (d + 1) dep hle a s h0 h1
    have hp : 1 ≤ 4 ^ d := Nat.pos_of_ne_zero (by simp)
    rw [Nat.pow_succ] at h1 ⊢
    generalize 4 ^ d = P at *
    obtain ⟨a1, s1, b1, q1, q2, e1⟩ := one_eq hb 3 (by decide) (by decide) a s h0 (by omega)
    cases b1 with
    | true =>
      obtain ⟨a2, s2, w, hw, r1, r2, e⟩ := leaf_eq hb [[88], [89], [90], [97], [98], [88], [97]] (by decide) (by decide) (by decide) a1 s1 (by omega) (by omega)
      have e : C143_0 (bts code) (vi a1) (vu s1) [[sv [88]], [sv [89]], [sv [90]], [sv [97]], [sv [98]], [sv [88]], [sv [97]]] = some (.top, [bts code, vi a2, vu s2, sv w]) := e
      refine ⟨a2, s2, .mk w [], by omega, by omega, by rw [tsz_mk]; simp [tszL]; omega, ?_⟩
      rw [c109_0]
      simp -implicitDefEqProofs only [evs, Nat.reduceAdd, reduceIte, hle, e1, e, List.getElem?_cons_zero, List.getElem?_cons_succ, hR_4]
      rfl
    | false =>
      obtain ⟨a2, s2, b2, r1, r2, e2⟩ := one_eq hb 2 (by decide) (by decide) a1 s1 (by omega) (by omega)
      have c1 : ck (dep - 1) = some (vi (dep - 1)) := ck_le (by omega) (by omega)
      obtain ⟨a3, s3, t3, u1, u2, u3, e3⟩ := ih (by omega) (dep - 1) (by omega) (by omega) a2 s2 (by omega) (by omega)
      cases b2 with
      | true =>
        refine ⟨a3, s3, .mk [102] [t3], by omega, by omega, by rw [tsz_mk]; simp [tszL]; omega, ?_⟩
        rw [c109_0]
        simp -implicitDefEqProofs only [evs, Nat.reduceAdd, reduceIte, hle, e1, e2, c1, e3, List.getElem?_cons_zero, List.getElem?_cons_succ, hR_4]
        rw [← tms1]
        rfl
      | false =>
        obtain ⟨a4, s4, t4, v1, v2, v3, e4⟩ := ih (by omega) (dep - 1) (by omega) (by omega) a3 s3 (by omega) (by omega)
        refine ⟨a4, s4, .mk [103] [t3, t4], by omega, by omega, by rw [tsz_mk]; simp [tszL]; omega, ?_⟩
        rw [c109_0]
        simp -implicitDefEqProofs only [evs, Nat.reduceAdd, reduceIte, hle, e1, e2, c1, e3, e4, List.getElem?_cons_zero, List.getElem?_cons_succ, hR_4]
        rw [← tms2]
        rfl
theorem term_eq (a s : Int) (h0 : 0 ≤ a) (h1 : a ≤ 999999000) : TD code 192 193 a (C70_0 (bts code) (vi a) (vu s)) := by
  obtain ⟨a1, s1, x, q1, q2, x0, x1, e1⟩ := pick_eq hb 3 (by decide) (by decide) a s h0 (by omega)
  have c1 : ck (1 + x) = some (vi (1 + x)) := ck_le (by omega) (by omega)
  obtain ⟨a2, s2, t, r1, r2, r3, e2⟩ := grown_eq hb 3 (by decide) (1 + x) (by omega) (by omega) a1 s1 (by omega) (by omega)
  refine ⟨a2, s2, t, by omega, by omega, r3, ?_⟩
  rw [c70_0]
  simp -implicitDefEqProofs only [evs, Nat.reduceAdd, reduceIte, e1, c1, e2, List.getElem?_cons_zero, List.getElem?_cons_succ, hR_4]
theorem atom_eq (a s : Int) (h0 : 0 ≤ a) (h1 : a ≤ 999990000) : TD code 400 400 a (C105_0 (bts code) (vi a) (vu s)) := by
  obtain ⟨a1, s1, x, q1, q2, x0, x1, e1⟩ := pick_eq hb 8 (by decide) (by decide) a s h0 (by omega)
  obtain ⟨a2, s2, t2, r1, r2, r3, e2⟩ := term_eq hb a1 s1 (by omega) (by omega)
  obtain ⟨a3, s3, t3, u1, u2, u3, e3⟩ := term_eq hb a2 s2 (by omega) (by omega)
  obtain ⟨a4, s4, t4, v1, v2, v3, e4⟩ := grown_eq hb 2 (by decide) 2 (by decide) (by decide) a1 s1 (by omega) (by omega)
  obtain ⟨a5, s5, t5, w1, w2, w3, e5⟩ := grown_eq hb 2 (by decide) 2 (by decide) (by decide) a4 s4 (by omega) (by omega)
  rw [c105_0]
  by_cases y0 : x = 0
  · subst y0
    refine ⟨a3, s3, .mk [61] [t2, t3], by omega, by omega, by rw [tsz_mk]; simp [tszL]; omega, ?_⟩
    simp -implicitDefEqProofs only [evs, Nat.reduceAdd, reduceIte, e1, e2, e3, List.getElem?_cons_zero, List.getElem?_cons_succ, hR_4]
    rw [← tms2]
    rfl
  by_cases y1 : x = 1
  · subst y1
    refine ⟨a3, s3, .mk [61] [t2, t3], by omega, by omega, by rw [tsz_mk]; simp [tszL]; omega, ?_⟩
    simp -implicitDefEqProofs only [evs, Nat.reduceAdd, reduceIte, e1, e2, e3, List.getElem?_cons_zero, List.getElem?_cons_succ, hR_4]
    rw [← tms2]
    rfl
  by_cases y2 : x = 2
  · subst y2
    refine ⟨a1, s1, .mk [114] [], by omega, by omega, by rw [tsz_mk]; simp [tszL], ?_⟩
    simp -implicitDefEqProofs only [evs, Nat.reduceAdd, reduceIte, e1, List.getElem?_cons_zero, List.getElem?_cons_succ, hR_4]
    rfl
  by_cases y3 : x = 3
  · subst y3
    refine ⟨a5, s5, .mk [113] [t4, t5], by omega, by omega, by rw [tsz_mk]; simp [tszL]; omega, ?_⟩
    simp -implicitDefEqProofs only [evs, Nat.reduceAdd, reduceIte, e1, e4, e5, List.getElem?_cons_zero, List.getElem?_cons_succ, hR_4]
    rw [← tms2]
    rfl
  by_cases y4 : x = 4
  · subst y4
    refine ⟨a5, s5, .mk [113] [t4, t5], by omega, by omega, by rw [tsz_mk]; simp [tszL]; omega, ?_⟩
    simp -implicitDefEqProofs only [evs, Nat.reduceAdd, reduceIte, e1, e4, e5, List.getElem?_cons_zero, List.getElem?_cons_succ, hR_4]
    rw [← tms2]
    rfl
  · refine ⟨a4, s4, .mk [112] [t4], by omega, by omega, by rw [tsz_mk]; simp [tszL]; omega, ?_⟩
    simp -implicitDefEqProofs only [evs, Nat.reduceAdd, reduceIte, e1, y0, y1, y2, y3, y4, e4, List.getElem?_cons_zero, List.getElem?_cons_succ, hR_4]
    rw [← tms1]
    rfl
theorem tower_eq (d : Nat) (hd : d ≤ 20) (a s : Int) (h0 : 0 ≤ a) (h1 : a ≤ 999990000) : TD code 60 1 a (C144_0 (vi (d : Nat)) (bts code) (vi a) (vu s)) := by
  obtain ⟨a1, s1, w, hw, q1, q2, e⟩ := leaf_eq hb [[88], [97]] (by decide) (by decide) (by decide) a s h0 (by omega)
  have e : C143_0 (bts code) (vi a) (vu s) [[sv [88]], [sv [97]]] = some (.top, [bts code, vi a1, vu s1, sv w]) := e
  have loop : ∀ (k : Nat) (t : T) (x1 : A) (r0 : List (List A)), k ≤ 20 → ∃ u, tsz u ≤ tsz t + 2 * k ∧ L144c0_0 (vi (k : Nat)) x1 (sv t.name) (bts code) (vi a1) (vu s1) r0 (t.args.map tcells) = some (.top, [bts code, vi a1, vu s1, sv (T.name u), tms (T.args u)]) := by
    intro k
    induction k with
    | zero =>
      intro t x1 r0 _
      refine ⟨t, by omega, ?_⟩
      have h : ¬ (1 : Int) < ((0 : Nat) : Int) := by omega
      rw [l144c0_0]
      simp -implicitDefEqProofs only [evs, Nat.reduceAdd, reduceIte, h]
    | succ k ih =>
      intro t x1 r0 hk
      by_cases h : (1 : Int) < ((k + 1 : Nat) : Int)
      · obtain ⟨u, hu, eu⟩ := ih (.mk [102] [t]) x1 r0 (by omega)
        rw [tsz_mk] at hu
        simp only [List.length_cons, List.length_nil, tszL] at hu
        refine ⟨u, by omega, ?_⟩
        have c1 : ck (((k + 1 : Nat) : Int) - 1) = some (vi (k : Nat)) := by rw [show ((k + 1 : Nat) : Int) - 1 = (k : Nat) by omega]; exact ck_le (by omega) (by omega)
        have eu : L144c0_0 (vi (k : Nat)) x1 (sv [102]) (bts code) (vi a1) (vu s1) r0 [tcells t] = _ := eu
        rw [tcells_eq] at eu
        rw [l144c0_0]
        simp -implicitDefEqProofs only [evs, Nat.reduceAdd, reduceIte, h, c1, eu]
      · refine ⟨t, by omega, ?_⟩
        rw [l144c0_0]
        simp -implicitDefEqProofs only [evs, Nat.reduceAdd, reduceIte, h]
  obtain ⟨u, hu, eu⟩ := loop d (.mk w []) (sv []) [] hd
  rw [tsz_mk] at hu
  simp only [List.length_nil, tszL] at hu
  refine ⟨a1, s1, u, q1, q2, by omega, ?_⟩
  have eu : L144c0_0 (vi (d : Nat)) (sv []) (sv w) (bts code) (vi a1) (vu s1) [] [] = _ := eu
  rw [c144_0]
  simp -implicitDefEqProofs only [evs, Nat.reduceAdd, reduceIte, e, List.getElem?_cons_zero, List.getElem?_cons_succ, eu, hR_4]
end
end Go.Proofs.YtnbjmmldjggkfaaGreat
/- VALUES OF TERMS: what the laws' helpers compute. -/
namespace Go.Proofs.YtnbjmmldjggkfaaGreat
open Go Go.RowKit Go.Proofs.YtnbjmmldjggkfaaGreat.Abs

set_option linter.unusedSimpArgs false
set_option linter.unusedVariables false
set_option maxHeartbeats 1000000

theorem pF16 {n : Nat} (h : n ≤ 4194304) : pFit n 16 = true := by
  unfold pFit
  exact decide_eq_true ⟨by omega, by omega⟩
theorem pF8v {n : Nat} (h : n ≤ 4194304) : pFit n 8 = true := by
  unfold pFit
  exact decide_eq_true ⟨by omega, by omega⟩
abbrev nbs (vs : List Int) : A := .sl 1 (vs.map ci)
theorem pQuo {x n : Int} (h0 : 0 ≤ x) (hn : 2 ≤ n) (hx : x ≤ 9223372036854775807) : pBin .quo false (vi x) (vi n) = some (vi (x / n)) := by
  show (if n = 0 then none else ck (x.tdiv n)) = _
  rw [if_neg (by omega), Int.tdiv_eq_ediv_of_nonneg h0, ck_le]
  · have := Int.ediv_nonneg h0 (show (0 : Int) ≤ n by omega); omega
  · have := Int.ediv_le_self n h0; omega
theorem pConvY (x : Int) (h0 : 0 ≤ x) (h1 : x ≤ 255) : pConv .i64 (vy x) = some (vi x) := by
  rw [pC_i64, ck_le (by omega) (by omega)]
theorem pRowP_cs {l : List (List UInt8)} {i : Nat} (h : i < l.length) : pRowP (l.map cs) i 0 = some (sv l[i]) := by
  unfold pRowP
  simp [h]
section
variable {code : List Int} (hb : By code)
include hb
theorem vAt_eq (i : Int) (h0 : 0 ≤ i) (h1 : i ≤ 1000) : ∃ x, 0 ≤ x ∧ x ≤ 255 ∧ G 30 [bts code, vi i] = some (vi x, []) := by
  obtain ⟨k, rfl⟩ : ∃ k : Nat, i = (k : Nat) := ⟨i.toNat, by omega⟩
  have hl := hb.2
  rw [g30]
  by_cases hk : k < code.length
  · have hlt : ((k : Nat) : Int) < ((code.length : Nat) : Int) := by omega
    have hv := hb.1 code[k] (List.getElem_mem hk)
    have c := pConvY code[k] hv.1 hv.2
    exact ⟨code[k], hv.1, hv.2, by simp -implicitDefEqProofs only [evs, Nat.reduceAdd, reduceIte, hlt, pIndexAddr_map hk, c]⟩
  · have hlt : ¬ ((k : Nat) : Int) < ((code.length : Nat) : Int) := by omega
    have c1 : ck (((k : Nat) : Int) * 7) = some (vi (((k : Nat) : Int) * 7)) := ck_le (by omega) (by omega)
    have c2 : ck (((k : Nat) : Int) * 7 + ((code.length : Nat) : Int)) = some (vi (((k : Nat) : Int) * 7 + ((code.length : Nat) : Int))) := ck_le (by omega) (by omega)
    have c3 := pRem (x := ((k : Nat) : Int) * 7 + ((code.length : Nat) : Int)) (n := 256) (by omega) (by decide)
    exact ⟨(((k : Nat) : Int) * 7 + ((code.length : Nat) : Int)) % 256, Int.emod_nonneg _ (by decide), by have := Int.emod_lt_of_pos (((k : Nat) : Int) * 7 + ((code.length : Nat) : Int)) (show (0 : Int) < 256 by decide); omega, by simp -implicitDefEqProofs only [evs, Nat.reduceAdd, reduceIte, hlt, c1, c2, c3]⟩
theorem vMix_end (vs : List Int) (hvs : ∀ v ∈ vs, 0 ≤ v ∧ v ≤ 10) (hl : vs.length ≤ 4000000) : ∀ i, i ≤ vs.length → ∀ h : Int, 0 ≤ h → h < 65521 → ∃ x, 0 ≤ x ∧ L75_1 (bts code) (nbs vs) (vi h) (vi (i : Nat)) = some (vi x, []) := by
  refine upto ?_ ?_
  · intro h h0 h1
    obtain ⟨a, a0, a1, ea⟩ := vAt_eq hb (h % 53) (Int.emod_nonneg _ (by decide)) (by have := Int.emod_lt_of_pos h (show (0 : Int) < 53 by decide); omega)
    obtain ⟨b, b0, b1, eb⟩ := vAt_eq hb (h % 89) (Int.emod_nonneg _ (by decide)) (by have := Int.emod_lt_of_pos h (show (0 : Int) < 89 by decide); omega)
    have r1 := pRem (x := h) (n := 53) h0 (by decide)
    have r2 := pRem (x := h) (n := 89) h0 (by decide)
    have c1 : ck (13 * a) = some (vi (13 * a)) := ck_le (by omega) (by omega)
    have c2 : ck (h + 13 * a) = some (vi (h + 13 * a)) := ck_le (by omega) (by omega)
    have c3 : ck (h + 13 * a + b) = some (vi (h + 13 * a + b)) := ck_le (by omega) (by omega)
    have q := pQuo (x := h + 13 * a + b) (n := 3) (by omega) (by decide) (by omega)
    refine ⟨(h + 13 * a + b) / 3, Int.ediv_nonneg (by omega) (by decide), ?_⟩
    rw [l75_1]
    simp -implicitDefEqProofs only [evs, Nat.reduceAdd, reduceIte, r1, r2, ea, eb, c1, c2, c3, q]
  · intro i hi ih h h0 h1
    have hlt : (i : Int) < ((vs.length : Nat) : Int) := by omega
    have h5 := add_one hi (by show vs.length ≤ 9223372036854775807; omega)
    have hv := hvs vs[i] (List.getElem_mem hi)
    have c1 : ck (37 * h) = some (vi (37 * h)) := ck_le (by omega) (by omega)
    have c2 : ck (37 * h + vs[i]) = some (vi (37 * h + vs[i])) := ck_le (by omega) (by omega)
    have c3 : ck (37 * h + vs[i] + 1) = some (vi (37 * h + vs[i] + 1)) := ck_le (by omega) (by omega)
    have r := pRem (x := 37 * h + vs[i] + 1) (n := 65521) (by omega) (by decide)
    obtain ⟨x, x0, e⟩ := ih ((37 * h + vs[i] + 1) % 65521) (Int.emod_nonneg _ (by decide)) (Int.emod_lt_of_pos _ (by decide))
    refine ⟨x, x0, ?_⟩
    rw [l75_1]
    simp -implicitDefEqProofs only [evs, Nat.reduceAdd, reduceIte, hlt, pIndexAddr_map hi, c1, c2, c3, r, h5, e]
theorem vMix_eq (n : List UInt8) (hn : n.length ≤ 4000000) (vs : List Int) (hvs : ∀ v ∈ vs, 0 ≤ v ∧ v ≤ 10) (hl : vs.length ≤ 4000000) : ∃ x, 0 ≤ x ∧ G 75 [bts code, sv n, nbs vs] = some (vi x, []) := by
  have key : ∀ i, i ≤ n.length → ∀ h : Int, 0 ≤ h → h < 65521 → ∃ x, 0 ≤ x ∧ L75_0 (bts code) (sv n) (nbs vs) (vi h) (vi (i : Nat)) = some (vi x, []) := by
    refine upto ?_ ?_
    · intro h h0 h1
      obtain ⟨x, x0, e⟩ := vMix_end hb vs hvs hl 0 (Nat.zero_le _) h h0 h1
      refine ⟨x, x0, ?_⟩
      rw [l75_0]
      simp only [Int.natCast_zero] at e
      simp -implicitDefEqProofs only [evs, Nat.reduceAdd, reduceIte, e]
    · intro i hi ih h h0 h1
      have hlt : (i : Int) < ((n.length : Nat) : Int) := by omega
      have h5 := add_one hi (by show n.length ≤ 9223372036854775807; omega)
      have hx := pIndexS_at hi
      have hc : n[i].toNat ≤ 255 := by have := n[i].toNat_lt; omega
      generalize n[i].toNat = c at *
      have c0 := pConvY ((c : Nat) : Int) (by omega) (by omega)
      have c1 : ck (31 * h) = some (vi (31 * h)) := ck_le (by omega) (by omega)
      have c2 : ck (31 * h + ((c : Nat) : Int)) = some (vi (31 * h + ((c : Nat) : Int))) := ck_le (by omega) (by omega)
      have r := pRem (x := 31 * h + ((c : Nat) : Int)) (n := 65521) (by omega) (by decide)
      obtain ⟨x, x0, e⟩ := ih ((31 * h + ((c : Nat) : Int)) % 65521) (Int.emod_nonneg _ (by decide)) (Int.emod_lt_of_pos _ (by decide))
      refine ⟨x, x0, ?_⟩
      rw [l75_0]
      simp -implicitDefEqProofs only [evs, Nat.reduceAdd, reduceIte, hlt, hx, c0, c1, c2, r, h5, e]
  obtain ⟨x, x0, e⟩ := key 0 (Nat.zero_le _) 17 (by decide) (by decide)
  refine ⟨x, x0, ?_⟩
  rw [g75]
  simp only [Int.natCast_zero] at e
  exact e
end
/-- What a symbol does with values, as the laws' helper tells. -/
noncomputable def mixN (code : List Int) (n : List UInt8) (vs : List Int) : Int := match G 75 [bts code, sv n, nbs vs] with | some (.val (.int _ x), _) => x | _ => 0
theorem mixN_eq {code : List Int} (hb : By code) (n : List UInt8) (hn : n.length ≤ 4000000) (vs : List Int) (hvs : ∀ v ∈ vs, 0 ≤ v ∧ v ≤ 10) (hl : vs.length ≤ 4000000) : 0 ≤ mixN code n vs ∧ G 75 [bts code, sv n, nbs vs] = some (vi (mixN code n vs), []) := by
  obtain ⟨x, x0, e⟩ := vMix_eq hb n hn vs hvs hl
  have : mixN code n vs = x := by unfold mixN; rw [e]
  rw [this]
  exact ⟨x0, e⟩
noncomputable abbrev mixM (code : List Int) (s : Int) : List UInt8 → List Int → Int := fun n vs => mixN code n vs % s

/-! ### What variables stand for -/
abbrev Env := List (List UInt8 × Int)
abbrev ev (E : Env) : A := .agg [.sl 1 (E.map fun p => cs p.1), .sl 1 (E.map fun p => ci p.2)]
def getE (E : Env) (n : List UInt8) : Int := E.foldl (fun a p => if p.1 = n then p.2 else a) 0
theorem getE_snoc (E : Env) (p : List UInt8 × Int) (n : List UInt8) : getE (E ++ [p]) n = if p.1 = n then p.2 else getE E n := by
  unfold getE
  rw [List.foldl_append]
  rfl
theorem getE_eq (E : Env) (hl : E.length ≤ 4000000) (n : List UInt8) : G 74 [ev E, sv n] = some (vi (getE E n), []) := by
  have key : ∀ k, k ≤ E.length → L74_0 (sv n) (vi ((k : Nat) - 1 : Int)) (.sl 1 (E.map fun p => cs p.1)) (.sl 1 (E.map fun p => ci p.2)) = some (vi (getE (E.take k) n), []) := by
    intro k
    induction k with
    | zero =>
      intro _
      have h : ¬ (0 : Int) ≤ ((0 : Nat) : Int) - 1 := by omega
      rw [l74_0]
      simp -implicitDefEqProofs only [evs, Nat.reduceAdd, reduceIte, h]
      rfl
    | succ k ih =>
      intro hk
      have hk' : k < E.length := by omega
      have h : (0 : Int) ≤ (k : Int) := by omega
      have e1 : ((k + 1 : Nat) : Int) - 1 = (k : Int) := by omega
      have c1 : ck ((k : Int) - 1) = some (vi ((k : Int) - 1)) := ck_le (by omega) (by omega)
      have i1 := pIndexAddr_map (k := 1) (f := fun p : List UInt8 × Int => cs p.1) hk'
      have i2 := pIndexAddr_map (k := 1) (f := fun p : List UInt8 × Int => ci p.2) hk'
      rw [e1, l74_0, List.take_succ_eq_append_getElem hk', getE_snoc]
      by_cases hn : E[k].1 = n
      · rw [if_pos hn]
        simp -implicitDefEqProofs only [evs, Nat.reduceAdd, reduceIte, h, i1, i2, hn]
      · rw [if_neg hn, ← ih (by omega)]
        simp -implicitDefEqProofs only [evs, Nat.reduceAdd, reduceIte, h, i1, i2, hn, c1]
  have := key E.length (Nat.le_refl _)
  rw [List.take_length] at this
  have c1 : ck (((E.length : Nat) : Int) - 1) = some (vi (((E.length : Nat) : Int) - 1)) := ck_le (by omega) (by omega)
  rw [g74]
  simp -implicitDefEqProofs only [evs, Nat.reduceAdd, reduceIte, c1, this]
theorem with_eqE (E : Env) (hl : E.length ≤ 1000000) (n : List UInt8) (v : Int) : G 29 [ev E, sv n, vi v] = some (ev (E ++ [(n, v)]), []) := by
  have f1 : pFit E.length 16 = true := pF16 (by omega)
  have f2 : pFit E.length 8 = true := pF8v (by omega)
  have f3 : pFit (E.length + 1) 16 = true := pF16 (by omega)
  have f4 : pFit (E.length + 1) 8 = true := pF8v (by omega)
  rw [g29]
  show _ = some (A.agg [.sl 1 ((E ++ [(n, v)]).map fun p => cs p.1), .sl 1 ((E ++ [(n, v)]).map fun p => ci p.2)], [])
  simp -implicitDefEqProofs only [evs, Nat.reduceAdd, reduceIte, f1, f2, f3, f4, List.map_append]
  rfl
end Go.Proofs.YtnbjmmldjggkfaaGreat
/- VALUES OF TERMS: terms, atoms, clauses and rules in an interpretation. -/
namespace Go.Proofs.YtnbjmmldjggkfaaGreat
open Go Go.RowKit Go.Proofs.YtnbjmmldjggkfaaGreat.Abs

set_option linter.unusedSimpArgs false
set_option linter.unusedVariables false
set_option maxHeartbeats 1000000

theorem mixM_good {code : List Int} (s : Int) (hs : 1 ≤ s) (n : List UInt8) (vs : List Int) : 0 ≤ mixM code s n vs ∧ mixM code s n vs < s := ⟨Int.emod_nonneg _ (by omega), Int.emod_lt_of_pos _ (by omega)⟩
theorem pIndexS_z {c : UInt8} {r : List UInt8} : pIndexS (sv (c :: r)) (vi 0) = some (vy (c.toNat : Int)) := pIndexS_0
section
variable {code : List Int} (hb : By code)
include hb
theorem vValue_args (s : Int) (hs : 1 ≤ s ∧ s ≤ 10) (E : Env) (hE : ∀ x, 0 ≤ getE E x ∧ getE E x < s) (n : List UInt8) (hn : n.length ≤ 1048576) (us : List T) (hl : us.length ≤ 1048576) (ih : ∀ u ∈ us, G 33 [bts code, vi s, ev E, tm u] = some (vi (val (mixM code s) (getE E) u), [])) :
    L33_0 (bts code) (vi s) (vi 0) (.sl 1 (E.map fun p => cs p.1)) (.sl 1 (E.map fun p => ci p.2)) (sv n) (tms us) [] = some (vi (mixM code s n (us.map (val (mixM code s) (getE E)))), []) := by
  have key := upto (P := fun i => L33_0 (bts code) (vi s) (vi (i : Nat)) (.sl 1 (E.map fun p => cs p.1)) (.sl 1 (E.map fun p => ci p.2)) (sv n) (tms us) (((us.take i).map (val (mixM code s) (getE E))).map ci) = some (vi (mixM code s n (us.map (val (mixM code s) (getE E)))), [])) (n := us.length) ?_ ?_ 0 (Nat.zero_le _)
  · exact key
  · have hv : ∀ v ∈ us.map (val (mixM code s) (getE E)), 0 ≤ v ∧ v ≤ 10 := by
      intro v hv
      obtain ⟨u, _, rfl⟩ := List.mem_map.1 hv
      have := val_good (good := fun v => 0 ≤ v ∧ v < s) (M := mixM code s) (mixM_good s hs.1) hE u
      omega
    obtain ⟨m0, me⟩ := mixN_eq hb n (by omega) _ hv (by rw [List.length_map]; omega)
    have r := pRem (x := mixN code n (us.map (val (mixM code s) (getE E)))) (n := s) m0 hs.1
    rw [List.take_length, l33_0]
    generalize us.map (val (mixM code s) (getE E)) = vs at *
    show _ = some (vi (mixN code n vs % s), [])
    simp -implicitDefEqProofs only [evs, Nat.reduceAdd, reduceIte, me, r]
  · intro i hi ihi
    have hlt : (i : Int) < ((us.length : Nat) : Int) := by omega
    have h5 := add_one hi (by show us.length ≤ 9223372036854775807; omega)
    have e1 := ih us[i] (List.getElem_mem hi)
    have f : pFit (i + 1) 8 = true := pF8v (by omega)
    have hmin : min i us.length = i := by omega
    rw [List.take_succ_eq_append_getElem hi, List.map_append, List.map_append, show ([us[i]].map (val (mixM code s) (getE E))).map ci = [[vi (val (mixM code s) (getE E) us[i])]] from rfl] at ihi
    rw [l33_0]
    generalize val (mixM code s) (getE E) us[i] = v at *
    have ihi : L33_0 (bts code) (vi s) (vi ((i + 1 : Nat) : Int)) (.sl 1 (E.map fun p => cs p.1)) (.sl 1 (E.map fun p => ci p.2)) (sv n) (tms us) (rApp (((us.take i).map (val (mixM code s) (getE E))).map ci) [[vi v]]) = _ := ihi
    have hlen : (((us.take i).map (val (mixM code s) (getE E))).map ci).length = i := by simp [hmin]
    generalize ((us.take i).map (val (mixM code s) (getE E))).map ci = R at *
    have f2 : pFit (R.length + 1) 8 = true := by rw [hlen]; exact f
    simp -implicitDefEqProofs only [evs, Nat.reduceAdd, reduceIte, hlt, pIndexAddr_map hi, pLoadN_tcells, e1, h5, f2, ihi]
theorem vValue_eq (s : Int) (hs : 1 ≤ s ∧ s ≤ 10) (E : Env) (hEl : E.length ≤ 4000000) (hE : ∀ x, 0 ≤ getE E x ∧ getE E x < s) : ∀ t : T, Tz t → G 33 [bts code, vi s, ev E, tm t] = some (vi (val (mixM code s) (getE E) t), []) := by
  refine T.ind fun t ih ht => ?_
  have hz := ht
  unfold Tz at hz
  rw [tsz_eq] at hz
  have e0 := vValue_args hb s hs E hE t.name (by omega) t.args (by omega) fun u hu => ih u hu (ht.args u hu)
  have e1 := getE_eq E hEl t.name
  rw [g33, val_eq]
  cases ha : t.args with
  | cons u us =>
    rw [ha] at e0
    have hne : ¬ (((u :: us).length : Nat) : Int) = 0 := by rw [List.length_cons]; omega
    rw [show (u :: us).isEmpty = false from rfl, Bool.false_and, if_neg Bool.false_ne_true]
    generalize u :: us = vs at *
    simp -implicitDefEqProofs only [evs, Nat.reduceAdd, reduceIte, ha, hne, e0]
  | nil =>
    rw [ha] at e0
    rw [show ([] : List T).isEmpty = true from rfl, Bool.true_and]
    cases hn : t.name with
    | nil =>
      rw [hn] at e0
      rw [show upN [] = false from rfl, if_neg Bool.false_ne_true]
      have z1 : (((([] : List T).length : Nat) : Int) = 0) := rfl
      have z2 : ¬ (0 : Int) < ((0 : Nat) : Int) := by decide
      generalize hE0 : ([] : List T) = vs at *
      simp -implicitDefEqProofs only [evs, Nat.reduceAdd, reduceIte, ha, hn, z1, z2, e0]
    | cons c r =>
      rw [hn] at e0 e1
      have hpos : (0 : Int) < (((c :: r).length : Nat) : Int) := Int.natCast_pos.2 (Nat.succ_pos _)
      have hx := pIndexS_z (c := c) (r := r)
      have hu : upN (c :: r) = (decide ((65 : Int) ≤ (c.toNat : Int)) && decide ((c.toNat : Int) ≤ 90)) := rfl
      rw [hu]
      have z1 : (((([] : List T).length : Nat) : Int) = 0) := rfl
      generalize hE0 : ([] : List T) = vs at *
      generalize c :: r = nm at *
      by_cases h1 : (65 : Int) ≤ (c.toNat : Int)
      · by_cases h2 : (c.toNat : Int) ≤ 90
        · rw [decide_eq_true h1, decide_eq_true h2, Bool.and_self, if_pos rfl]
          simp -implicitDefEqProofs only [evs, Nat.reduceAdd, reduceIte, ha, hn, z1, hpos, hx, h1, h2, e1]
        · rw [decide_eq_true h1, decide_eq_false h2, Bool.and_false, if_neg Bool.false_ne_true]
          simp -implicitDefEqProofs only [evs, Nat.reduceAdd, reduceIte, ha, hn, z1, hpos, hx, h1, h2, e0]
      · rw [decide_eq_false h1, Bool.false_and, if_neg Bool.false_ne_true]
        simp -implicitDefEqProofs only [evs, Nat.reduceAdd, reduceIte, ha, hn, z1, hpos, hx, h1, e0]
theorem vHolds_eq (s : Int) (hs : 1 ≤ s ∧ s ≤ 10) (E : Env) (hEl : E.length ≤ 4000000) (hE : ∀ x, 0 ≤ getE E x ∧ getE E x < s) (t : T) (hn : t.name = [61]) (hl : t.args.length = 2) (ht : Tz t) : G 34 [bts code, vi s, ev E, tm t] = some (vb (decide (val (mixM code s) (getE E) (lhsT t) = val (mixM code s) (getE E) (rhsT t))), []) := by
  obtain ⟨n, us⟩ := t
  have hn : n = [61] := hn
  subst hn
  obtain ⟨u, v, rfl⟩ : ∃ u v, us = [u, v] := by
    match us, hl with
    | [u, v], _ => exact ⟨u, v, rfl⟩
  have e1 := vValue_eq hb s hs E hEl hE u (ht.args u (List.mem_cons_self ..))
  have e2 := vValue_eq hb s hs E hEl hE v (ht.args v (List.mem_cons_of_mem _ (List.mem_cons_self ..)))
  show _ = some (vb (decide (val (mixM code s) (getE E) u = val (mixM code s) (getE E) v)), [])
  generalize val (mixM code s) (getE E) u = x at *
  generalize val (mixM code s) (getE E) v = y at *
  have i0 : pIndexAddr 2 (tms [u, v]) (vi 0) = some (.elt (tcells u) 0) := pIndexAddr_map (xs := [u, v]) (i := 0) (by simp)
  have i1 : pIndexAddr 2 (tms [u, v]) (vi 1) = some (.elt (tcells v) 0) := pIndexAddr_map (xs := [u, v]) (i := 1) (by simp)
  have c1 : ck ((0 : Int) + 1) = some (vi 1) := ck_le (n := 0 + 1) (by decide) (by decide)
  have c2 : ck ((1 : Int) + 1) = some (vi 2) := ck_le (n := 1 + 1) (by decide) (by decide)
  have l0 : (0 : Int) < ((([u, v] : List T).length : Nat) : Int) := show (0 : Int) < ((2 : Nat) : Int) by decide
  have l1 : (1 : Int) < ((([u, v] : List T).length : Nat) : Int) := show (1 : Int) < ((2 : Nat) : Int) by decide
  have l2 : ¬ (2 : Int) < ((([u, v] : List T).length : Nat) : Int) := show ¬ (2 : Int) < ((2 : Nat) : Int) by decide
  have f1 : pFit 1 8 = true := pF8v (by decide)
  have f2 : pFit (1 + 1) 8 = true := pF8v (by decide)
  have k2 : L34_0 (bts code) (vi s) (vi 2) (.sl 1 (E.map fun p => cs p.1)) (.sl 1 (E.map fun p => ci p.2)) (sv [61]) (tms [u, v]) [[vi x], [vi y]] = some (vb (decide (x = y)), []) := by
    rw [l34_0]
    generalize [u, v] = us at *
    have p0 : pIx 2 (vi 0) = some 0 := rfl
    have p1 : pIx 2 (vi 1) = some 1 := rfl
    have q0 : pRowP [[vi x], [vi y]] 0 0 = some (vi x) := rfl
    have q1 : pRowP [[vi x], [vi y]] 1 0 = some (vi y) := rfl
    have hl : ([[vi x], [vi y]] : List (List A)).length = 2 := rfl
    have h2 : ((2 : Nat) : Int) = 2 := rfl
    generalize hR : [[vi x], [vi y]] = R at *
    simp -implicitDefEqProofs only [evs, Nat.reduceAdd, reduceIte, l2, hl, h2, p0, p1, q0, q1]
  have k1 : L34_0 (bts code) (vi s) (vi 1) (.sl 1 (E.map fun p => cs p.1)) (.sl 1 (E.map fun p => ci p.2)) (sv [61]) (tms [u, v]) [[vi x]] = some (vb (decide (x = y)), []) := by
    have k2 : L34_0 (bts code) (vi s) (vi 2) (.sl 1 (E.map fun p => cs p.1)) (.sl 1 (E.map fun p => ci p.2)) (sv [61]) (tms [u, v]) (rApp [[vi x]] [[vi y]]) = some (vb (decide (x = y)), []) := k2
    rw [l34_0]
    generalize [u, v] = us at *
    have hl : ([[vi x]] : List (List A)).length = 1 := rfl
    generalize hR : [[vi x]] = R at *
    simp -implicitDefEqProofs only [evs, Nat.reduceAdd, reduceIte, l1, i1, pLoadN_tcells, e2, c2, hl, f2, k2]
  have k1 : L34_0 (bts code) (vi s) (vi 1) (.sl 1 (E.map fun p => cs p.1)) (.sl 1 (E.map fun p => ci p.2)) (sv [61]) (tms [u, v]) (rApp [] [[vi x]]) = some (vb (decide (x = y)), []) := k1
  rw [g34]
  have k0 : L34_0 (bts code) (vi s) (vi 0) (.sl 1 (E.map fun p => cs p.1)) (.sl 1 (E.map fun p => ci p.2)) (sv [61]) (tms [u, v]) [] = some (vb (decide (x = y)), []) := by
    rw [l34_0]
    generalize [u, v] = us at *
    simp -implicitDefEqProofs only [evs, Nat.reduceAdd, reduceIte, l0, i0, pLoadN_tcells, e1, c1, f1, k1]
  exact k0
end

/-! ### Names -/
theorem vnA_len (l : List (List UInt8)) (n : List UInt8) : (vnA l n).length ≤ l.length + 1 := by
  unfold vnA
  split
  · omega
  · simp
theorem vn_len : ∀ (t : T) (l : List (List UInt8)), (vn l t).length ≤ l.length + nodes t := by
  refine T.ind fun t ih l => ?_
  have hn := nodes_eq t
  rw [vn_eq]
  split
  · have := vnA_len l t.name; omega
  · have key : ∀ us : List T, (∀ u ∈ us, u ∈ t.args) → ∀ l : List (List UInt8), (vnL l us).length ≤ l.length + nodesL us := by
      intro us
      induction us with
      | nil => intro _ l; simp [vnL, nodesL]
      | cons u us ih2 =>
        intro hu l
        have h1 := ih u (hu u (by simp)) l
        have h2 := ih2 (fun v hv => hu v (by simp [hv])) (vn l u)
        rw [vnL, nodesL]
        omega
    have := key t.args (fun _ h => h) l
    omega
theorem vNames_var (n : List UInt8) (x : A) (hx : n.length ≤ 1048576) (l : List (List UInt8)) (hl : l.length ≤ 4000000) : L110c0_0 (vi 0) (sv n) x (l.map cs) = some (.top, [.sl 1 ((vnA l n).map cs)]) := by
  have key := upto (P := fun i => L110c0_0 (vi (i : Nat)) (sv n) x (l.map cs) = some (.top, [.sl 1 ((if (l.drop i).contains n then l else l ++ [n]).map cs)])) (n := l.length) ?_ ?_ 0 (Nat.zero_le _)
  · exact key
  · have f : pFit (l.length + 1) 16 = true := pF16 (by omega)
    rw [l110c0_0, List.drop_length, show ([] : List (List UInt8)).contains n = false from rfl, if_neg Bool.false_ne_true, List.map_append]
    simp -implicitDefEqProofs only [evs, Nat.reduceAdd, reduceIte, f]
    rfl
  · intro i hi ih
    have hlt : (i : Int) < ((l.length : Nat) : Int) := by omega
    have h5 := add_one hi (by show l.length ≤ 9223372036854775807; omega)
    have x1 : pIx l.length (vi ((i : Nat) : Int)) = some i := pIx_lt hi
    have x2 := pRowP_cs hi
    rw [l110c0_0, drop_cons hi, List.contains_cons]
    by_cases he : l[i] = n
    · rw [← he, beq_self_eq_true, Bool.true_or, if_pos rfl]
      rw [he] at x2 ⊢
      simp -implicitDefEqProofs only [evs, Nat.reduceAdd, reduceIte, hlt, x1, x2]
    · have hne : (n == l[i]) = false := by
        cases h : (n == l[i]) with
        | false => rfl
        | true => exact absurd (eq_of_beq h).symm he
      rw [hne, Bool.false_or, ← ih]
      simp -implicitDefEqProofs only [evs, Nat.reduceAdd, reduceIte, hlt, x1, x2, he, h5]
theorem vNames_eq : ∀ t : T, Tz t → ∀ l : List (List UInt8), l.length + nodes t ≤ 4000000 → C110_0 (tm t) (l.map cs) = some (.top, [.sl 1 ((vn l t).map cs)]) := by
  refine T.ind fun t ih ht l hl => ?_
  have hz := ht
  unfold Tz at hz
  rw [tsz_eq] at hz
  have hn := nodes_eq t
  have e1 : ∀ x, L110c0_0 (vi 0) (sv t.name) x (l.map cs) = _ := fun x => vNames_var t.name x (by omega) l (by omega)
  have key := upto (P := fun i => ∀ l : List (List UInt8), l.length + nodesL (t.args.drop i) ≤ 4000000 → L110c0_2 (vi (i : Nat)) (sv t.name) (tms t.args) (l.map cs) = some (.top, [.sl 1 ((vnL l (t.args.drop i)).map cs)])) (n := t.args.length) ?_ ?_ 0 (Nat.zero_le _)
  rotate_left
  · intro l _
    rw [l110c0_2, List.drop_length]
    simp -implicitDefEqProofs only [evs, Nat.reduceAdd, reduceIte]
    rfl
  · intro i hi ihi l hl
    have hlt : (i : Int) < ((t.args.length : Nat) : Int) := by omega
    have h5 := add_one hi (by show t.args.length ≤ 9223372036854775807; omega)
    rw [drop_cons hi, nodesL] at hl
    have q := ih t.args[i] (List.getElem_mem hi) (ht.args _ (List.getElem_mem hi)) l (by omega)
    have hln := vn_len t.args[i] l
    have q2 := ihi (vn l t.args[i]) (by omega)
    rw [l110c0_2, drop_cons hi, vnL]
    generalize vn l t.args[i] = l' at *
    have hr : hR 1 (A.top, [.sl 1 (l'.map cs)]) 0 = some (l'.map cs) := rfl
    simp -implicitDefEqProofs only [evs, Nat.reduceAdd, reduceIte, hlt, pIndexAddr_map hi, pLoadN_tcells, q, hr, h5, q2]
  have e2 : L110c0_1 (vi 0) (sv t.name) (tms t.args) (l.map cs) = some (.top, [.sl 1 ((vnL l t.args).map cs)]) := by
    have key := key l (by rw [List.drop_zero]; omega)
    rw [List.drop_zero] at key
    have : L110c0_1 (vi 0) (sv t.name) (tms t.args) (l.map cs) = L110c0_2 (vi 0) (sv t.name) (tms t.args) (l.map cs) := by rw [l110c0_1, l110c0_2]
    rw [this]
    exact key
  rw [c110_0, vn_eq]
  cases ha : t.args with
  | cons u us =>
    rw [ha] at e2
    have hne : ¬ (((u :: us).length : Nat) : Int) = 0 := by rw [List.length_cons]; omega
    rw [show (u :: us).isEmpty = false from rfl, Bool.false_and, if_neg Bool.false_ne_true]
    generalize u :: us = vs at *
    simp -implicitDefEqProofs only [evs, Nat.reduceAdd, reduceIte, ha, hne, e2]
  | nil =>
    rw [ha] at e2
    rw [show ([] : List T).isEmpty = true from rfl, Bool.true_and]
    cases hnm : t.name with
    | nil =>
      rw [hnm] at e2
      rw [show upN [] = false from rfl, if_neg Bool.false_ne_true]
      have z1 : (((([] : List T).length : Nat) : Int) = 0) := rfl
      have z2 : ¬ (0 : Int) < ((0 : Nat) : Int) := by decide
      generalize hE0 : ([] : List T) = vs at *
      simp -implicitDefEqProofs only [evs, Nat.reduceAdd, reduceIte, ha, hnm, z1, z2, e2]
    | cons c r =>
      rw [hnm] at e1 e2
      have hpos : (0 : Int) < (((c :: r).length : Nat) : Int) := Int.natCast_pos.2 (Nat.succ_pos _)
      have hx := pIndexS_z (c := c) (r := r)
      have hu : upN (c :: r) = (decide ((65 : Int) ≤ (c.toNat : Int)) && decide ((c.toNat : Int) ≤ 90)) := rfl
      rw [hu]
      have z1 : (((([] : List T).length : Nat) : Int) = 0) := rfl
      generalize hE0 : ([] : List T) = vs at *
      generalize c :: r = nm at *
      by_cases h1 : (65 : Int) ≤ (c.toNat : Int)
      · by_cases h2 : (c.toNat : Int) ≤ 90
        · rw [decide_eq_true h1, decide_eq_true h2, Bool.and_self, if_pos rfl]
          simp -implicitDefEqProofs only [evs, Nat.reduceAdd, reduceIte, ha, hnm, z1, hpos, hx, h1, h2, e1]
        · rw [decide_eq_true h1, decide_eq_false h2, Bool.and_false, if_neg Bool.false_ne_true]
          simp -implicitDefEqProofs only [evs, Nat.reduceAdd, reduceIte, ha, hnm, z1, hpos, hx, h1, h2, e2]
      · rw [decide_eq_false h1, Bool.false_and, if_neg Bool.false_ne_true]
        simp -implicitDefEqProofs only [evs, Nat.reduceAdd, reduceIte, ha, hnm, z1, hpos, hx, h1, e2]
end Go.Proofs.YtnbjmmldjggkfaaGreat
/- RULES IN AN INTERPRETATION. -/
namespace Go.Proofs.YtnbjmmldjggkfaaGreat
open Go Go.RowKit Go.Proofs.YtnbjmmldjggkfaaGreat.Abs

set_option linter.unusedSimpArgs false
set_option linter.unusedVariables false
set_option maxHeartbeats 1000000

theorem pQuo1 {x n : Int} (h0 : 0 ≤ x) (hn : 1 ≤ n) (hx : x ≤ 9223372036854775807) : pBin .quo false (vi x) (vi n) = some (vi (x / n)) := by
  show (if n = 0 then none else ck (x.tdiv n)) = _
  rw [if_neg (by omega), Int.tdiv_eq_ediv_of_nonneg h0, ck_le]
  · have := Int.ediv_nonneg h0 (show (0 : Int) ≤ n by omega); omega
  · have := Int.ediv_le_self n h0; omega
theorem dec_lt {n : Nat} (hn : 1 ≤ n) : ∀ (l k : Nat), ∀ v ∈ dec n l k, v < n
  | 0, _, v, h => by cases h
  | l + 1, k, v, h => by
    rw [dec] at h
    rcases List.mem_cons.1 h with rfl | h
    · exact Nat.mod_lt _ (by omega)
    · exact dec_lt hn l _ v h
theorem dec_len (n : Nat) : ∀ l k : Nat, (dec n l k).length = l
  | 0, _ => rfl
  | l + 1, k => by rw [dec, List.length_cons, dec_len n l]
theorem getE_good {s : Int} (hs : 1 ≤ s) {E : Env} (h : ∀ p ∈ E, 0 ≤ p.2 ∧ p.2 < s) (x : List UInt8) : 0 ≤ getE E x ∧ getE E x < s := by
  have key : ∀ (E : Env) (a : Int), (0 ≤ a ∧ a < s) → (∀ p ∈ E, 0 ≤ p.2 ∧ p.2 < s) → 0 ≤ E.foldl (fun a p => if p.1 = x then p.2 else a) a ∧ E.foldl (fun a p => if p.1 = x then p.2 else a) a < s := by
    intro E
    induction E with
    | nil => intro a ha _; exact ha
    | cons p E ih =>
      intro a ha h
      rw [List.foldl_cons]
      refine ih _ ?_ fun q hq => h q (by simp [hq])
      split
      · exact h p (by simp)
      · exact ha
  exact key E 0 ⟨by omega, by omega⟩ h
theorem getE_map (f : List UInt8 → Int) {l : List (List UInt8)} {x : List UInt8} (hx : x ∈ l) : getE (l.map fun n => (n, f n)) x = f x := by
  have key : ∀ (l : List (List UInt8)) (a : Int), (x ∈ l ∨ a = f x) → (l.map fun n => (n, f n)).foldl (fun a (p : List UInt8 × Int) => if p.1 = x then p.2 else a) a = f x := by
    intro l
    induction l with
    | nil => intro a h; rcases h with h | h; · cases h
             · exact h
    | cons n l ih =>
      intro a h
      rw [List.map_cons, List.foldl_cons]
      refine ih _ ?_
      show x ∈ l ∨ (if n = x then f n else a) = f x
      by_cases hn : n = x
      · right; rw [if_pos hn, hn]
      · rw [if_neg hn]
        rcases h with h | h
        · rcases List.mem_cons.1 h with h | h
          · exact absurd h.symm hn
          · exact Or.inl h
        · exact Or.inr h
  exact key l 0 (Or.inl hx)
theorem zip_map_self {α β : Type} (f : α → β) : ∀ l : List α, l.zip (l.map f) = l.map fun x => (x, f x)
  | [] => rfl
  | x :: l => by rw [List.map_cons, List.zip_cons_cons, zip_map_self f l, List.map_cons]
/-- The k-th way to let names stand for values. -/
def envK (s : Nat) (names : List (List UInt8)) (k : Nat) : Env := names.zip ((dec s names.length k).map fun v => ((v : Nat) : Int))
theorem envK_good {s : Nat} (hs : 1 ≤ s) (names : List (List UInt8)) (k : Nat) (x : List UInt8) : 0 ≤ getE (envK s names k) x ∧ getE (envK s names k) x < (s : Int) := by
  refine getE_good (by omega) (fun p hp => ?_) x
  obtain ⟨v, hv, e⟩ := List.mem_map.1 (List.of_mem_zip hp).2
  have := dec_lt hs _ _ v hv
  rw [← e]
  omega
theorem envK_enc {s : Nat} (hs : 1 ≤ s) (names : List (List UInt8)) (e : List UInt8 → Int) (he : ∀ x, 0 ≤ e x ∧ e x < (s : Int)) : ∃ k, k < s ^ names.length ∧ ∀ x ∈ names, getE (envK s names k) x = e x := by
  have hv : ∀ v ∈ names.map (fun x => (e x).toNat), v < s := by
    intro v hv
    obtain ⟨x, _, rfl⟩ := List.mem_map.1 hv
    have := he x
    omega
  refine ⟨enc s (names.map fun x => (e x).toNat), ?_, fun x hx => ?_⟩
  · have := enc_lt hs _ hv
    rwa [List.length_map] at this
  · have h1 := dec_enc hs _ hv
    rw [List.length_map] at h1
    unfold envK
    rw [h1, List.map_map, zip_map_self, getE_map _ hx]
    have := he x
    show (((e x).toNat : Nat) : Int) = e x
    omega
theorem envK_len (s : Nat) (names : List (List UInt8)) (k : Nat) : (envK s names k).length = names.length := by
  unfold envK
  rw [List.length_zip, List.length_map, dec_len, Nat.min_self]

section
variable {code : List Int} (hb : By code)
include hb
omit hb in
theorem withC_eq (n : List UInt8) (v : Int) (E : Env) (hl : E.length ≤ 1000000) : C29_0 (sv n) (vi v) (E.map fun p => cs p.1) (E.map fun p => ci p.2) = some (.top, [.sl 1 (E.map fun p => cs p.1), .sl 1 (E.map fun p => ci p.2), .sl 1 ((E ++ [(n, v)]).map fun p => cs p.1), .sl 1 ((E ++ [(n, v)]).map fun p => ci p.2)]) := by
  have f1 : pFit E.length 16 = true := pF16 (by omega)
  have f2 : pFit E.length 8 = true := pF8v (by omega)
  have f3 : pFit (E.length + 1) 16 = true := pF16 (by omega)
  have f4 : pFit (E.length + 1) 8 = true := pF8v (by omega)
  rw [c29_0]
  simp -implicitDefEqProofs only [evs, Nat.reduceAdd, reduceIte, f1, f2, f3, f4, List.map_append]
  rfl
omit hb in
theorem vClause_env (s : Nat) (hs : 1 ≤ s ∧ s ≤ 3) (al k : A) (X : A) (names : List (List UInt8)) (hn : names.length ≤ 1000) : ∀ (m i rest : Nat) (E : Env), i + m = names.length → E.length = i → rest ≤ 1000000000 →
    L71_3 (bts code) (vi (s : Nat)) al k (vi (rest : Nat)) (vi (i : Nat)) X (names.map cs) (E.map fun p => cs p.1) (E.map fun p => ci p.2) =
    L71_4 (bts code) (vi (s : Nat)) al k (vb false) (vi 0) X (names.map cs) ((E ++ (names.drop i).zip ((dec s m rest).map fun v => ((v : Nat) : Int))).map fun p => cs p.1) ((E ++ (names.drop i).zip ((dec s m rest).map fun v => ((v : Nat) : Int))).map fun p => ci p.2) := by
  intro m
  induction m with
  | zero =>
    intro i rest E hi hE hr
    have hlt : ¬ (i : Int) < ((names.length : Nat) : Int) := by omega
    rw [dec, List.map_nil, List.zip_nil_right, List.append_nil, l71_3]
    simp -implicitDefEqProofs only [evs, Nat.reduceAdd, reduceIte, hlt]
  | succ m ih =>
    intro i rest E hi hE hr
    have hi' : i < names.length := by omega
    have hlt : (i : Int) < ((names.length : Nat) : Int) := by omega
    have h5 := add_one hi' (by show names.length ≤ 9223372036854775807; omega)
    have x1 : pIx names.length (vi ((i : Nat) : Int)) = some i := pIx_lt hi'
    have x2 := pRowP_cs hi'
    have r1 := pRem (x := ((rest : Nat) : Int)) (n := ((s : Nat) : Int)) (by omega) (by omega)
    have r2 := pQuo1 (x := ((rest : Nat) : Int)) (n := ((s : Nat) : Int)) (by omega) (by omega) (by omega)
    rw [← Int.natCast_emod] at r1
    rw [← Int.natCast_ediv] at r2
    have w := withC_eq names[i] ((rest % s : Nat) : Int) E (by omega)
    have hd : rest / s ≤ 1000000000 := Nat.le_trans (Nat.div_le_self _ _) hr
    have q := ih (i + 1) (rest / s) (E ++ [(names[i], ((rest % s : Nat) : Int))]) (by omega) (by rw [List.length_append, List.length_singleton, hE]) hd
    rw [dec, drop_cons hi', List.map_cons, List.zip_cons_cons, show E ++ (names[i], ((rest % s : Nat) : Int)) :: ((names.drop (i + 1)).zip ((dec s m (rest / s)).map fun v => ((v : Nat) : Int))) = (E ++ [(names[i], ((rest % s : Nat) : Int))]) ++ (names.drop (i + 1)).zip ((dec s m (rest / s)).map fun v => ((v : Nat) : Int)) by rw [List.append_assoc]; rfl, ← q, l71_3]
    generalize hE' : E ++ [(names[i], ((rest % s : Nat) : Int))] = E' at *
    have hR : ∀ a b c d : List (List A), hR 1 (A.top, [.sl 1 a, .sl 1 b, .sl 1 c, .sl 1 d]) 0 = some a ∧ hR 1 (A.top, [.sl 1 a, .sl 1 b, .sl 1 c, .sl 1 d]) 1 = some b ∧ hR 1 (A.top, [.sl 1 a, .sl 1 b, .sl 1 c, .sl 1 d]) 2 = some c ∧ hR 1 (A.top, [.sl 1 a, .sl 1 b, .sl 1 c, .sl 1 d]) 3 = some d := fun _ _ _ _ => ⟨rfl, rfl, rfl, rfl⟩
    obtain ⟨z0, z1, z2, z3⟩ := hR (E.map fun p => cs p.1) (E.map fun p => ci p.2) (E'.map fun p => cs p.1) (E'.map fun p => ci p.2)
    simp -implicitDefEqProofs only [evs, Nat.reduceAdd, reduceIte, hlt, x1, x2, r1, r2, h5, w, z0, z1, z2, z3]
/-- One way to let names stand for values. -/
theorem vClause_step (s : Nat) (hs : 1 ≤ s ∧ s ≤ 3) (r : T) (hn : r.name = [61]) (hl : r.args.length = 2) (hr : Tz r) (names : List (List UInt8)) (hnl : names.length ≤ 3) (al : A) (k : Nat) (hk : k ≤ 1000) :
    L71_3 (bts code) (vi (s : Nat)) al (vi (k : Nat)) (vi (k : Nat)) (vi 0) (.sl 3 [[vb true, sv r.name, tms r.args]]) (names.map cs) [] [] =
    if decide (val (mixM code s) (getE (envK s names k)) (lhsT r) = val (mixM code s) (getE (envK s names k)) (rhsT r)) then L71_2 (bts code) (vi (s : Nat)) al (vi ((k + 1 : Nat) : Int)) (.sl 3 [[vb true, sv r.name, tms r.args]]) (names.map cs) else some (vb false, []) := by
  have hv := vHolds_eq hb s (by omega) (envK s names k) (by rw [envK_len]; omega) (envK_good hs.1 names k) r hn hl hr
  have q1 : pLenL (.sl 3 [[vb true, sv r.name, tms r.args]]) = some (vi 1) := rfl
  have q2 : pIndexAddr 3 (.sl 3 [[vb true, sv r.name, tms r.args]]) (vi 0) = some (.elt [vb true, sv r.name, tms r.args] 0) := rfl
  have q3 : pAdd (.elt [vb true, sv r.name, tms r.args] 0) 1 = some (.elt [vb true, sv r.name, tms r.args] 1) := rfl
  have q4 : pLoadN 2 (.elt [vb true, sv r.name, tms r.args] 1) = some (tm r) := rfl
  have q5 : pAdd (.elt [vb true, sv r.name, tms r.args] 0) 0 = some (.elt [vb true, sv r.name, tms r.args] 0) := rfl
  have q6 : pLoadP (.elt [vb true, sv r.name, tms r.args] 0) = some (vb true) := rfl
  have c0 : pBin .add false (vi 0) (vi 1) = some (vi 1) := by rw [pBin_add, ck_le (by decide) (by decide)]; rfl
  have ck1 : pBin .add false (vi (k : Nat)) (vi 1) = some (vi ((k + 1 : Nat) : Int)) := add_one (n := k + 1) (by omega) (by omega)
  generalize A.sl 3 [[vb true, sv r.name, tms r.args]] = X at *
  generalize A.elt [vb true, sv r.name, tms r.args] 0 = e0 at *
  generalize A.elt [vb true, sv r.name, tms r.args] 1 = e1 at *
  generalize hbb : decide (val (mixM code s) (getE (envK s names k)) (lhsT r) = val (mixM code s) (getE (envK s names k)) (rhsT r)) = b at *
  have h10 : ¬ (1 : Int) < 1 := by decide
  have h01 : (0 : Int) < 1 := by decide
  have e6 : ∀ E : Env, G 34 [bts code, vi (s : Nat), ev E, tm r] = some (vb b, []) → L71_4 (bts code) (vi (s : Nat)) al (vi (k : Nat)) (vb false) (vi 0) X (names.map cs) (E.map fun p => cs p.1) (E.map fun p => ci p.2) = if b then L71_2 (bts code) (vi (s : Nat)) al (vi ((k + 1 : Nat) : Int)) X (names.map cs) else some (vb false, []) := by
    intro E hv
    have e61 : ∀ x y : List (List A), L71_4 (bts code) (vi (s : Nat)) al (vi (k : Nat)) (vb b) (vi 1) X (names.map cs) x y = if b then L71_2 (bts code) (vi (s : Nat)) al (vi ((k + 1 : Nat) : Int)) X (names.map cs) else some (vb false, []) := by
      intro x y
      rw [l71_4]
      cases b <;> simp -implicitDefEqProofs only [evs, Nat.reduceAdd, reduceIte, q1, h10, ck1]
    rw [l71_4]
    cases b <;> simp -implicitDefEqProofs only [evs, Nat.reduceAdd, reduceIte, q1, h01, q2, q3, q4, hv, q5, q6, c0, e61]
  have key := vClause_env (code := code) s hs al (vi (k : Nat)) X names (by omega) names.length 0 k [] (by omega) rfl (by omega)
  rw [List.drop_zero, List.nil_append, show names.zip ((dec s names.length k).map fun v => ((v : Nat) : Int)) = envK s names k from rfl, e6 (envK s names k) hv] at key
  exact key
end
end Go.Proofs.YtnbjmmldjggkfaaGreat
/- RULES THAT HOLD; EQUAL TERMS. -/
namespace Go.Proofs.YtnbjmmldjggkfaaGreat
open Go Go.RowKit Go.Proofs.YtnbjmmldjggkfaaGreat.Abs

set_option linter.unusedSimpArgs false
set_option linter.unusedVariables false
set_option maxHeartbeats 1000000

/-- A rule as the laws use it: its sides are terms whose variables are among three names. -/
def R3 (S : List (List UInt8)) (r : T) : Prop := r.name = [61] ∧ r.args.length = 2 ∧ Tz r ∧ (okT (lhsT r) = true ∧ VIn S (lhsT r)) ∧ okT (rhsT r) = true ∧ VIn S (rhsT r)
def HoldR (code : List Int) (s : Int) (r : T) : Prop := ∀ e : List UInt8 → Int, (∀ x, 0 ≤ e x ∧ e x < s) → val (mixM code s) e (lhsT r) = val (mixM code s) e (rhsT r)
theorem two_args {r : T} (h : r.args.length = 2) : r.args = [lhsT r, rhsT r] := by
  obtain ⟨n, us⟩ := r
  match us, h with
  | [u, v], _ => rfl
theorem R3_names {S : List (List UInt8)} (hS : S.length ≤ 3) {r : T} (h : R3 S r) : (vn [] r).length ≤ 3 ∧ (∀ x ∈ varsT (lhsT r), x ∈ vn [] r) ∧ (∀ x ∈ varsT (rhsT r), x ∈ vn [] r) := by
  obtain ⟨hn, hl, _, ⟨o1, v1⟩, o2, v2⟩ := h
  have e : vn [] r = vn (vn [] (lhsT r)) (rhsT r) := by
    rw [vn_eq, hn, show upN [61] = false from by decide, Bool.and_false, if_neg Bool.false_ne_true, two_args hl, vnL, vnL, vnL]
  obtain ⟨a1, a2, a3, a4⟩ := vn_facts (S := S) (lhsT r) o1 v1 [] (by simp) (fun x h => by cases h)
  obtain ⟨b1, b2, b3, b4⟩ := vn_facts (S := S) (rhsT r) o2 v2 _ a1 a2
  rw [e]
  exact ⟨Nat.le_trans (nodup_len S _ b1 b2) hS, fun x hx => b3 x (a4 x hx), b4⟩
section
variable {code : List Int} (hb : By code)
include hb
theorem vClause_eq {S : List (List UInt8)} (hS : S.length ≤ 3) (s : Nat) (hs : 1 ≤ s ∧ s ≤ 3) (r : T) (h : R3 S r) : ∃ b, G 71 [bts code, vi (s : Nat), .agg [.sl 3 [[vb true, sv r.name, tms r.args]]]] = some (vb b, []) ∧ (b = true → HoldR code s r) := by
  obtain ⟨n1, n2, n3⟩ := R3_names hS h
  have hz := h.2.2.1
  have hz' := hz
  unfold Tz at hz'
  have hnl : nodes r ≤ 3000000 := by have := nodes_le r; omega
  have q := vNames_eq r hz [] (by simp; omega)
  generalize hnm : vn [] r = names at *
  have hp : s ^ names.length ≤ 27 := by
    have h1 : s ^ names.length ≤ 3 ^ names.length := Nat.pow_le_pow_left hs.2 _
    have h2 : 3 ^ names.length ≤ 3 ^ 3 := Nat.pow_le_pow_right (by decide) n1
    exact Nat.le_trans h1 h2
  -- all ways
  have key : ∀ k, k ≤ s ^ names.length → ∃ b, L71_2 (bts code) (vi (s : Nat)) (vi ((s ^ names.length : Nat) : Int)) (vi (k : Nat)) (.sl 3 [[vb true, sv r.name, tms r.args]]) (names.map cs) = some (vb b, []) ∧ (b = true → ∀ k', k ≤ k' → k' < s ^ names.length → val (mixM code s) (getE (envK s names k')) (lhsT r) = val (mixM code s) (getE (envK s names k')) (rhsT r)) := by
    refine upto ?_ ?_
    · refine ⟨true, ?_, fun _ k' h1 h2 => by omega⟩
      rw [l71_2]
      have : ¬ ((s ^ names.length : Nat) : Int) < ((s ^ names.length : Nat) : Int) := by omega
      generalize ((s ^ names.length : Nat) : Int) = n at *
      simp -implicitDefEqProofs only [evs, Nat.reduceAdd, reduceIte, this]
    · rintro k hk ⟨b, e, hbb⟩
      have st := vClause_step hb s hs r h.1 h.2.1 hz names n1 (vi ((s ^ names.length : Nat) : Int)) k (by omega)
      rw [e] at st
      have hlt : (k : Int) < ((s ^ names.length : Nat) : Int) := by omega
      generalize hX : A.sl 3 [[vb true, sv r.name, tms r.args]] = X at *
      generalize ((s ^ names.length : Nat) : Int) = n at *
      by_cases hv : val (mixM code s) (getE (envK s names k)) (lhsT r) = val (mixM code s) (getE (envK s names k)) (rhsT r)
      · rw [decide_eq_true hv, if_pos rfl] at st
        refine ⟨b, by rw [l71_2]; simp -implicitDefEqProofs only [evs, Nat.reduceAdd, reduceIte, hlt, st], fun hb1 k' h1 h2 => ?_⟩
        by_cases hkk : k' = k
        · rw [hkk]; exact hv
        · exact hbb hb1 k' (by omega) h2
      · rw [decide_eq_false hv, if_neg Bool.false_ne_true] at st
        exact ⟨false, by rw [l71_2]; simp -implicitDefEqProofs only [evs, Nat.reduceAdd, reduceIte, hlt, st], fun h => by cases h⟩
  obtain ⟨b, eb, hbb⟩ := key 0 (Nat.zero_le _)
  simp only [Int.natCast_zero] at eb
  refine ⟨b, ?_, fun hb1 e he => ?_⟩
  · -- the number of ways
    have pow : ∀ i, i ≤ names.length → L71_1 (bts code) (vi (s : Nat)) (vi ((s ^ i : Nat) : Int)) (vi (i : Nat)) (.sl 3 [[vb true, sv r.name, tms r.args]]) (names.map cs) = some (vb b, []) := by
      refine upto ?_ ?_
      · have hlt : ¬ ((names.length : Nat) : Int) < ((names.length : Nat) : Int) := by omega
        rw [l71_1]
        generalize hX : A.sl 3 [[vb true, sv r.name, tms r.args]] = X at *
        generalize ((s ^ names.length : Nat) : Int) = n at *
        simp -implicitDefEqProofs only [evs, Nat.reduceAdd, reduceIte, hlt, eb]
      · intro i hi ih
        have hlt : (i : Int) < ((names.length : Nat) : Int) := by omega
        have h5 := add_one hi (by show names.length ≤ 9223372036854775807; omega)
        have hpi : s ^ i ≤ 27 := by
          have h1 : s ^ i ≤ 3 ^ i := Nat.pow_le_pow_left hs.2 _
          have h2 : 3 ^ i ≤ 3 ^ 3 := Nat.pow_le_pow_right (by decide) (by omega)
          exact Nat.le_trans h1 h2
        have hpn : s ^ (i + 1) ≤ 27 := by
          have h1 : s ^ (i + 1) ≤ 3 ^ (i + 1) := Nat.pow_le_pow_left hs.2 _
          have h2 : 3 ^ (i + 1) ≤ 3 ^ 3 := Nat.pow_le_pow_right (by decide) (by omega)
          exact Nat.le_trans h1 h2
        have h200 : ((s ^ i : Nat) : Int) < 200 := by omega
        have c1 : ck (((s ^ i : Nat) : Int) * ((s : Nat) : Int)) = some (vi ((s ^ (i + 1) : Nat) : Int)) := by
          have he : ((s ^ i : Nat) : Int) * ((s : Nat) : Int) = ((s ^ (i + 1) : Nat) : Int) := by rw [Nat.pow_succ, Int.natCast_mul]
          rw [he, ck_le (by omega) (by omega)]
        generalize ((s ^ (i + 1) : Nat) : Int) = p2 at *
        generalize ((s ^ i : Nat) : Int) = p1 at *
        rw [l71_1]
        generalize hX : A.sl 3 [[vb true, sv r.name, tms r.args]] = X at *
        simp -implicitDefEqProofs only [evs, Nat.reduceAdd, reduceIte, hlt, h5, h200, c1, ih]
    have p0 := pow 0 (Nat.zero_le _)
    rw [Nat.pow_zero] at p0
    simp only [Int.natCast_zero, Int.natCast_one] at p0
    have q1 : pLenL (.sl 3 [[vb true, sv r.name, tms r.args]]) = some (vi 1) := rfl
    have q2 : pIndexAddr 3 (.sl 3 [[vb true, sv r.name, tms r.args]]) (vi 0) = some (.elt [vb true, sv r.name, tms r.args] 0) := rfl
    have q3 : pAdd (.elt [vb true, sv r.name, tms r.args] 0) 1 = some (.elt [vb true, sv r.name, tms r.args] 1) := rfl
    have q4 : pLoadN 2 (.elt [vb true, sv r.name, tms r.args] 1) = some (tm r) := rfl
    have c0 : pBin .add false (vi 0) (vi 1) = some (vi 1) := by rw [pBin_add, ck_le (by decide) (by decide)]; rfl
    have h10 : ¬ (1 : Int) < 1 := by decide
    have h01 : (0 : Int) < 1 := by decide
    have hr : hR 1 (A.top, [.sl 1 (names.map cs)]) 0 = some (names.map cs) := rfl
    have q : C110_0 (tm r) [] = some (.top, [.sl 1 (names.map cs)]) := q
    have z1 : L71_0 (bts code) (vi (s : Nat)) (vi 1) (.sl 3 [[vb true, sv r.name, tms r.args]]) (names.map cs) = some (vb b, []) := by
      rw [l71_0]
      generalize hX : A.sl 3 [[vb true, sv r.name, tms r.args]] = X at *
      simp -implicitDefEqProofs only [evs, Nat.reduceAdd, reduceIte, q1, h10, p0]
    have z0 : L71_0 (bts code) (vi (s : Nat)) (vi 0) (.sl 3 [[vb true, sv r.name, tms r.args]]) [] = some (vb b, []) := by
      rw [l71_0]
      generalize hX : A.sl 3 [[vb true, sv r.name, tms r.args]] = X at *
      generalize A.elt [vb true, sv r.name, tms r.args] 0 = e0 at *
      generalize A.elt [vb true, sv r.name, tms r.args] 1 = e1 at *
      simp -implicitDefEqProofs only [evs, Nat.reduceAdd, reduceIte, q1, h01, q2, q3, q4, q, hr, c0, z1]
    rw [g71]
    exact z0
  · obtain ⟨k, hk, hke⟩ := envK_enc hs.1 names e he
    have := hbb hb1 k (Nat.zero_le _) hk
    rw [val_congr (lhsT r) h.2.2.2.1.1 (fun x hx => hke x (n2 x hx)), val_congr (rhsT r) h.2.2.2.2.1 (fun x hx => hke x (n3 x hx))] at this
    exact this
theorem vRules_eq {S : List (List UInt8)} (hS : S.length ≤ 3) (s : Nat) (hs : 1 ≤ s ∧ s ≤ 3) (rs : List T) (hl : rs.length ≤ 1048576) (h : ∀ r ∈ rs, R3 S r) : ∃ b, G 31 [bts code, vi (s : Nat), tms rs] = some (vb b, []) ∧ (b = true → ∀ r ∈ rs, HoldR code s r) := by
  have key : ∀ i, i ≤ rs.length → ∃ b, L31_0 (bts code) (vi (s : Nat)) (tms rs) (vi (i : Nat)) = some (vb b, []) ∧ (b = true → ∀ r ∈ rs.drop i, HoldR code s r) := by
    refine upto ?_ ?_
    · refine ⟨true, ?_, fun _ r hr => by rw [List.drop_length] at hr; cases hr⟩
      rw [l31_0]
      simp -implicitDefEqProofs only [evs, Nat.reduceAdd, reduceIte]
    · rintro i hi ⟨b, e, hbb⟩
      have hlt : (i : Int) < ((rs.length : Nat) : Int) := by omega
      have c5 : ck ((i : Int) + 1) = some (vi ((i + 1 : Nat) : Int)) := by rw [show ((i : Nat) : Int) + 1 = ((i + 1 : Nat) : Int) by omega, ck_le (by omega) (by omega)]
      obtain ⟨b1, e1, hb1⟩ := vClause_eq hb hS s hs rs[i] (h _ (List.getElem_mem hi))
      have e1 : G 71 [bts code, vi (s : Nat), .agg [.sl 3 [[vb true, sv rs[i].name, tms rs[i].args]]]] = some (vb b1, []) := e1
      rw [l31_0, drop_cons hi]
      refine ⟨b1 && b, ?_, fun hb2 => ?_⟩
      · simp -implicitDefEqProofs only [evs, Nat.reduceAdd, reduceIte, hlt, pIndexAddr_map hi, pLoadN_tcells]
        generalize hB : buildA _ _ _ = B
        have hB' : B = some (.agg [vb true, sv rs[i].name, tms rs[i].args]) := by rw [← hB]; kernel_rfl
        rw [hB']
        cases b1 <;> simp -implicitDefEqProofs only [evs, Nat.reduceAdd, reduceIte, e1, c5, e, Bool.true_and, Bool.false_and]
      · rw [Bool.and_eq_true] at hb2
        intro r hr
        rcases List.mem_cons.1 hr with rfl | hr
        · exact hb1 hb2.1
        · exact hbb hb2.2 r hr
  obtain ⟨b, e, hbb⟩ := key 0 (Nat.zero_le _)
  rw [List.drop_zero] at hbb
  simp only [Int.natCast_zero] at e
  exact ⟨b, by rw [g31]; exact e, hbb⟩
end

theorem vTerms_loop (n m : List UInt8) (ts us : List T) (hl : ts.length ≤ 9223372036854775807) (hlen : ts.length = us.length) (ih : ∀ t ∈ ts, ∀ u ∈ us, G 28 [tm t, tm u] = some (vb (dq t u), [])) :
    ∀ i, i ≤ ts.length → L28_0 (vi i) (sv n) (tms ts) (sv m) (tms us) = some (vb (dq (ts.drop i) (us.drop i)), []) := by
  refine upto ?_ ?_
  · rw [l28_0, List.drop_length, hlen, List.drop_length, dq_self]
    simp -implicitDefEqProofs only [evs, Nat.reduceAdd, reduceIte, hlen]
  · intro i hi ih'
    have hlt : (i : Int) < ((ts.length : Nat) : Int) := by omega
    have hi2 : i < us.length := by omega
    have h5 := add_one hi hl
    have e1 := ih ts[i] (List.getElem_mem _) us[i] (List.getElem_mem _)
    rw [l28_0, drop_cons hi, drop_cons hi2, dq_cons]
    cases hp : dq ts[i] us[i] <;> rw [hp] at e1
    · simp -implicitDefEqProofs only [evs, Nat.reduceAdd, reduceIte, hlt, pIndexAddr_map hi, pIndexAddr_map hi2, pLoadN_tcells, e1, Bool.false_and]
    · simp -implicitDefEqProofs only [evs, Nat.reduceAdd, reduceIte, hlt, pIndexAddr_map hi, pIndexAddr_map hi2, pLoadN_tcells, e1, h5, ih', Bool.true_and]
theorem vTerms_eq : ∀ s : T, twf s → ∀ t : T, twf t → G 28 [tm s, tm t] = some (vb (dq s t), []) := by
  refine T.ind fun s ih hw t hw' => ?_
  obtain ⟨w1, w2, w3⟩ := (twf_eq s).1 hw
  have w3 := (twfL_iff _).1 w3
  obtain ⟨v1, v2, v3⟩ := (twf_eq t).1 hw'
  have v3 := (twfL_iff _).1 v3
  rw [g28, dq_T]
  by_cases hn : s.name = t.name
  · by_cases hlen : s.args.length = t.args.length
    · have key := vTerms_loop t.name t.name s.args t.args w2 hlen (fun a ha b hb => ih a ha (w3 a ha) b (v3 b hb)) 0 (Nat.zero_le _)
      simp only [Int.natCast_zero, List.drop_zero] at key
      simp -implicitDefEqProofs only [evs, Nat.reduceAdd, reduceIte, hn, hlen, key, Bool.true_and]
    · have hlen' : ¬ ((s.args.length : Nat) : Int) = ((t.args.length : Nat) : Int) := by omega
      simp -implicitDefEqProofs only [evs, Nat.reduceAdd, reduceIte, hn, hlen', dq_len hlen, Bool.and_false]
  · simp -implicitDefEqProofs only [evs, Nat.reduceAdd, reduceIte, hn, Bool.false_and]
end Go.Proofs.YtnbjmmldjggkfaaGreat
/- DRAWS, THE SECOND PART: odd terms, orderings, pairs of terms and the draw of the law's own input. -/
namespace Go.Proofs.YtnbjmmldjggkfaaGreat
open Go Go.RowKit Go.Proofs.YtnbjmmldjggkfaaGreat.Abs

set_option linter.unusedSimpArgs false
set_option linter.unusedVariables false
set_option maxHeartbeats 1000000

/-- A term that a draw gives as one datum. -/
def MD (code : List Int) (z q : Nat) (a : Int) (o : Option Out) : Prop := ∃ a' s' t, a ≤ a' ∧ a' ≤ a + (q : Nat) ∧ tsz t ≤ z ∧ o = some (.top, [bts code, vi a', vu s', tm t])
def fT (n : List UInt8) : T := .mk [102] [.mk n []]
def hT : T := .mk [104] [fT [97], fT [97], fT [97], fT [97]]
def gT (us : List T) : T := .mk [103] us

section
variable {code : List Int} (hb : By code)
include hb
theorem wide_eq (a s : Int) (h0 : 0 ≤ a) (h1 : a ≤ 999990000) : MD code 200 2 a (C145_0 (bts code) (vi a) (vu s)) := by
  obtain ⟨a1, s1, b1, q1, q2, e1⟩ := one_eq hb 2 (by decide) (by decide) a s h0 (by omega)
  obtain ⟨a2, s2, b2, r1, r2, e2⟩ := one_eq hb 2 (by decide) (by decide) a1 s1 (by omega) (by omega)
  have inner : ∀ (x y : Int) (r1 : List (List A)), x + 1 = y → 0 ≤ x → x < 4 → r1.length ≤ 10 → L145c0_1 (vi x) (vi 0) (bts code) (vi a) (vu s) (sv []) (sv [103]) (sv [104]) [] r1 [] = L145c0_0 (vi y) (bts code) (vi a) (vu s) (sv []) (sv [103]) [] (r1 ++ [tcells hT]) := by
    intro x y r1 hxy hx hi hr
    have hf : pFit (r1.length + 1) 40 = true := pF40 (by omega)
    have c5 : ck (x + 1) = some (vi y) := by rw [hxy]; exact ck_le (by omega) (by omega)
    have k1 : ck ((0 : Int) + 1) = some (vi 1) := ck_le (by decide) (by decide)
    have k2 : ck ((1 : Int) + 1) = some (vi 2) := ck_le (by decide) (by decide)
    have k3 : ck ((2 : Int) + 1) = some (vi 3) := ck_le (by decide) (by decide)
    have k4 : ck ((3 : Int) + 1) = some (vi 4) := ck_le (by decide) (by decide)
    have f1 : pFit (0 + 1) 40 = true := rfl
    have f2 : pFit (1 + 1) 40 = true := rfl
    have f3 : pFit (2 + 1) 40 = true := rfl
    have f4 : pFit (3 + 1) 40 = true := rfl
    have l0 : ((0 : Int) < 4) = True := by simp
    have l1 : ((1 : Int) < 4) = True := by simp
    have l2 : ((2 : Int) < 4) = True := by simp
    have l3 : ((3 : Int) < 4) = True := by simp
    rw [l145c0_1]
    simp -implicitDefEqProofs only [evs, Nat.reduceAdd, reduceIte, l0, f1, k1]
    rw [l145c0_1]
    simp -implicitDefEqProofs only [evs, Nat.reduceAdd, reduceIte, l1, f2, k2, rApp]
    rw [l145c0_1]
    simp -implicitDefEqProofs only [evs, Nat.reduceAdd, reduceIte, l2, f3, k3, rApp]
    rw [l145c0_1]
    simp -implicitDefEqProofs only [evs, Nat.reduceAdd, reduceIte, l3, f4, k4, rApp]
    rw [l145c0_1]
    simp -implicitDefEqProofs only [evs, Nat.reduceAdd, reduceIte, hf, c5, rApp]
    rfl
  have l0 : ((0 : Int) < 4) = True := by simp
  have l1 : ((1 : Int) < 4) = True := by simp
  have l2 : ((2 : Int) < 4) = True := by simp
  have l3 : ((3 : Int) < 4) = True := by simp
  have head : C145_0 (bts code) (vi a) (vu s) = L145c0_0 (vi 4) (bts code) (vi a) (vu s) (sv []) (sv [103]) [] [tcells hT, tcells hT, tcells hT, tcells hT] := by
    rw [c145_0, l145c0_0]
    simp -implicitDefEqProofs only [evs, Nat.reduceAdd, reduceIte, l0]
    rw [inner 0 1 [] (by decide) (by decide) (by decide) (by decide), l145c0_0]
    simp -implicitDefEqProofs only [evs, Nat.reduceAdd, reduceIte, l1]
    rw [inner 1 2 _ (by decide) (by decide) (by decide) (by decide), l145c0_0]
    simp -implicitDefEqProofs only [evs, Nat.reduceAdd, reduceIte, l2]
    rw [inner 2 3 _ (by decide) (by decide) (by decide) (by decide), l145c0_0]
    simp -implicitDefEqProofs only [evs, Nat.reduceAdd, reduceIte, l3]
    rw [inner 3 4 _ (by decide) (by decide) (by decide) (by decide)]
    rfl
  rw [head, l145c0_0]
  have n4 : ((4 : Int) < 4) = False := by simp
  cases b1 with
  | true =>
    cases b2 with
    | true =>
      refine ⟨a2, s2, gT [hT, hT, hT, fT [98]], by omega, by omega, by decide, ?_⟩
      simp -implicitDefEqProofs only [evs, Nat.reduceAdd, reduceIte, n4, e1, e2, List.getElem?_cons_zero, List.getElem?_cons_succ]
      rfl
    | false =>
      refine ⟨a2, s2, gT [hT, hT, hT], by omega, by omega, by decide, ?_⟩
      simp -implicitDefEqProofs only [evs, Nat.reduceAdd, reduceIte, n4, e1, e2, List.getElem?_cons_zero, List.getElem?_cons_succ]
      rfl
  | false =>
    refine ⟨a2, s2, gT [hT, hT, hT, hT], by omega, by omega, by decide, ?_⟩
    cases b2 <;> simp -implicitDefEqProofs only [evs, Nat.reduceAdd, reduceIte, n4, e1, e2, List.getElem?_cons_zero, List.getElem?_cons_succ] <;> rfl
theorem anyTerm_eq (a s : Int) (h0 : 0 ≤ a) (h1 : a ≤ 999980000) : MD code 1000 1200 a (C106_0 (bts code) (vi a) (vu s)) := by
  obtain ⟨a1, s1, t1, q1, q2, q3, e1⟩ := term_eq hb a s h0 (by omega)
  obtain ⟨a2, s2, x, r1, r2, x0, x1, e2⟩ := pick_eq hb 24 (by decide) (by decide) a1 s1 (by omega) (by omega)
  have hz := tsz_eq t1
  rw [c106_0]
  by_cases y0 : x = 0
  · subst y0
    obtain ⟨a3, s3, w, hw, u1, u2, e⟩ := of_eq hb [[], [116, 114, 117, 101], [116, 114, 117, 116, 104], [105, 102], [88, 121, 122, 57], [88, 121, 122, 57, 57], [120, 65], [97, 95, 98], [97, 98, 99, 100, 101, 102], [97, 98, 99, 100, 101, 102, 103], [95, 97], [57], [88, 95], [61]] (by decide) (by decide) a2 s2 (by omega) (by omega)
    have hl : w.length ≤ 7 := (show ∀ w ∈ ([[], [116, 114, 117, 101], [116, 114, 117, 116, 104], [105, 102], [88, 121, 122, 57], [88, 121, 122, 57, 57], [120, 65], [97, 95, 98], [97, 98, 99, 100, 101, 102], [97, 98, 99, 100, 101, 102, 103], [95, 97], [57], [88, 95], [61]] : List (List UInt8)), w.length ≤ 7 by decide) w hw
    have e : C143_0 (bts code) (vi a2) (vu s2) [[sv []], [sv [116, 114, 117, 101]], [sv [116, 114, 117, 116, 104]], [sv [105, 102]], [sv [88, 121, 122, 57]], [sv [88, 121, 122, 57, 57]], [sv [120, 65]], [sv [97, 95, 98]], [sv [97, 98, 99, 100, 101, 102]], [sv [97, 98, 99, 100, 101, 102, 103]], [sv [95, 97]], [sv [57]], [sv [88, 95]], [sv [61]]] = some (.top, [bts code, vi a3, vu s3, sv w]) := e
    refine ⟨a3, s3, .mk w t1.args, by omega, by omega, by rw [tsz_mk]; omega, ?_⟩
    simp -implicitDefEqProofs only [evs, Nat.reduceAdd, reduceIte, e1, e2, e, List.getElem?_cons_zero, List.getElem?_cons_succ, hR_4]
    rfl
  by_cases y1 : x = 1
  · subst y1
    obtain ⟨a3, s3, y, u1, u2, u3, u4, e3⟩ := pick_eq hb 3 (by decide) (by decide) a2 s2 (by omega) (by omega)
    obtain ⟨k, hk⟩ : ∃ k : Nat, 7 + y = (k : Nat) := ⟨(7 + y).toNat, by omega⟩
    have c1 : ck (7 + y) = some (vi (k : Nat)) := by rw [hk]; exact ck_le (by omega) (by omega)
    obtain ⟨a4, s4, t4, v1, v2, v3, e4⟩ := tower_eq hb k (by omega) a3 s3 (by omega) (by omega)
    refine ⟨a4, s4, t4, by omega, by omega, by omega, ?_⟩
    simp -implicitDefEqProofs only [evs, Nat.reduceAdd, reduceIte, y0, e1, e2, e3, c1, e4, List.getElem?_cons_zero, List.getElem?_cons_succ, hR_4]
  by_cases y2 : x = 2
  · subst y2
    obtain ⟨a3, s3, t3, u1, u2, u3, e3⟩ := wide_eq hb a2 s2 (by omega) (by omega)
    refine ⟨a3, s3, t3, by omega, by omega, by omega, ?_⟩
    simp -implicitDefEqProofs only [evs, Nat.reduceAdd, reduceIte, y0, y1, e1, e2, e3, List.getElem?_cons_zero, List.getElem?_cons_succ, hR_4]
  by_cases y3 : x = 3
  · subst y3
    obtain ⟨a3, s3, t3, u1, u2, u3, e3⟩ := term_eq hb a2 s2 (by omega) (by omega)
    obtain ⟨a4, s4, t4, v1, v2, v3, e4⟩ := term_eq hb a3 s3 (by omega) (by omega)
    obtain ⟨a5, s5, t5, w1, w2, w3, e5⟩ := term_eq hb a4 s4 (by omega) (by omega)
    have hf : pFit (t1.args.length + 3) 40 = true := pF40 (by omega)
    have hsz : ∀ us : List T, tszL (us ++ [t3, t4, t5]) = tszL us + (tsz t3 + (tsz t4 + tsz t5)) := by
      intro us
      induction us with
      | nil => simp [tszL]
      | cons u us ih => simp only [List.cons_append, tszL]; omega
    refine ⟨a5, s5, .mk t1.name (t1.args ++ [t3, t4, t5]), by omega, by omega, by rw [tsz_mk, hsz, List.length_append, List.length_cons, List.length_cons, List.length_cons, List.length_nil]; omega, ?_⟩
    simp -implicitDefEqProofs only [evs, Nat.reduceAdd, reduceIte, y0, y1, y2, e1, e2, e3, e4, e5, hf, List.length_map, List.getElem?_cons_zero, List.getElem?_cons_succ, hR_4]
    show _ = some (A.top, [bts code, vi a5, vu s5, A.agg [sv t1.name, .sl 2 ((t1.args ++ [t3, t4, t5]).map tcells)]])
    rw [List.map_append, List.map_cons, List.map_cons, List.map_cons, tcells_eq t3, tcells_eq t4, tcells_eq t5]
    rfl
  by_cases y4 : x = 4
  · subst y4
    cases ht : t1.args with
    | nil =>
      rw [ht] at e1
      refine ⟨a2, s2, t1, by omega, by omega, by omega, ?_⟩
      simp -implicitDefEqProofs only [evs, Nat.reduceAdd, reduceIte, y0, y1, y2, y3, e1, e2, Int.natCast_zero, List.map_nil, List.getElem?_cons_zero, List.getElem?_cons_succ, hR_4]
      rw [show tm t1 = A.agg [sv t1.name, .sl 2 (t1.args.map tcells)] from rfl, ht]
      rfl
    | cons u us =>
      rw [ht] at e1 hz
      obtain ⟨a3, s3, w, hw, u1, u2, e⟩ := of_eq hb [[61], [], [81, 49], [98, 50]] (by decide) (by decide) a2 s2 (by omega) (by omega)
      have hl : w.length ≤ 2 := (show ∀ w ∈ ([[61], [], [81, 49], [98, 50]] : List (List UInt8)), w.length ≤ 2 by decide) w hw
      have e : C143_0 (bts code) (vi a2) (vu s2) [[sv [61]], [sv []], [sv [81, 49]], [sv [98, 50]]] = some (.top, [bts code, vi a3, vu s3, sv w]) := e
      have hu := tsz_eq u
      simp only [tszL, List.length_cons] at hz
      refine ⟨a3, s3, .mk t1.name (.mk w u.args :: us), by omega, by omega, by rw [tsz_mk]; simp only [tszL, List.length_cons, tsz_mk]; omega, ?_⟩
      have x2 : pIx (us.length + 1) (vi 0) = some 0 := pIx_lt (i := 0) (by omega)
      have x3 : pRowP (tcells u :: us.map tcells) 0 1 = some (tms u.args) := by rw [tcells_eq]; rfl
      have x4 : (0 : Int) < ((us.length + 1 : Nat) : Int) := by omega
      simp -implicitDefEqProofs only [evs, Nat.reduceAdd, reduceIte, y0, y1, y2, y3, e1, e2, e, List.map_cons, List.length_cons, List.length_map, x2, x3, x4, List.getElem?_cons_zero, List.getElem?_cons_succ, hR_4]
      generalize hB : buildA _ _ _ = B
      have hB' : B = some (.agg [sv w, tms u.args]) := by rw [← hB]; kernel_rfl
      rw [hB']
      simp -implicitDefEqProofs only [evs, Nat.reduceAdd, reduceIte, rGet, rSet, cOver_2, List.getElem?_cons_zero, List.getElem?_cons_succ, hR_4]
      rw [tcells_eq]
      show some (A.top, [bts code, vi a3, vu s3, A.agg [sv t1.name, A.sl 2 (cOver [sv u.name, A.sl 2 (List.map tcells u.args)] 0 [sv w, tms u.args] :: List.map tcells us)]]) = some (A.top, [bts code, vi a3, vu s3, A.agg [sv t1.name, .sl 2 (tcells (.mk w u.args) :: us.map tcells)]])
      rw [cOver_2, tcells_eq]
      rfl
  · refine ⟨a2, s2, t1, by omega, by omega, by omega, ?_⟩
    simp -implicitDefEqProofs only [evs, Nat.reduceAdd, reduceIte, e1, e2, y0, y1, y2, y3, y4, List.getElem?_cons_zero, List.getElem?_cons_succ, hR_4]
end

theorem rCnt_map {α : Type} (f : α → List A) (l : List α) : rCnt (l.map f) = l.length := List.length_map ..
/-- An ordering that a draw gives. -/
def OD (code : List Int) (q : Nat) (a : Int) (o : Option Out) : Prop := ∃ a' s' r, a ≤ a' ∧ a' ≤ a + (q : Nat) ∧ owf r ∧ o = some (.top, [bts code, vi a', vu s', od r])
section
variable {code : List Int} (hb : By code)
include hb
end

/-- A pair of terms that a draw gives. -/
def PD (code : List Int) (z q : Nat) (a : Int) (o : Option Out) : Prop := ∃ a' s' t u, a ≤ a' ∧ a' ≤ a + (q : Nat) ∧ tsz t ≤ z ∧ tsz u ≤ z ∧ o = some (.top, [bts code, vi a', vu s', .tup [tm t, tm u]])

section
variable {code : List Int} (hb : By code)
include hb
end
end Go.Proofs.YtnbjmmldjggkfaaGreat
/- DRAWS FOR REWRITING. -/
namespace Go.Proofs.YtnbjmmldjggkfaaGreat
open Go Go.RowKit Go.Proofs.YtnbjmmldjggkfaaGreat.Abs

set_option linter.unusedSimpArgs false
set_option linter.unusedVariables false
set_option maxHeartbeats 1000000

section
variable {code : List Int} (hb : By code)
include hb
theorem expression_eq (a s : Int) (h0 : 0 ≤ a) (h1 : a ≤ 999970000) : MD code 1000 2000 a (C66_0 (bts code) (vi a) (vu s)) := by
  obtain ⟨a1, s1, b1, q1, q2, e1⟩ := one_eq hb 3 (by decide) (by decide) a s h0 (by omega)
  rw [c66_0]
  cases b1 with
  | true =>
    obtain ⟨a2, s2, t2, r1, r2, r3, e2⟩ := atom_eq hb a1 s1 (by omega) (by omega)
    obtain ⟨a3, s3, b3, u1, u2, e3⟩ := one_eq hb 12 (by decide) (by decide) a2 s2 (by omega) (by omega)
    cases b3 with
    | true =>
      obtain ⟨a4, s4, t4, v1, v2, v3, e4⟩ := term_eq hb a3 s3 (by omega) (by omega)
      have hz := tsz_eq t2
      have hf : pFit (t2.args.length + 1) 40 = true := pF40 (by omega)
      have hsz : ∀ us : List T, tszL (us ++ [t4]) = tszL us + tsz t4 := by
        intro us
        induction us with
        | nil => simp [tszL]
        | cons u us ih => simp only [List.cons_append, tszL]; omega
      refine ⟨a4, s4, .mk t2.name (t2.args ++ [t4]), by omega, by omega, by rw [tsz_mk, hsz, List.length_append, List.length_cons, List.length_nil]; omega, ?_⟩
      simp -implicitDefEqProofs only [evs, Nat.reduceAdd, reduceIte, e1, e2, e3, e4, hf, List.length_map, List.getElem?_cons_zero, List.getElem?_cons_succ, hR_4]
      show _ = some (A.top, [bts code, vi a4, vu s4, A.agg [sv t2.name, .sl 2 ((t2.args ++ [t4]).map tcells)]])
      rw [List.map_append, List.map_cons, tcells_eq t4]
      rfl
    | false =>
      refine ⟨a3, s3, t2, by omega, by omega, by omega, ?_⟩
      simp -implicitDefEqProofs only [evs, Nat.reduceAdd, reduceIte, e1, e2, e3, List.getElem?_cons_zero, List.getElem?_cons_succ, hR_4]
  | false =>
    obtain ⟨a2, s2, t2, r1, r2, r3, e2⟩ := anyTerm_eq hb a1 s1 (by omega) (by omega)
    refine ⟨a2, s2, t2, by omega, by omega, by omega, ?_⟩
    simp -implicitDefEqProofs only [evs, Nat.reduceAdd, reduceIte, e1, e2, List.getElem?_cons_zero, List.getElem?_cons_succ, hR_4]
end
theorem put_end (u : List (List UInt8 × T)) (hl : u.length ≤ 1000) (i : Nat) (hi : i ≤ u.length) :
    pB u.length u.length (some (vi (i : Nat))) = some i ∧ rWin (u.map bc) 0 i = (u.take i).map bc ∧ pFit (u.take i).length 56 = true ∧ pB u.length u.length none = some u.length ∧ pB 0 u.length (some (vi (i : Nat))) = some i ∧ rWin (u.map bc) i (u.length - i) = (u.drop i).map bc ∧ rRem (u.map bc) 0 = u.length ∧ pFit ((u.take i).length + 1) 56 = true ∧ pFit ((u.take i).length + 1 + (u.drop i).length) 56 = true := by
  refine ⟨pB_le hi, by rw [rWin, List.drop_zero, List.map_take], pF56 (by rw [List.length_take]; omega), pB_none_le (Nat.le_refl _), pB_le hi, ?_, by rw [rRem, List.length_map]; rfl, pF56 (by rw [List.length_take]; omega), pF56 (by rw [List.length_take, List.length_drop]; omega)⟩
  rw [rWin, ← List.map_drop, List.take_of_length_le (by rw [List.length_map, List.length_drop]; omega)]
theorem put_app (u v : List (List UInt8 × T)) (n : List UInt8) (t : T) : rApp (rApp (u.map bc) [[sv n, sv t.name, tms t.args]]) (v.map bc) = (u ++ [(n, t)] ++ v).map bc := by
  rw [List.map_append, List.map_append]
  rfl
theorem put_len (u : List (List UInt8 × T)) (n : List UInt8) (t : T) : (rApp (u.map bc) [[sv n, sv t.name, tms t.args]]).length = u.length + 1 := by
  simp [rApp]
theorem put_eq (u : List (List UInt8 × T)) (hl : u.length ≤ 1000) (n : List UInt8) (t : T) (ht : tsz t ≤ 1048576) : ∃ u', u'.length ≤ u.length + 1 ∧ (∀ p ∈ u', p ∈ u ∨ p = (n, t)) ∧ C108_1 (sv n) (sv t.name) (u.map bc) (t.args.map tcells) = some (.top, [sbs u']) := by
  have e1 := own_eq t ht
  have key := upto (P := fun i => ∃ j, j ≤ u.length ∧ L108c1_0 (sv n) (vi i) (sv t.name) (u.map bc) (t.args.map tcells) [] = some (.top, [sbs (u.take j ++ [(n, t)] ++ u.drop j)])) (n := u.length) ?_ ?_ 0 (Nat.zero_le _)
  · rw [c108_1]
    by_cases h : t.name = n
    · refine ⟨u, by omega, fun p hp => Or.inl hp, ?_⟩
      simp -implicitDefEqProofs only [evs, Nat.reduceAdd, reduceIte, h]
    · obtain ⟨j, hj, e⟩ := key
      have e : L108c1_0 (sv n) (vi 0) (sv t.name) (u.map bc) (t.args.map tcells) [] = some (.top, [sbs (u.take j ++ [(n, t)] ++ u.drop j)]) := e
      refine ⟨u.take j ++ [(n, t)] ++ u.drop j, by rw [List.length_append, List.length_append, List.length_take, List.length_drop, List.length_singleton]; omega, fun p hp => ?_, ?_⟩
      · rw [List.mem_append, List.mem_append, List.mem_singleton] at hp
        rcases hp with (hp | hp) | hp
        · exact Or.inl (List.mem_of_mem_take hp)
        · exact Or.inr hp
        · exact Or.inl (List.mem_of_mem_drop hp)
      · simp -implicitDefEqProofs only [evs, Nat.reduceAdd, reduceIte, h, e]
  · refine ⟨u.length, Nat.le_refl _, ?_⟩
    obtain ⟨k1, k2, k3, k4, k5, k6, k7, k8, k9⟩ := put_end u hl u.length (Nat.le_refl _)
    have m1 := put_app (u.take u.length) (u.drop u.length) n t
    have m2 := put_len (u.take u.length) n t
    rw [l108c1_0]
    simp -implicitDefEqProofs only [evs, Nat.reduceAdd, reduceIte, rCnt_map, k1, k2, k3, k4, k5, k6, k7, nSub_eq, Nat.sub_zero, Nat.zero_add, e1]
    generalize hB : buildA _ _ _ = B
    have hB' : B = some (.agg [sv n, sv t.name, tms t.args]) := by rw [← hB]; kernel_rfl
    rw [hB']
    simp -implicitDefEqProofs only [evs, Nat.reduceAdd, reduceIte, k3, k8, k9, m1, m2]
  · intro i hi ih
    have hlt : (i : Int) < ((u.length : Nat) : Int) := by omega
    have h5 := add_one hi (by show u.length ≤ 9223372036854775807; omega)
    have x1 : pIx u.length (vi ((i : Nat) : Int)) = some i := pIx_lt hi
    have x2 : pRowP (u.map bc) i 0 = some (sv u[i].1) := by unfold pRowP; simp [hi]
    cases hs : sLt u[i].1 n
    · refine ⟨i, by omega, ?_⟩
      obtain ⟨k1, k2, k3, k4, k5, k6, k7, k8, k9⟩ := put_end u hl i (by omega)
      have m1 := put_app (u.take i) (u.drop i) n t
      have m2 := put_len (u.take i) n t
      rw [l108c1_0]
      simp -implicitDefEqProofs only [evs, Nat.reduceAdd, reduceIte, hlt, x1, x2, hs, rCnt_map, k1, k2, k3, k4, k5, k6, k7, nSub_eq, Nat.sub_zero, Nat.zero_add, e1]
      generalize hB : buildA _ _ _ = B
      have hB' : B = some (.agg [sv n, sv t.name, tms t.args]) := by rw [← hB]; kernel_rfl
      rw [hB']
      simp -implicitDefEqProofs only [evs, Nat.reduceAdd, reduceIte, k3, k8, k9, m1, m2]
    · obtain ⟨j, hj, e⟩ := ih
      refine ⟨j, hj, ?_⟩
      rw [l108c1_0]
      simp -implicitDefEqProofs only [evs, Nat.reduceAdd, reduceIte, hlt, x1, x2, hs, h5, e]

section
variable {code : List Int} (hb : By code)
include hb
theorem substitution_eq (a s : Int) (h0 : 0 ≤ a) (h1 : a ≤ 999960000) : ∃ a' s' u, a ≤ a' ∧ a' ≤ a + 1000 ∧ u.length ≤ 4 ∧ Sz 192 u ∧ C69_0 (bts code) (vi a) (vu s) = some (.top, [bts code, vi a', vu s', sb u]) := by
  have key := upto (P := fun i => ∀ (u : List (List UInt8 × T)) (a s : Int), 0 ≤ a → a ≤ 999961000 - 200 * ((4 : Int) - (i : Int)) → u.length ≤ i → Sz 192 u → ∃ a' s' u', a ≤ a' ∧ a' ≤ a + 200 * ((4 : Int) - (i : Int)) ∧ u'.length ≤ 4 ∧ Sz 192 u' ∧ L69c0_0 (vi 4) (vi i) (bts code) (vi a) (vu s) ([[85], [88], [89], [90]].map cs) [] (u.map bc) = some (.top, [bts code, vi a', vu s', sb u'])) (n := 4) ?_ ?_ 0 (Nat.zero_le _)
  · obtain ⟨a', s', u, q1, q2, q3, q4, e⟩ := key [] a s h0 (by omega) (by simp) ⟨by simp, by simp⟩
    refine ⟨a', s', u, q1, by omega, q3, q4, ?_⟩
    rw [c69_0]
    exact e
  · intro u a s h0 h1 hl hu
    refine ⟨a, s, u, by omega, by omega, hl, hu, ?_⟩
    have n4 : ((4 : Nat) : Int) = 4 := rfl
    rw [l69c0_0]
    simp -implicitDefEqProofs only [evs, Nat.reduceAdd, reduceIte, n4]
  · intro i hi ih u a s h0 h1 hl hu
    have hlt : (i : Int) < 4 := by omega
    have h5 : ck ((i : Int) + 1) = some (vi ((i + 1 : Nat) : Int)) := ck_le (by omega) (by omega)
    obtain ⟨a1, s1, b, q1, q2, e1⟩ := one_eq hb 2 (by decide) (by decide) a s h0 (by omega)
    have hi4 : i < ([[85], [88], [89], [90]] : List (List UInt8)).length := hi
    have x1 : pIx ([[85], [88], [89], [90]] : List (List UInt8)).length (vi ((i : Nat) : Int)) = some i := pIx_lt hi4
    obtain ⟨nm, hnm, x2⟩ : ∃ nm : List UInt8, nm.length ≤ 1 ∧ pRowP (([[85], [88], [89], [90]] : List (List UInt8)).map cs) i 0 = some (sv nm) := by
      match i, hi with
      | 0, _ => exact ⟨[85], by decide, rfl⟩
      | 1, _ => exact ⟨[88], by decide, rfl⟩
      | 2, _ => exact ⟨[89], by decide, rfl⟩
      | 3, _ => exact ⟨[90], by decide, rfl⟩
    rw [l69c0_0]
    generalize ([[85], [88], [89], [90]] : List (List UInt8)) = l at *
    cases b with
    | true =>
      obtain ⟨a2, s2, t, r1, r2, r3, e2⟩ := term_eq hb a1 s1 (by omega) (by omega)
      obtain ⟨u', v1, v2, e3⟩ := put_eq u (by omega) nm t (by omega)
      have hu' : Sz 192 u' := ⟨by omega, fun p hp => by
        rcases v2 p hp with h | h
        · exact hu.2 p h
        · rw [h]; exact ⟨by show nm.length ≤ 192; omega, r3⟩⟩
      obtain ⟨a3, s3, u3, w1, w2, w3, w4, e4⟩ := ih u' a2 s2 (by omega) (by omega) (by omega) hu'
      have x3 : hR 3 (A.top, [sbs u']) 0 = some (u'.map bc) := by simp [hR]
      refine ⟨a3, s3, u3, by omega, by omega, w3, w4, ?_⟩
      simp -implicitDefEqProofs only [evs, Nat.reduceAdd, reduceIte, hlt, x1, x2, e1, e2, List.getElem?_cons_zero, List.getElem?_cons_succ, hR_4, e3, x3, h5, e4]
    | false =>
      obtain ⟨a3, s3, u3, w1, w2, w3, w4, e4⟩ := ih u a1 s1 (by omega) (by omega) (by omega) hu
      refine ⟨a3, s3, u3, by omega, by omega, w3, w4, ?_⟩
      simp -implicitDefEqProofs only [evs, Nat.reduceAdd, reduceIte, hlt, x1, x2, e1, List.getElem?_cons_zero, List.getElem?_cons_succ, hR_4, h5, e4]
end

/-! ### Terms with three variables at most -/
abbrev S3 : List (List UInt8) := [[88], [89], [90]]
/-- A small valid term. -/
def GT (N : Nat) (t : T) : Prop := okT t = true ∧ nodes t ≤ N ∧ VIn S3 t
theorem GT.valid {N : Nat} (hN : N ≤ 8) {t : T} (h : GT N t) : validT t = true ∧ tsz t ≤ 80 := by
  have h1 := ok_tsz t h.1
  have h2 := dep_le t
  have h3 := h.2.1
  refine ⟨?_, by omega⟩
  unfold validT smallT
  rw [h.1, decide_eq_true (show nodes t ≤ 30 by omega), decide_eq_true (show dep t ≤ 8 by omega)]
  rfl
theorem GT.le {M N : Nat} (h : M ≤ N) {t : T} (ht : GT M t) : GT N t := ⟨ht.1, Nat.le_trans ht.2.1 h, ht.2.2⟩
theorem GT.leaf {w : List UInt8} (h : w ∈ ([[88], [89], [90], [97], [98]] : List (List UInt8))) : GT 1 (.mk w []) := by
  simp only [List.mem_cons, List.not_mem_nil, or_false] at h
  refine ⟨?_, Nat.le_refl _, ?_⟩
  · rcases h with rfl | rfl | rfl | rfl | rfl <;> decide
  · intro x hx
    rw [varsT_eq] at hx
    rcases h with rfl | rfl | rfl | rfl | rfl <;> simp [varN, upc, inB, T.name, T.args, varsTL] at hx <;> simp [hx]
theorem GT.fun {n : List UInt8} {us : List T} {N : Nat} (hv : varN n = false) (hs : symN n = true) (hl : us.length ≤ 4) (h : ∀ u ∈ us, okT u = true ∧ VIn S3 u) (hN : 1 + nodesL us ≤ N) : GT N (.mk n us) := by
  refine ⟨?_, ?_, ?_⟩
  · rw [okT_eq]
    show (if varN n then _ else symN n && (decide (us.length ≤ 4) && okTL us)) = true
    rw [hv, if_neg Bool.false_ne_true, hs, decide_eq_true hl, Bool.true_and, Bool.true_and, okTL_all, List.all_eq_true]
    exact fun u hu => (h u hu).1
  · rw [nodes_eq]; exact hN
  · intro x hx
    rw [varsT_eq] at hx
    have hx : x ∈ (if varN n then [n] else varsTL us) := hx
    rw [hv, if_neg Bool.false_ne_true] at hx
    have : ∀ us : List T, (∀ u ∈ us, VIn S3 u) → x ∈ varsTL us → x ∈ S3 := by
      intro us
      induction us with
      | nil => intro _ h; cases h
      | cons u us ih =>
        intro h hx
        rw [varsTL] at hx
        rcases List.mem_append.1 hx with hx | hx
        · exact h u (by simp) x hx
        · exact ih (fun v hv => h v (by simp [hv])) hx
    exact this us (fun u hu => (h u hu).2) hx
def GD (code : List Int) (N q : Nat) (a : Int) (o : Option Out) : Prop := ∃ a' s' t, a ≤ a' ∧ a' ≤ a + (q : Nat) ∧ GT N t ∧ o = some (.top, [bts code, vi a', vu s', sv (T.name t), tms (T.args t)])
section
variable {code : List Int} (hb : By code)
include hb
theorem leafV_eq (a s : Int) (h0 : 0 ≤ a) (h1 : a ≤ 1000000000) : ∃ a' s' w, GT 1 (.mk w []) ∧ a ≤ a' ∧ a' ≤ a + 1 ∧ C143_0 (bts code) (vi a) (vu s) [[sv [88]], [sv [89]], [sv [90]], [sv [97]], [sv [98]], [sv [88]], [sv [97]]] = some (.top, [bts code, vi a', vu s', sv w]) := by
  obtain ⟨a', s', w, hw, q1, q2, e⟩ := of_eq hb [[88], [89], [90], [97], [98], [88], [97]] (by decide) (by decide) a s h0 h1
  refine ⟨a', s', w, GT.leaf ?_, q1, q2, e⟩
  simp only [List.mem_cons, List.not_mem_nil, or_false] at hw ⊢
  rcases hw with h | h | h | h | h | h | h <;> simp [h]
theorem grown1_eq (dep : Int) (hd : dep ≤ 1) (a s : Int) (h0 : 0 ≤ a) (h1 : a ≤ 999999000) : GD code 1 1 a (C109_0 (vi dep) (bts code) (vi a) (vu s)) := by
  obtain ⟨a1, s1, w, hw, q1, q2, e⟩ := leafV_eq hb a s h0 (by omega)
  refine ⟨a1, s1, .mk w [], q1, by omega, hw, ?_⟩
  rw [c109_0]
  simp -implicitDefEqProofs only [evs, Nat.reduceAdd, reduceIte, hd, e, List.getElem?_cons_zero, List.getElem?_cons_succ, hR_4]
  rfl
theorem grownS_eq (N q : Nat) (d : Nat) (h1d : 1 ≤ d) (hd : d ≤ 10) (ih : ∀ a s : Int, 0 ≤ a → a ≤ 999999000 → GD code N q a (C109_0 (vi (d : Nat)) (bts code) (vi a) (vu s))) (hq : q ≤ 300) (a s : Int) (h0 : 0 ≤ a) (h1 : a ≤ 999998000) : GD code (2 * N + 1) (2 * q + 3) a (C109_0 (vi ((d + 1 : Nat) : Int)) (bts code) (vi a) (vu s)) := by
  have hle : ¬ ((d + 1 : Nat) : Int) ≤ 1 := by omega
  obtain ⟨a1, s1, b1, q1, q2, e1⟩ := one_eq hb 3 (by decide) (by decide) a s h0 (by omega)
  cases b1 with
  | true =>
    obtain ⟨a2, s2, w, hw, r1, r2, e⟩ := leafV_eq hb a1 s1 (by omega) (by omega)
    refine ⟨a2, s2, .mk w [], by omega, by omega, hw.le (by omega), ?_⟩
    rw [c109_0]
    simp -implicitDefEqProofs only [evs, Nat.reduceAdd, reduceIte, hle, e1, e, List.getElem?_cons_zero, List.getElem?_cons_succ, hR_4]
    rfl
  | false =>
    obtain ⟨a2, s2, b2, r1, r2, e2⟩ := one_eq hb 2 (by decide) (by decide) a1 s1 (by omega) (by omega)
    have c1 : ck (((d + 1 : Nat) : Int) - 1) = some (vi (d : Nat)) := by rw [show ((d + 1 : Nat) : Int) - 1 = (d : Nat) by omega]; exact ck_le (by omega) (by omega)
    obtain ⟨a3, s3, t3, u1, u2, u3, e3⟩ := ih a2 s2 (by omega) (by omega)
    cases b2 with
    | true =>
      refine ⟨a3, s3, .mk [102] [t3], by omega, by omega, GT.fun (by decide) (by decide) (by simp) (fun u hu => ?_) ?_, ?_⟩
      · simp only [List.mem_singleton] at hu; subst hu; exact ⟨u3.1, u3.2.2⟩
      · have := u3.2.1; simp only [nodesL]; omega
      rw [c109_0]
      simp -implicitDefEqProofs only [evs, Nat.reduceAdd, reduceIte, hle, e1, e2, c1, e3, List.getElem?_cons_zero, List.getElem?_cons_succ, hR_4]
      rw [← tms1]
      rfl
    | false =>
      obtain ⟨a4, s4, t4, v1, v2, v3, e4⟩ := ih a3 s3 (by omega) (by omega)
      refine ⟨a4, s4, .mk [103] [t3, t4], by omega, by omega, GT.fun (by decide) (by decide) (by simp) (fun u hu => ?_) ?_, ?_⟩
      · simp only [List.mem_cons, List.not_mem_nil, or_false] at hu
        rcases hu with rfl | rfl
        · exact ⟨u3.1, u3.2.2⟩
        · exact ⟨v3.1, v3.2.2⟩
      · have := u3.2.1; have := v3.2.1; simp only [nodesL]; omega
      rw [c109_0]
      simp -implicitDefEqProofs only [evs, Nat.reduceAdd, reduceIte, hle, e1, e2, c1, e3, e4, List.getElem?_cons_zero, List.getElem?_cons_succ, hR_4]
      rw [← tms2]
      rfl
theorem grown2_eq (a s : Int) (h0 : 0 ≤ a) (h1 : a ≤ 999998000) : GD code 3 5 a (C109_0 (vi 2) (bts code) (vi a) (vu s)) :=
  grownS_eq hb 1 1 1 (by decide) (by decide) (fun a s h0 h1 => grown1_eq hb 1 (by decide) a s h0 h1) (by decide) a s h0 h1
theorem grown3_eq (a s : Int) (h0 : 0 ≤ a) (h1 : a ≤ 999997000) : GD code 7 13 a (C109_0 (vi 3) (bts code) (vi a) (vu s)) := by
  obtain ⟨a1, s1, b1, q1, q2, e1⟩ := one_eq hb 3 (by decide) (by decide) a s h0 (by omega)
  have hle : ¬ (3 : Int) ≤ 1 := by decide
  cases b1 with
  | true =>
    obtain ⟨a2, s2, w, hw, r1, r2, e⟩ := leafV_eq hb a1 s1 (by omega) (by omega)
    refine ⟨a2, s2, .mk w [], by omega, by omega, hw.le (by omega), ?_⟩
    rw [c109_0]
    simp -implicitDefEqProofs only [evs, Nat.reduceAdd, reduceIte, hle, e1, e, List.getElem?_cons_zero, List.getElem?_cons_succ, hR_4]
    rfl
  | false =>
    obtain ⟨a2, s2, b2, r1, r2, e2⟩ := one_eq hb 2 (by decide) (by decide) a1 s1 (by omega) (by omega)
    have c1 : ck ((3 : Int) - 1) = some (vi 2) := ck_le (n := 3 - 1) (by decide) (by decide)
    obtain ⟨a3, s3, t3, u1, u2, u3, e3⟩ := grown2_eq hb a2 s2 (by omega) (by omega)
    cases b2 with
    | true =>
      refine ⟨a3, s3, .mk [102] [t3], by omega, by omega, GT.fun (by decide) (by decide) (by simp) (fun u hu => ?_) ?_, ?_⟩
      · simp only [List.mem_singleton] at hu; subst hu; exact ⟨u3.1, u3.2.2⟩
      · have := u3.2.1; simp only [nodesL]; omega
      rw [c109_0]
      simp -implicitDefEqProofs only [evs, Nat.reduceAdd, reduceIte, hle, e1, e2, c1, e3, List.getElem?_cons_zero, List.getElem?_cons_succ, hR_4]
      rw [← tms1]
      rfl
    | false =>
      obtain ⟨a4, s4, t4, v1, v2, v3, e4⟩ := grown2_eq hb a3 s3 (by omega) (by omega)
      refine ⟨a4, s4, .mk [103] [t3, t4], by omega, by omega, GT.fun (by decide) (by decide) (by simp) (fun u hu => ?_) ?_, ?_⟩
      · simp only [List.mem_cons, List.not_mem_nil, or_false] at hu
        rcases hu with rfl | rfl
        · exact ⟨u3.1, u3.2.2⟩
        · exact ⟨v3.1, v3.2.2⟩
      · have := u3.2.1; have := v3.2.1; simp only [nodesL]; omega
      rw [c109_0]
      simp -implicitDefEqProofs only [evs, Nat.reduceAdd, reduceIte, hle, e1, e2, c1, e3, e4, List.getElem?_cons_zero, List.getElem?_cons_succ, hR_4]
      rw [← tms2]
      rfl
end
theorem R3_mk {u v : T} (hu : GT 7 u) (hv : GT 7 v) : R3 S3 (.mk [61] [u, v]) := by
  have h1 := (hu.valid (by decide)).2
  have h2 := (hv.valid (by decide)).2
  exact ⟨rfl, rfl, by unfold Tz; rw [tsz_mk]; simp only [List.length_cons, List.length_nil, tszL]; omega, ⟨hu.1, hu.2.2⟩, hv.1, hv.2.2⟩
/-- A rule that a draw gives. -/
def ED (code : List Int) (q : Nat) (a : Int) (o : Option Out) : Prop := ∃ a' s' r, a ≤ a' ∧ a' ≤ a + (q : Nat) ∧ R3 S3 r ∧ tsz r ≤ 400 ∧ o = some (.top, [bts code, vi a', vu s', tm r])
theorem R3_sz {u v : T} (hu : GT 7 u) (hv : GT 7 v) : tsz (.mk [61] [u, v]) ≤ 400 := by
  have h1 := (hu.valid (by decide)).2
  have h2 := (hv.valid (by decide)).2
  rw [tsz_mk]; simp only [List.length_cons, List.length_nil, tszL]; omega
theorem tm_eqn (u v : T) : tm (.mk [61] [u, v]) = .agg [sv [61], .sl 2 [[sv u.name, tms u.args], [sv v.name, tms v.args]]] := by
  show A.agg [sv [61], tms [u, v]] = _
  rw [tms2]
section
variable {code : List Int} (hb : By code)
include hb
theorem equation_eq (a s : Int) (h0 : 0 ≤ a) (h1 : a ≤ 999990000) : ED code 30 a (C104_0 (bts code) (vi a) (vu s)) := by
  obtain ⟨a1, s1, t, q1, q2, q3, e1⟩ := grown3_eq hb a s h0 (by omega)
  obtain ⟨a2, s2, u, r1, r2, r3, e2⟩ := grown2_eq hb a1 s1 (by omega) (by omega)
  obtain ⟨a3, s3, b, u1, u2, e3⟩ := one_eq hb 3 (by decide) (by decide) a2 s2 (by omega) (by omega)
  obtain ⟨t1, t2⟩ := q3.valid (by decide)
  have fin : ∀ (v : T), GT 7 v → ∃ x : Int, G 132 [.agg [sv t.name, tms t.args], .agg [sv v.name, tms v.args]] = some (vi x, []) := by
    intro v hv
    obtain ⟨v1, v2⟩ := hv.valid (by decide)
    have z1 : Tz t := by unfold Tz; omega
    have z2 : Tz v := by unfold Tz; omega
    obtain ⟨x, e, _⟩ := order_eq t v z1.wf z2.wf z1 z2 t1 v1
    exact ⟨x, e⟩
  rw [c104_0]
  cases b with
  | true =>
    obtain ⟨a4, s4, w, hw, v1, v2, e4⟩ := of_eq hb [[97], [98], [88], [89]] (by decide) (by decide) a3 s3 (by omega) (by omega)
    have e4 : C143_0 (bts code) (vi a3) (vu s3) [[sv [97]], [sv [98]], [sv [88]], [sv [89]]] = some (.top, [bts code, vi a4, vu s4, sv w]) := e4
    have hG : GT 1 (.mk w []) := by
      refine GT.leaf ?_
      simp only [List.mem_cons, List.not_mem_nil, or_false] at hw ⊢
      rcases hw with h | h | h | h <;> simp [h]
    have hG := hG.le (N := 7) (by decide)
    obtain ⟨x, e5⟩ := fin _ hG
    have e5 : G 132 [.agg [sv t.name, tms t.args], .agg [sv w, .sl 2 []]] = some (vi x, []) := e5
    by_cases hx : x = 3
    · refine ⟨a4, s4, .mk [61] [.mk w [], t], by omega, by omega, R3_mk hG q3, R3_sz hG q3, ?_⟩
      rw [tm_eqn]
      simp -implicitDefEqProofs only [evs, Nat.reduceAdd, reduceIte, e1, e2, e3, e4, e5, hx, List.getElem?_cons_zero, List.getElem?_cons_succ, hR_4]
      rfl
    · refine ⟨a4, s4, .mk [61] [t, .mk w []], by omega, by omega, R3_mk q3 hG, R3_sz q3 hG, ?_⟩
      rw [tm_eqn]
      simp -implicitDefEqProofs only [evs, Nat.reduceAdd, reduceIte, e1, e2, e3, e4, e5, hx, List.getElem?_cons_zero, List.getElem?_cons_succ, hR_4]
      rfl
  | false =>
    have hG := r3.le (N := 7) (by decide)
    obtain ⟨x, e5⟩ := fin _ hG
    by_cases hx : x = 3
    · refine ⟨a3, s3, .mk [61] [u, t], by omega, by omega, R3_mk hG q3, R3_sz hG q3, ?_⟩
      rw [tm_eqn]
      simp -implicitDefEqProofs only [evs, Nat.reduceAdd, reduceIte, e1, e2, e3, e5, hx, List.getElem?_cons_zero, List.getElem?_cons_succ, hR_4]
    · refine ⟨a3, s3, .mk [61] [t, u], by omega, by omega, R3_mk q3 hG, R3_sz q3 hG, ?_⟩
      rw [tm_eqn]
      simp -implicitDefEqProofs only [evs, Nat.reduceAdd, reduceIte, e1, e2, e3, e5, hx, List.getElem?_cons_zero, List.getElem?_cons_succ, hR_4]
end

/-! ### Lists of rules -/
def RT : T := .mk [61] [.mk [102] [.mk [88] []], .mk [88] []]
theorem RT_ok : R3 S3 RT ∧ tsz RT ≤ 400 := by
  have h1 : GT 7 (.mk [88] []) := (GT.leaf (w := [88]) (by simp)).le (by decide)
  have h2 : GT 7 (.mk [102] [.mk [88] []]) := GT.fun (by decide) (by decide) (by simp) (fun u hu => by simp only [List.mem_singleton] at hu; subst hu; exact ⟨h1.1, h1.2.2⟩) (by decide)
  exact ⟨R3_mk h2 h1, R3_sz h2 h1⟩
def LD (code : List Int) (q : Nat) (a : Int) (o : Option Out) : Prop := ∃ a' s' rs, a ≤ a' ∧ a' ≤ a + (q : Nat) ∧ rs.length ≤ 14 ∧ (∀ r ∈ rs, R3 S3 r ∧ tsz r ≤ 400) ∧ o = some (.top, [bts code, vi a', vu s', tms rs])
section
variable {code : List Int} (hb : By code)
include hb
theorem rules_fill : ∀ (k : Nat) (rs : List T), 11 ≤ rs.length + k → rs.length ≤ 14 → (∀ r ∈ rs, R3 S3 r ∧ tsz r ≤ 400) → ∀ a s : Int, 0 ≤ a → a + ((k : Nat) : Int) ≤ 999990000 → LD code (k + 1) a (L65c0_1 (bts code) (vi a) (vu s) (rs.map tcells)) := by
  intro k
  induction k with
  | zero =>
    intro rs h11 hl hr a s h0 h1
    obtain ⟨a1, s1, x, q1, q2, x0, x1, e1⟩ := pick_eq hb 2 (by decide) (by decide) a s h0 (by omega)
    have c1 : ck (10 + x) = some (vi (10 + x)) := ck_le (by omega) (by omega)
    have hlt : ¬ ((rs.length : Nat) : Int) < 10 + x := by omega
    refine ⟨a1, s1, rs, q1, by omega, hl, hr, ?_⟩
    rw [l65c0_1]
    simp -implicitDefEqProofs only [evs, Nat.reduceAdd, reduceIte, e1, c1, hlt, List.getElem?_cons_zero, List.getElem?_cons_succ, hR_4]
  | succ k ih =>
    intro rs h11 hl hr a s h0 h1
    obtain ⟨a1, s1, x, q1, q2, x0, x1, e1⟩ := pick_eq hb 2 (by decide) (by decide) a s h0 (by omega)
    have c1 : ck (10 + x) = some (vi (10 + x)) := ck_le (by omega) (by omega)
    by_cases hlt : ((rs.length : Nat) : Int) < 10 + x
    · have hf : pFit (rs.length + 1) 40 = true := pF40 (by omega)
      obtain ⟨a2, s2, us, r1, r2, r3, r4, e2⟩ := ih (rs ++ [RT]) (by rw [List.length_append, List.length_singleton]; omega) (by rw [List.length_append, List.length_singleton]; omega) (fun r hr' => by
        rcases List.mem_append.1 hr' with h | h
        · exact hr r h
        · simp only [List.mem_singleton] at h; rw [h]; exact RT_ok) a1 s1 (by omega) (by omega)
      rw [List.map_append] at e2
      have e2 : L65c0_1 (bts code) (vi a1) (vu s1) (rApp (rs.map tcells) [[sv [61], A.sl 2 [[sv [102], A.sl 2 [[sv [88], A.sl 2 []]]], [sv [88], A.sl 2 []]]]]) = _ := e2
      refine ⟨a2, s2, us, by omega, by omega, r3, r4, ?_⟩
      rw [l65c0_1]
      simp -implicitDefEqProofs only [evs, Nat.reduceAdd, reduceIte, e1, c1, hlt, hf, e2, List.getElem?_cons_zero, List.getElem?_cons_succ, hR_4]
    · refine ⟨a1, s1, rs, q1, by omega, hl, hr, ?_⟩
      rw [l65c0_1]
      simp -implicitDefEqProofs only [evs, Nat.reduceAdd, reduceIte, e1, c1, hlt, List.getElem?_cons_zero, List.getElem?_cons_succ, hR_4]
theorem rules_loop : ∀ (k : Nat) (rs : List T), k ≤ 4 → rs.length + k ≤ 4 → (∀ r ∈ rs, R3 S3 r ∧ tsz r ≤ 400) → ∀ a s : Int, 0 ≤ a → a ≤ 999980000 - 31 * (k : Nat) → LD code (31 * k + 20) a (L65c0_0 (vi (k : Nat)) (bts code) (vi a) (vu s) (rs.map tcells)) := by
  intro k
  induction k with
  | zero =>
    intro rs _ hl hr a s h0 h1
    obtain ⟨a1, s1, b, q1, q2, e1⟩ := one_eq hb 24 (by decide) (by decide) a s h0 (by omega)
    have hgt : ¬ (0 : Int) < ((0 : Nat) : Int) := by decide
    cases b with
    | true =>
      obtain ⟨a2, s2, us, r1, r2, r3, r4, e2⟩ := rules_fill hb 11 rs (by omega) (by omega) hr a1 s1 (by omega) (by omega)
      refine ⟨a2, s2, us, by omega, by omega, r3, r4, ?_⟩
      rw [l65c0_0]
      simp -implicitDefEqProofs only [evs, Nat.reduceAdd, reduceIte, hgt, e1, e2, List.getElem?_cons_zero, List.getElem?_cons_succ, hR_4]
    | false =>
      refine ⟨a1, s1, rs, q1, by omega, by omega, hr, ?_⟩
      rw [l65c0_0]
      simp -implicitDefEqProofs only [evs, Nat.reduceAdd, reduceIte, hgt, e1, List.getElem?_cons_zero, List.getElem?_cons_succ, hR_4]
  | succ k ih =>
    intro rs hk hl hr a s h0 h1
    have hgt : (0 : Int) < ((k + 1 : Nat) : Int) := by omega
    have c1 : ck (((k + 1 : Nat) : Int) - 1) = some (vi (k : Nat)) := by rw [show ((k + 1 : Nat) : Int) - 1 = (k : Nat) by omega]; exact ck_le (by omega) (by omega)
    obtain ⟨a1, s1, r, q1, q2, hR, hz, e1⟩ := equation_eq hb a s h0 (by omega)
    obtain ⟨b, e2, _, _⟩ := rule_eq r hR.2.2.1
    have hf : pFit (rs.length + 1) 40 = true := pF40 (by omega)
    have hr' : ∀ q ∈ rs ++ [r], R3 S3 q ∧ tsz q ≤ 400 := fun q hq => by
      rcases List.mem_append.1 hq with h | h
      · exact hr q h
      · simp only [List.mem_singleton] at h; rw [h]; exact ⟨hR, hz⟩
    have app : ∀ (a2 s2 : Int), 0 ≤ a2 → a2 ≤ 999980000 - 31 * (k : Nat) → LD code (31 * k + 20) a2 (L65c0_0 (vi (k : Nat)) (bts code) (vi a2) (vu s2) (rApp (rs.map tcells) [[sv r.name, tms r.args]])) := by
      intro a2 s2 g0 g1
      have := ih (rs ++ [r]) (by omega) (by rw [List.length_append, List.length_singleton]; omega) hr' a2 s2 g0 g1
      rw [List.map_append, List.map_cons, List.map_nil, tcells_eq] at this
      exact this
    rw [l65c0_0]
    cases b with
    | true =>
      obtain ⟨a3, s3, us, r1, r2, r3, r4, e3⟩ := app a1 s1 (by omega) (by omega)
      refine ⟨a3, s3, us, by omega, by omega, r3, r4, ?_⟩
      simp -implicitDefEqProofs only [evs, Nat.reduceAdd, reduceIte, hgt, e1, e2, c1, hf, e3, List.getElem?_cons_zero, List.getElem?_cons_succ, hR_4]
    | false =>
      obtain ⟨a2, s2, b, u1, u2, e4⟩ := one_eq hb 12 (by decide) (by decide) a1 s1 (by omega) (by omega)
      cases b with
      | true =>
        obtain ⟨a3, s3, us, r1, r2, r3, r4, e3⟩ := app a2 s2 (by omega) (by omega)
        refine ⟨a3, s3, us, by omega, by omega, r3, r4, ?_⟩
        simp -implicitDefEqProofs only [evs, Nat.reduceAdd, reduceIte, hgt, e1, e2, e4, c1, hf, e3, List.getElem?_cons_zero, List.getElem?_cons_succ, hR_4]
      | false =>
        obtain ⟨a3, s3, us, r1, r2, r3, r4, e3⟩ := ih rs (by omega) (by omega) hr a2 s2 (by omega) (by omega)
        refine ⟨a3, s3, us, by omega, by omega, r3, r4, ?_⟩
        simp -implicitDefEqProofs only [evs, Nat.reduceAdd, reduceIte, hgt, e1, e2, e4, c1, e3, List.getElem?_cons_zero, List.getElem?_cons_succ, hR_4]
theorem rules_draw (a s : Int) (h0 : 0 ≤ a) (h1 : a ≤ 999970000) : LD code 200 a (C65_0 (bts code) (vi a) (vu s)) := by
  obtain ⟨a1, s1, x, q1, q2, x0, x1, e1⟩ := pick_eq hb 4 (by decide) (by decide) a s h0 (by omega)
  obtain ⟨k, rfl⟩ : ∃ k : Nat, x = (k : Nat) := ⟨x.toNat, by omega⟩
  obtain ⟨a2, s2, us, r1, r2, r3, r4, e2⟩ := rules_loop hb k [] (by omega) (by simp; omega) (fun r h => by cases h) a1 s1 (by omega) (by omega)
  refine ⟨a2, s2, us, by omega, by omega, r3, r4, ?_⟩
  have e2 : L65c0_0 (vi (k : Nat)) (bts code) (vi a1) (vu s1) [] = _ := e2
  rw [c65_0]
  simp -implicitDefEqProofs only [evs, Nat.reduceAdd, reduceIte, e1, e2, List.getElem?_cons_zero, List.getElem?_cons_succ, hR_4]
theorem drawRT_eq : ∃ t rs, Tz t ∧ rs.length ≤ 14 ∧ (∀ r ∈ rs, R3 S3 r) ∧ G 27 [bts code] = some (.tup [tm t, tms rs], []) := by
  obtain ⟨a1, s1, rs, q1, q2, q3, q4, e1⟩ := rules_draw hb 0 0 (by decide) (by decide)
  obtain ⟨a2, s2, t, r1, r2, r3, e2⟩ := expression_eq hb a1 s1 (by omega) (by omega)
  have hr : ∀ r ∈ rs, R3 S3 r := fun r h => (q4 r h).1
  have okb : okA (bts code) = true := rfl
  rw [g27]
  by_cases hl : 0 < rs.length
  · have hlt : (0 : Int) < ((rs.length : Nat) : Int) := by omega
    have i0 : pIndexAddr 2 (tms rs) (vi 0) = some (.elt (tcells rs[0]) 0) := pIndexAddr_map (i := 0) hl
    have hR := q4 rs[0] (List.getElem_mem hl)
    have hat := l2Atom_eqn rs[0] hR.1.2.2.1.wf hR.1.2.2.1 hR.1.1
    have hargs := two_args hR.1.2.1
    obtain ⟨a3, s3, b, u1, u2, e3⟩ := one_eq hb 2 (by decide) (by decide) a2 s2 (by omega) (by omega)
    have none1 : ∃ t' rs', Tz t' ∧ rs'.length ≤ 14 ∧ (∀ r ∈ rs', R3 S3 r) ∧ some (A.tup [tm t, tms rs], ([] : List A)) = some (.tup [tm t', tms rs'], []) := ⟨t, rs, by unfold Tz; omega, q3, hr, rfl⟩
    cases hb1 : eqnT rs[0] <;> rw [hb1] at hat
    · refine ⟨t, rs, by unfold Tz; omega, q3, hr, ?_⟩
      simp -implicitDefEqProofs only [evs, Nat.reduceAdd, reduceIte, okb, e1, e2, hlt, i0, pLoadN_tcells, hat, List.getElem?_cons_zero, List.getElem?_cons_succ, hR_4]
    cases b with
    | false =>
      refine ⟨t, rs, by unfold Tz; omega, q3, hr, ?_⟩
      simp -implicitDefEqProofs only [evs, Nat.reduceAdd, reduceIte, okb, e1, e2, hlt, i0, pLoadN_tcells, hat, e3, List.getElem?_cons_zero, List.getElem?_cons_succ, hR_4]
    | true =>
      obtain ⟨a4, s4, u, v1, v2, v3, v4, e4⟩ := substitution_eq hb a3 s3 (by omega) (by omega)
      obtain ⟨a5, s5, w, w1, w2, w3, e5⟩ := term_eq hb a4 s4 (by omega) (by omega)
      have hlz : tsz (lhsT rs[0]) ≤ 400 := by
        have h1 := hR.2
        rw [tsz_eq, hargs] at h1
        simp only [tszL] at h1
        omega
      have o1 := own_eq (lhsT rs[0]) (by omega)
      have ad : pAdd (.elt (tcells rs[0]) 0) 1 = some (.elt (tcells rs[0]) 1) := by rw [pAdd_elt]
      have lp : pLoadP (.elt (tcells rs[0]) 1) = some (tms rs[0].args) := by rw [tcells_eq]; rfl
      have i1 : pIndexAddr 2 (tms rs[0].args) (vi 0) = some (.elt (tcells (lhsT rs[0])) 0) := by rw [hargs]; exact pIndexAddr_map (xs := [lhsT rs[0], rhsT rs[0]]) (i := 0) (by simp)
      have hg : tsz (.mk [103] [lhsT rs[0], w]) ≤ 700 := by rw [tsz_mk]; simp only [List.length_cons, List.length_nil, tszL]; omega
      have ap := l4Apply_eq u ⟨by omega, fun p hp => by have := v4.2 p hp; omega⟩ (.mk [103] [lhsT rs[0], w]) (by omega)
      have hsz := sub_size (u := u) (Z := 192) (by decide) (fun p hp => (v4.2 p hp).2) (.mk [103] [lhsT rs[0], w])
      have ap : G 68 [sb u, .agg [sv [103], .sl 2 [[sv (lhsT rs[0]).name, tms (lhsT rs[0]).args], [sv w.name, tms w.args]]]] = some (tm (sub u (.mk [103] [lhsT rs[0], w])), []) := by
        rw [← tms2]; exact ap
      refine ⟨sub u (.mk [103] [lhsT rs[0], w]), rs, by unfold Tz; omega, q3, hr, ?_⟩
      generalize sub u (.mk [103] [lhsT rs[0], w]) = z at *
      simp -implicitDefEqProofs only [evs, Nat.reduceAdd, reduceIte, okb, e1, e2, hlt, i0, pLoadN_tcells, hat, e3, e4, e5, ad, lp, i1, o1, ap, List.getElem?_cons_zero, List.getElem?_cons_succ, hR_4]
  · have hlt : ¬ (0 : Int) < ((rs.length : Nat) : Int) := by omega
    refine ⟨t, rs, by unfold Tz; omega, q3, hr, ?_⟩
    simp -implicitDefEqProofs only [evs, Nat.reduceAdd, reduceIte, okb, e1, e2, hlt, List.getElem?_cons_zero, List.getElem?_cons_succ, hR_4]
end
end Go.Proofs.YtnbjmmldjggkfaaGreat
/- REWRITING: both packages on all expressions. -/
namespace Go.Proofs.YtnbjmmldjggkfaaGreat
open Go Go.RowKit Go.Proofs.YtnbjmmldjggkfaaGreat.Abs

set_option linter.unusedSimpArgs false
set_option linter.unusedVariables false
set_option maxHeartbeats 1000000

/-- An expression: a valid term or a valid equation. -/
def exprT (t : T) : Bool := validT t || (decide (t.name = [61]) && eqnT t)
theorem isExpr_eq (t : T) (ht : Tz t) : G 61 [tm t] = some (vb (exprT t), []) := by
  have e1 := isValidTerm_eq t ht.wf ht
  have e2 := isEquality_eq t
  unfold exprT
  rw [g61]
  cases hv : validT t <;> rw [hv] at e1
  · by_cases he : t.name = [61]
    · have e3 := isValidAtom_eqn t ht.wf ht he
      rw [decide_eq_true he] at e2 ⊢
      simp -implicitDefEqProofs only [evs, Nat.reduceAdd, reduceIte, e1, e2, e3, Bool.false_or, Bool.true_and]
    · simp -implicitDefEqProofs only [evs, Nat.reduceAdd, reduceIte, e1, e2, he, Bool.false_or, Bool.false_and]
  · simp -implicitDefEqProofs only [evs, Nat.reduceAdd, reduceIte, e1, e2, Bool.true_or]
theorem isAny_eq (t : T) (ht : Tz t) : G 59 [tm t] = some (vb (exprT t), []) := by
  have e1 := l2Good_eq t ht.wf ht
  unfold exprT
  rw [g59]
  cases hv : validT t <;> rw [hv] at e1
  · by_cases he : t.name = [61]
    · have e3 := l2Atom_eqn t ht.wf ht he
      rw [decide_eq_true he]
      simp -implicitDefEqProofs only [evs, Nat.reduceAdd, reduceIte, e1, e3, Bool.false_or, Bool.true_and]
    · have e3 := anyAtom_eq' t ht he
      rw [hv, Bool.and_false] at e3
      simp -implicitDefEqProofs only [evs, Nat.reduceAdd, reduceIte, e1, he, e3, Bool.false_or, Bool.false_and]
  · simp -implicitDefEqProofs only [evs, Nat.reduceAdd, reduceIte, e1, Bool.true_or]
theorem valid_vs {t : T} (h : validT t = true) : Vs t ∧ smallT t = true := by
  unfold validT at h
  rw [Bool.and_eq_true] at h
  refine ⟨⟨h.2, ?_⟩, h.1⟩
  have := h.1
  simp only [smallT, Bool.and_eq_true, decide_eq_true_eq] at this
  exact this.1
theorem eqn_ex {t : T} (ht : Tz t) (hn : t.name = [61]) (h : eqnT t = true) : EX' false t ∧ smallT t = true := by
  unfold eqnT at h
  rw [Bool.and_eq_true, decide_eq_true_eq, Bool.and_eq_true, Bool.and_eq_true] at h
  obtain ⟨hl, hs, k0, k1⟩ := h
  have hsm : nodes t ≤ 30 := by simp only [smallT, Bool.and_eq_true, decide_eq_true_eq] at hs; exact hs.1
  refine ⟨⟨⟨⟨by omega, ht⟩, fun u hu => ?_, fun h => by cases h⟩, fun _ => ⟨hn, hl⟩⟩, hs⟩
  have hnu := nodes_arg hu
  refine ⟨?_, by omega⟩
  obtain ⟨n, us⟩ := t
  match us, hl with
  | [a, b], _ =>
    have hu : u ∈ [a, b] := hu
    simp only [List.mem_cons, List.not_mem_nil, or_false] at hu
    rcases hu with rfl | rfl
    · exact k0
    · exact k1
/-- What a rule looks like. -/
def LH (rs : List T) : Prop := ∀ r ∈ rs, okT (lhsT r) = true ∧ varN (lhsT r).name = false
theorem mt_eqn {r t : T} (h : okT (lhsT r) = true ∧ varN (lhsT r).name = false) (ht : t.name = [61]) : mt [] (lhsT r) t = none := by
  rw [mt_fun h.2, if_neg]
  intro hh
  exact ok_name h.1 (hh.1.trans ht)
theorem rewi_loopE (rs : List T) (hr : RS rs) (hL : LH rs) : ∀ (k n : Nat), k + n = 51 → 1 ≤ k → ∀ t : T, EX' false t → L63_0 (tms rs) (vb true) (vi (n : Nat)) (sv []) (sv t.name) (tms t.args) [] = outR (rwN rs false k n t) := by
  intro k
  induction k with
  | zero => intro n _ h; omega
  | succ k ih =>
    intro n hk _ t ht
    have htn := (ht.2 rfl).1
    have e1 := once_implG rs hr t true ht.1.1.2 ht.1.2.1 fun _ => Or.inr fun r hr => mt_eqn (hL r hr) htn
    rw [once_eqn hL htn] at e1
    rw [l63_0, rwN]
    cases ho : once rs false t with
    | none =>
      rw [ho] at e1
      have e1 : G 102 [tm t, tms rs, vb true] = some (.tup [.agg [sv [], .sl 2 []], vb false], []) := e1
      show _ = some (A.tup [tm t, vi (n : Nat), vb true], [])
      simp -implicitDefEqProofs only [evs, Nat.reduceAdd, reduceIte, e1]
    | some u =>
      rw [ho] at e1
      have e1 : G 102 [tm t, tms rs, vb true] = some (.tup [tm u, vb true], []) := e1
      obtain ⟨hu, hs, hA⟩ := once_facts hr ht ho
      have e2 : G 72 [tm u] = some (vb (smallT u), []) := isSmall_eq u hu.wf hu
      by_cases h50 : n = 50
      · have hk0 : k = 0 := by omega
        have hn : ((n : Nat) : Int) = 50 := by omega
        show _ = outR (if k = 0 ∨ smallT u = false then none else rwN rs false k (n + 1) u)
        rw [if_pos (Or.inl hk0)]
        show _ = some (A.tup [.agg [sv [], .sl 2 []], vi 0, vb false], [])
        simp -implicitDefEqProofs only [evs, Nat.reduceAdd, reduceIte, e1, hn]
      · have hn : ¬ ((n : Nat) : Int) = 50 := by omega
        have hk0 : ¬ k = 0 := by omega
        show _ = outR (if k = 0 ∨ smallT u = false then none else rwN rs false k (n + 1) u)
        cases hsm : smallT u with
        | false =>
          rw [hsm] at e2
          rw [if_pos (Or.inr rfl)]
          show _ = some (A.tup [.agg [sv [], .sl 2 []], vi 0, vb false], [])
          simp -implicitDefEqProofs only [evs, Nat.reduceAdd, reduceIte, e1, hn, e2]
        | true =>
          rw [hsm] at e2
          rw [if_neg (by simp [hk0])]
          have h5 : ck ((n : Int) + 1) = some (vi ((n + 1 : Nat) : Int)) := ck_le (by omega) (by omega)
          have := ih (n + 1) (by omega) (by omega) u (hs hsm)
          rw [← this]
          simp -implicitDefEqProofs only [evs, Nat.reduceAdd, reduceIte, e1, hn, e2, h5]
theorem rewI_eqE (rs : List T) (hr : RS rs) (hL : LH rs) (t : T) (ht : EX' false t) : G 63 [tm t, tms rs, vb true] = outR (rwN rs false 51 0 t) := by
  have e1 := copyTerm_eq t ht.1.1.2
  have := rewi_loopE rs hr hL 51 0 rfl (by decide) t ht
  have : L63_0 (tms rs) (vb true) (vi 0) (sv []) (sv t.name) (tms t.args) [] = _ := this
  rw [g63]
  simp -implicitDefEqProofs only [evs, Nat.reduceAdd, reduceIte, e1, this]
/-- An expression, rewritten. -/
noncomputable def rwX (rs : List T) (t : T) : Option (T × Nat) := rwN rs (validT t) 51 0 t
theorem expr_ex {t : T} (ht : Tz t) (h : exprT t = true) : EX' (validT t) t ∧ smallT t = true := by
  unfold exprT at h
  cases hv : validT t with
  | true => exact ⟨(valid_vs hv).1.ex, (valid_vs hv).2⟩
  | false =>
    rw [hv, Bool.false_or, Bool.and_eq_true, decide_eq_true_eq] at h
    exact eqn_ex ht h.1 h.2
theorem expr_name {t : T} (h : exprT t = true) (hv : validT t = false) : t.name = [61] ∧ eqnT t = true := by
  unfold exprT at h
  rw [hv, Bool.false_or, Bool.and_eq_true, decide_eq_true_eq] at h
  exact h
section
variable {rs : List T} (hl : rs.length ≤ 1048576) (hs : ∀ r ∈ rs, Tz r)
include hl hs
/-- What rewriting comes to, in both packages. -/
theorem rewT_full : ∃ b : Bool, (b = true → RS rs ∧ LH rs) ∧ ∀ t : T, Tz t →
    G 24 [tm t, tms rs] = outR (if exprT t && b then rwX rs t else none) ∧ G 23 [tm t, tms rs] = outR (if exprT t && b then rwX rs t else none) := by
  obtain ⟨b, r1, r2, r3⟩ := rules_eq rs hl hs
  have hLH : b = true → RS rs ∧ LH rs := fun hb => ⟨(r3 hb).1, fun r hr => ⟨((r3 hb).1.2 r hr).2.1.1, ((r3 hb).2 r hr).2.2⟩⟩
  refine ⟨b, hLH, fun t ht => ?_⟩
  have e1 := isExpr_eq t ht
  have e2 := isAny_eq t ht
  have e3 := l2Good_eq t ht.wf ht
  rw [g24, g23]
  cases he : exprT t <;> rw [he] at e1 e2
  · rw [Bool.false_and, if_neg Bool.false_ne_true]
    exact ⟨by simp -implicitDefEqProofs only [evs, Nat.reduceAdd, reduceIte, e1]; rfl, by simp -implicitDefEqProofs only [evs, Nat.reduceAdd, reduceIte, e2]; rfl⟩
  cases b with
  | false =>
    rw [Bool.and_false, if_neg Bool.false_ne_true]
    exact ⟨by simp -implicitDefEqProofs only [evs, Nat.reduceAdd, reduceIte, e1, r2]; rfl, by simp -implicitDefEqProofs only [evs, Nat.reduceAdd, reduceIte, e2, r1]; rfl⟩
  | true =>
    rw [Bool.and_self, if_pos rfl]
    obtain ⟨hR, hLh⟩ := hLH rfl
    obtain ⟨hE, hsm⟩ := expr_ex ht he
    have x1 : G 63 [tm t, tms rs, vb true] = outR (rwX rs t) := by
      unfold rwX
      cases hv : validT t with
      | true => rw [hv] at hE; exact rewI_eq rs hR true t hE
      | false => rw [hv] at hE; exact rewI_eqE rs hR hLh t hE
    have x2 : G 55 [tm t, tms rs, vb (validT t)] = outR (rwX rs t) := rewS_eq rs hR (validT t) t hE
    generalize validT t = v at *
    cases hx : rwX rs t with
    | none =>
      rw [hx] at x1 x2
      have x1 : G 63 [tm t, tms rs, vb true] = some (.tup [.agg [sv [], .sl 2 []], vi 0, vb false], []) := x1
      have x2 : G 55 [tm t, tms rs, vb v] = some (.tup [.agg [sv [], .sl 2 []], vi 0, vb false], []) := x2
      exact ⟨by simp -implicitDefEqProofs only [evs, Nat.reduceAdd, reduceIte, e1, r2, x1]; rfl, by simp -implicitDefEqProofs only [evs, Nat.reduceAdd, reduceIte, e2, r1, e3, x2]; rfl⟩
    | some r =>
      rw [hx] at x1 x2
      have x1 : G 63 [tm t, tms rs, vb true] = some (.tup [tm r.1, vi (r.2 : Nat), vb true], []) := x1
      have x2 : G 55 [tm t, tms rs, vb v] = some (.tup [tm r.1, vi (r.2 : Nat), vb true], []) := x2
      exact ⟨by simp -implicitDefEqProofs only [evs, Nat.reduceAdd, reduceIte, e1, r2, x1]; rfl, by simp -implicitDefEqProofs only [evs, Nat.reduceAdd, reduceIte, e2, r1, e3, x2]; rfl⟩
end
theorem rwN_ex {rs : List T} (hr : RS rs) (root : Bool) : ∀ (k n : Nat) (t : T) {r : T × Nat}, EX' root t → smallT t = true → rwN rs root k n t = some r → EX' root r.1 ∧ smallT r.1 = true := by
  intro k
  induction k with
  | zero => intro n t r _ _ h; cases h
  | succ k ih =>
    intro n t r ht hsm h
    rw [rwN] at h
    split at h
    · cases h; exact ⟨ht, hsm⟩
    · rename_i u hu
      obtain ⟨_, h2, _⟩ := once_facts hr ht hu
      split at h
      · cases h
      · rename_i hk
        have hs : smallT u = true := by
          cases hs : smallT u with
          | true => rfl
          | false => exact absurd (Or.inr hs) hk
        exact ih (n + 1) u (h2 hs) hs h
/-- What rewriting ends in is an expression of the same kind, to which nothing applies. -/
theorem rwX_end {rs : List T} (hr : RS rs) {t : T} (ht : Tz t) (he : exprT t = true) {u : T} {n : Nat} (h : rwX rs t = some (u, n)) : Tz u ∧ exprT u = true ∧ validT u = validT t ∧ rwX rs u = some (u, 0) ∧ (n = 0 → u = t) := by
  obtain ⟨hE, hsm⟩ := expr_ex ht he
  unfold rwX at h
  obtain ⟨h1, h2⟩ := rwN_ex hr (validT t) 51 0 t hE hsm h
  obtain ⟨g1, g2, g3⟩ := rwN_end 51 0 t h
  have hz : Tz u := h1.1.1.2
  have hvu : validT u = validT t := by
    cases hv : validT t with
    | true =>
      rw [hv] at h1
      unfold validT
      rw [show smallT u = true from h2, (h1.1.2.2 rfl).1]
      rfl
    | false =>
      rw [hv] at h1
      cases hk : okT u with
      | false => unfold validT; rw [hk, Bool.and_false]
      | true => exact absurd (h1.2 rfl).1 (ok_name hk)
  refine ⟨hz, ?_, hvu, ?_, fun hn => g3 hn⟩
  · unfold exprT
    rw [hvu]
    cases hv : validT t with
    | true => rfl
    | false =>
      rw [hv] at h1
      obtain ⟨k1, k2⟩ := h1.2 rfl
      rw [Bool.false_or, decide_eq_true k1, Bool.true_and]
      obtain ⟨_, _, ma, mb⟩ := arg_facts k2
      unfold eqnT
      rw [decide_eq_true k2, show smallT u = true from h2, (h1.1.2.1 _ ma).1, (h1.1.2.1 _ mb).1]
      rfl
  · unfold rwX
    rw [hvu]
    exact rwN_norm g1 50 0
end Go.Proofs.YtnbjmmldjggkfaaGreat
/- THE LAW OF REWRITING. -/
namespace Go.Proofs.YtnbjmmldjggkfaaGreat
open Go Go.RowKit Go.Proofs.YtnbjmmldjggkfaaGreat.Abs

set_option linter.unusedSimpArgs false
set_option linter.unusedVariables false
set_option maxHeartbeats 1000000

section
variable {code : List Int} (hb : By code)
include hb
theorem env_eq (s : Nat) (hs : 1 ≤ s ∧ s ≤ 3) : ∃ E : Env, E.length ≤ 3 ∧ (∀ x, 0 ≤ getE E x ∧ getE E x < (s : Int)) ∧ ∃ x1 x2 x3 y1 y2 y3 E1 E2, 
    G 30 [bts code, vi 1] = some (vi x1, []) ∧ pBin .rem false (vi x1) (vi (s : Nat)) = some (vi y1) ∧ G 29 [.agg [.sl 1 [], .sl 1 []], sv [88], vi y1] = some (ev E1, []) ∧
    G 30 [bts code, vi 2] = some (vi x2, []) ∧ pBin .rem false (vi x2) (vi (s : Nat)) = some (vi y2) ∧ G 29 [ev E1, sv [89], vi y2] = some (ev E2, []) ∧
    G 30 [bts code, vi 3] = some (vi x3, []) ∧ pBin .rem false (vi x3) (vi (s : Nat)) = some (vi y3) ∧ G 29 [ev E2, sv [90], vi y3] = some (ev E, []) := by
  obtain ⟨x1, a0, a1, e1⟩ := vAt_eq hb 1 (by decide) (by decide)
  obtain ⟨x2, b0, b1, e2⟩ := vAt_eq hb 2 (by decide) (by decide)
  obtain ⟨x3, c0, c1, e3⟩ := vAt_eq hb 3 (by decide) (by decide)
  have r1 := pRem (x := x1) (n := ((s : Nat) : Int)) a0 (by omega)
  have r2 := pRem (x := x2) (n := ((s : Nat) : Int)) b0 (by omega)
  have r3 := pRem (x := x3) (n := ((s : Nat) : Int)) c0 (by omega)
  have w1 := with_eqE [] (by decide) [88] (x1 % (s : Nat))
  have w2 := with_eqE [([88], x1 % (s : Nat))] (by simp) [89] (x2 % (s : Nat))
  have w3 := with_eqE [([88], x1 % (s : Nat)), ([89], x2 % (s : Nat))] (by simp) [90] (x3 % (s : Nat))
  have hgood : ∀ x : Int, 0 ≤ x % ((s : Nat) : Int) ∧ x % ((s : Nat) : Int) < (s : Int) := fun x => ⟨Int.emod_nonneg _ (by omega), Int.emod_lt_of_pos _ (by omega)⟩
  refine ⟨[([88], x1 % (s : Nat)), ([89], x2 % (s : Nat)), ([90], x3 % (s : Nat))], by simp, getE_good (by omega) (fun p hp => ?_), x1, x2, x3, _, _, _, _, _, e1, r1, w1, e2, r2, w2, e3, r3, w3⟩
  simp only [List.mem_cons, List.not_mem_nil, or_false] at hp
  rcases hp with rfl | rfl | rfl
  · exact hgood x1
  · exact hgood x2
  · exact hgood x3
theorem sizes_loop (t u : T) (n : Nat) (rs : List T) (hl : rs.length ≤ 14) (hrs : ∀ r ∈ rs, R3 S3 r) (hR : RS rs) (hL : LH rs) (ht : Tz t) (he : exprT t = true) (hx : rwX rs t = some (u, n)) :
    ∀ k, k ≤ 3 → L6_0 (bts code) (tms rs) (vi ((k + 1 : Nat) : Int)) (sv t.name) (tms t.args) (sv u.name) (tms u.args) = some (vb true, []) := by
  refine upto ?_ ?_
  · have h : ¬ ((3 + 1 : Nat) : Int) < 4 := by decide
    rw [l6_0]
    simp -implicitDefEqProofs only [evs, Nat.reduceAdd, reduceIte, h]
  · intro k hk ih
    obtain ⟨E, hEl, hE, x1, x2, x3, y1, y2, y3, E1, E2, p1, p2, p3, p4, p5, p6, p7, p8, p9⟩ := env_eq hb (k + 1) (by omega)
    obtain ⟨b, e1, hbb⟩ := vRules_eq hb (S := S3) (by decide) (k + 1) (by omega) rs (by omega) hrs
    have hlt : ((k + 1 : Nat) : Int) < 4 := by omega
    have c1 : ck (((k + 1 : Nat) : Int) + 1) = some (vi ((k + 1 + 1 : Nat) : Int)) := by rw [show ((k + 1 : Nat) : Int) + 1 = ((k + 1 + 1 : Nat) : Int) by omega]; exact ck_le (by omega) (by omega)
    obtain ⟨hz, hue, hvu, _, _⟩ := rwX_end hR ht he hx
    have v0 := isValidTerm_eq t ht.wf ht
    rw [l6_0]
    cases b with
    | false =>
      simp -implicitDefEqProofs only [evs, Nat.reduceAdd, reduceIte, hlt, p1, p2, p3, p4, p5, p6, p7, p8, p9, e1, c1, ih]
    | true =>
      have hH := hbb rfl
      have hM : ∀ n vs, (fun v : Int => 0 ≤ v ∧ v < ((k + 1 : Nat) : Int)) (mixM code ((k + 1 : Nat) : Int) n vs) := mixM_good _ (by omega)
      cases hv : validT t with
      | true =>
        rw [hv] at v0
        have q1 := vValue_eq hb ((k + 1 : Nat) : Int) (by omega) E (by omega) hE t ht
        have q2 := vValue_eq hb ((k + 1 : Nat) : Int) (by omega) E (by omega) hE u hz
        have hk : okT t = true := (valid_vs hv).1.1
        unfold rwX at hx
        rw [hv] at hx
        have hval := (rwN_val (M := mixM code ((k + 1 : Nat) : Int)) (good := fun v : Int => 0 ≤ v ∧ v < ((k + 1 : Nat) : Int)) (e := getE E) hM hE hR.ok hH 51 0 t hk hx).1
        have hval : val (mixM code ((k + 1 : Nat) : Int)) (getE E) u = val (mixM code ((k + 1 : Nat) : Int)) (getE E) t := hval
        rw [hval] at q2
        generalize val (mixM code ((k + 1 : Nat) : Int)) (getE E) t = z at *
        simp -implicitDefEqProofs only [evs, Nat.reduceAdd, reduceIte, hlt, p1, p2, p3, p4, p5, p6, p7, p8, p9, e1, c1, ih, v0, q1, q2]
      | false =>
        rw [hv] at v0
        obtain ⟨t1, t2⟩ := expr_name he hv
        obtain ⟨u1, u2⟩ := expr_name hue (hvu.trans hv)
        have l1 : t.args.length = 2 := by unfold eqnT at t2; rw [Bool.and_eq_true, decide_eq_true_eq] at t2; exact t2.1
        have l2 : u.args.length = 2 := by unfold eqnT at u2; rw [Bool.and_eq_true, decide_eq_true_eq] at u2; exact u2.1
        have q1 := vHolds_eq hb ((k + 1 : Nat) : Int) (by omega) E (by omega) hE t t1 l1 ht
        have q2 := vHolds_eq hb ((k + 1 : Nat) : Int) (by omega) E (by omega) hE u u1 l2 hz
        unfold rwX at hx
        rw [hv] at hx
        have hok := (expr_ex ht he).1.1.2.1
        have hval := (rwN_valE (M := mixM code ((k + 1 : Nat) : Int)) (good := fun v : Int => 0 ≤ v ∧ v < ((k + 1 : Nat) : Int)) (e := getE E) hM hE hR.ok hH 51 0 t (fun a ha => (hok a ha).1) hx).2.1
        have hval : u.args.map (val (mixM code ((k + 1 : Nat) : Int)) (getE E)) = t.args.map (val (mixM code ((k + 1 : Nat) : Int)) (getE E)) := hval
        rw [two_args l1, two_args l2] at hval
        simp only [List.map_cons, List.map_nil, List.cons.injEq, and_true] at hval
        rw [hval.1, hval.2] at q2
        generalize decide (val (mixM code ((k + 1 : Nat) : Int)) (getE E) (lhsT t) = val (mixM code ((k + 1 : Nat) : Int)) (getE E) (rhsT t)) = z at *
        cases z <;> simp -implicitDefEqProofs only [evs, Nat.reduceAdd, reduceIte, hlt, p1, p2, p3, p4, p5, p6, p7, p8, p9, e1, c1, ih, v0, q1, q2]
end
theorem law_rewriting (code : List Int) (hp : (∀ n ∈ code, 0 ≤ n ∧ n ≤ 255) ∧ code.length ≤ 9223372036854775807) : G 6 [bts code] = some (vb true, []) := by
  have e0 : G 26 [bts code] = some (vb (decide (65536 < ((code.length : Nat) : Int))), []) := by
    rw [g26]
    simp -implicitDefEqProofs only [evs, Nat.reduceAdd, reduceIte, ]
  rw [g6]
  by_cases hbig : 65536 < ((code.length : Nat) : Int)
  · rw [decide_eq_true hbig] at e0
    simp -implicitDefEqProofs only [evs, Nat.reduceAdd, reduceIte, e0]
  rw [decide_eq_false hbig] at e0
  have hb : By code := ⟨hp.1, by omega⟩
  obtain ⟨t, rs, ht, hl, hrs, e1⟩ := drawRT_eq hb
  obtain ⟨b, hbb, hfull⟩ := rewT_full (rs := rs) (by omega) (fun r hr => (hrs r hr).2.2.1)
  obtain ⟨r1, r2⟩ := hfull t ht
  cases hx : (if exprT t && b then rwX rs t else none) with
  | none =>
    rw [hx] at r1 r2
    have r1 : G 24 [tm t, tms rs] = some (.tup [.agg [sv [], .sl 2 []], vi 0, vb false], []) := r1
    have r2 : G 23 [tm t, tms rs] = some (.tup [.agg [sv [], .sl 2 []], vi 0, vb false], []) := r2
    simp -implicitDefEqProofs only [evs, Nat.reduceAdd, reduceIte, e0, e1, r1, r2]
  | some un =>
    obtain ⟨u, n⟩ := un
    rw [hx] at r1 r2
    cases heb : exprT t && b with
    | false => rw [heb, if_neg Bool.false_ne_true] at hx; cases hx
    | true =>
      rw [heb, if_pos rfl] at hx
      rw [Bool.and_eq_true] at heb
      obtain ⟨he, hb1⟩ := heb
      obtain ⟨hR, hL⟩ := hbb hb1
      have r1 : G 24 [tm t, tms rs] = some (.tup [tm u, vi (n : Nat), vb true], []) := r1
      have r2 : G 23 [tm t, tms rs] = some (.tup [tm u, vi (n : Nat), vb true], []) := r2
      obtain ⟨hz, hue, hvu, hxu, hn0⟩ := rwX_end hR ht he hx
      obtain ⟨r3, _⟩ := hfull u hz
      rw [hue, hb1, Bool.and_self, if_pos rfl, hxu] at r3
      have r3 : G 24 [tm u, tms rs] = some (.tup [tm u, vi 0, vb true], []) := r3
      have v1 := vTerms_eq u hz.wf u hz.wf
      rw [dq_self] at v1
      have loop := sizes_loop hb t u n rs hl hrs hR hL ht he hx 0 (by decide)
      have loop : L6_0 (bts code) (tms rs) (vi 1) (sv t.name) (tms t.args) (sv u.name) (tms u.args) = some (vb true, []) := loop
      by_cases hn : n = 0
      · have v2 := vTerms_eq t ht.wf u hz.wf
        rw [hn0 hn, dq_self] at v2
        have hni : ((n : Nat) : Int) = 0 := by omega
        rw [hn0 hn] at r3 v1 loop r1 r2
        rw [hni] at r1 r2
        simp -implicitDefEqProofs only [evs, Nat.reduceAdd, reduceIte, e0, e1, r1, r2, r3, v1, loop]
      · have hni : ¬ ((n : Nat) : Int) = 0 := by omega
        simp -implicitDefEqProofs only [evs, Nat.reduceAdd, reduceIte, e0, e1, r1, r2, r3, v1, hni, loop]
end Go.Proofs.YtnbjmmldjggkfaaGreat
