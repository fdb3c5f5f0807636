/- SEVERAL TEXTS TOGETHER: Rs, Rt, Ru, Rl, Rm, Rn, Rv, Rw, Rx. -/
import Derived.Test.YtnbjmmldjggkfaaGreatQa
import Derived.Sort.Walk0
import Derived.Test.YtnbjmmldjggkfaaGreatPk1
/- A MATCH APPLIED BY THE PROGRAM; A MATCH AS A SUBSTITUTION. -/
namespace Go.Proofs.YtnbjmmldjggkfaaGreat
open Go Go.RowKit Go.Proofs.YtnbjmmldjggkfaaGreat.Abs

set_option linter.unusedSimpArgs false
set_option linter.unusedVariables false
set_option maxHeartbeats 1000000

theorem replace_eq {m : Sub'} (hv : ∀ q ∈ m, varN q.1 = true) (hm : ∀ q ∈ m, Tz q.2) : ∀ t : T, Tz t → okT t = true → G 141 [tm t, .mp (m.map kv)] = some (tm (sub m t), []) := by
  refine T.ind fun t ih ht hk => ?_
  have hs := ht
  unfold Tz at hs
  rw [tsz_eq] at hs
  have lk := pLook_kv [sv [], .sl 2 []] m t.name
  rw [g141]
  cases h : varN t.name with
  | true =>
    have h0 : t.args = [] := var_args hk h
    have hz : (((0 : Nat) : Int) = 0) = True := by simp
    have hta : tm t = .agg [sv t.name, tms []] := by show A.agg [_, A.sl 2 (t.args.map tcells)] = _; rw [h0]
    rw [sub_var h, sub1, hta]
    cases hl : look m t.name with
    | none =>
      rw [hl] at lk
      have lk : pLook none true false [sv [], .sl 2 []] (.mp (m.map kv)) (sv t.name) = some (.tup [.agg [sv [], .sl 2 []], vb false]) := lk
      have h1 : (0 : Int) < ((0 : Nat) : Int) ↔ False := by simp
      simp -implicitDefEqProofs only [evs, Nat.reduceAdd, reduceIte, lk]
      rw [l141_0]
      simp -implicitDefEqProofs only [evs, Nat.reduceAdd, reduceIte, hz, h1, Option.getD_none, List.map_nil]
      rfl
    | some r =>
      rw [hl] at lk
      have lk : pLook none true false [sv [], .sl 2 []] (.mp (m.map kv)) (sv t.name) = some (.tup [tm r, vb true]) := lk
      have e2 := copyTerm_eq r (hm _ (look_in hl))
      simp -implicitDefEqProofs only [evs, Nat.reduceAdd, reduceIte, lk, hz, e2, Option.getD_some]
  | false =>
    have hn : look m t.name = none := by
      cases hl : look m t.name with
      | none => rfl
      | some r => have := hv _ (look_in hl); rw [h] at this; cases this
    rw [hn] at lk
    have lk : pLook none true false [sv [], .sl 2 []] (.mp (m.map kv)) (sv t.name) = some (.tup [.agg [sv [], .sl 2 []], vb false]) := lk
    have key := (upto (P := fun i => L141_0 (.mp (m.map kv)) (tms t.args) (vi (t.args.length : Nat)) (vi i) (sv []) (sv t.name) [] (((t.args.map (sub m)).take i).map tcells) = some (tm (sub m t), [])) (n := t.args.length) ?_ ?_ 0 (Nat.zero_le _))
    · simp only [Int.natCast_zero, List.take_zero, List.map_nil] at key
      simp -implicitDefEqProofs only [evs, Nat.reduceAdd, reduceIte, lk, key]
    · rw [l141_0, List.take_of_length_le (by rw [List.length_map]; omega), sub_fun h]
      simp -implicitDefEqProofs only [evs, Nat.reduceAdd, reduceIte, ]
      rfl
    · intro i hi ih'
      have hlt : (i : Int) < ((t.args.length : Nat) : Int) := by omega
      have h5 := add_one hi (by show t.args.length ≤ 9223372036854775807; omega)
      have e2 := ih t.args[i] (List.getElem_mem _) (ht.args _ (List.getElem_mem _)) (okT_args hk _ (List.getElem_mem _))
      have hf : pFit (i + 1) 40 = true := pF40 (by omega)
      have hi2 : i < (t.args.map (sub m)).length := by rw [List.length_map]; exact hi
      have hl : (((t.args.map (sub m)).take i).map tcells).length = i := by rw [List.length_map, List.length_take, List.length_map]; omega
      have ha : rApp (((t.args.map (sub m)).take i).map tcells) [[sv (sub m t.args[i]).name, tms (sub m t.args[i]).args]] = ((t.args.map (sub m)).take (i + 1)).map tcells := by
        rw [show [sv (sub m t.args[i]).name, tms (sub m t.args[i]).args] = tcells (sub m t.args[i]) from (tcells_eq _).symm, List.take_add_one, List.getElem?_eq_getElem hi2, List.map_append, List.getElem_map]
        rfl
      generalize ((t.args.map (sub m)).take i).map tcells = R at *
      rw [l141_0]
      simp -implicitDefEqProofs only [evs, Nat.reduceAdd, reduceIte, hlt, pIndexAddr_map hi, pLoadN_tcells, e2, hl, hf, ha, h5, ih']

theorem putS_drop (n : List UInt8) (t : T) : ∀ (s : Sub') (i : Nat), i ≤ s.length → (∀ j, (h : j < i) → ∀ h' : j < s.length, sLt s[j].1 n = true) → ((∃ h : i < s.length, sLt s[i].1 n = false) ∨ i = s.length) → putS s n t = s.take i ++ (n, t) :: s.drop i
  | [], i, hi, _, _ => by
    have : i = 0 := by simpa using hi
    subst this
    rfl
  | p :: s, 0, _, _, h => by
    have hp : sLt p.1 n = false := by
      rcases h with ⟨_, h⟩ | h
      · exact h
      · cases h
    unfold putS
    rw [List.takeWhile_cons_of_neg (p := fun p : List UInt8 × T => sLt p.1 n) (by simp [hp]), List.dropWhile_cons_of_neg (p := fun p : List UInt8 × T => sLt p.1 n) (by simp [hp])]
    rfl
  | p :: s, i + 1, hi, h1, h => by
    have hp : sLt p.1 n = true := h1 0 (by omega) (by simp)
    have := putS_drop n t s i (by simpa using hi) (fun j hj hj' => h1 (j + 1) (by omega) (by simpa using hj')) (by
      rcases h with ⟨h, h2⟩ | h
      · exact Or.inl ⟨by simpa using h, h2⟩
      · exact Or.inr (by simpa using h))
    unfold putS at this ⊢
    rw [List.takeWhile_cons_of_pos (p := fun p : List UInt8 × T => sLt p.1 n) hp, List.dropWhile_cons_of_pos (p := fun p : List UInt8 × T => sLt p.1 n) hp, List.cons_append, this]
    rfl

theorem rCnt_map1 {α : Type} (f : α → List A) (l : List α) : rCnt (l.map f) = l.length := List.length_map ..
theorem put_end1 (u : Sub') (hl : u.length ≤ 1000000) (i : Nat) (hi : i ≤ u.length) :
    pB u.length u.length (some (vi (i : Nat))) = some i ∧ rWin (u.map bc) 0 i = (u.take i).map bc ∧ pFit (u.take i).length 56 = true ∧ pB u.length u.length none = some u.length ∧ pB 0 u.length (some (vi (i : Nat))) = some i ∧ rWin (u.map bc) i (u.length - i) = (u.drop i).map bc ∧ rRem (u.map bc) 0 = u.length ∧ pFit ((u.take i).length + 1) 56 = true ∧ pFit ((u.take i).length + 1 + (u.drop i).length) 56 = true := by
  refine ⟨pB_le hi, by rw [rWin, List.drop_zero, List.map_take], pF56 (by rw [List.length_take]; omega), pB_none_le (Nat.le_refl _), pB_le hi, ?_, by rw [rRem, List.length_map]; rfl, pF56 (by rw [List.length_take]; omega), pF56 (by rw [List.length_take, List.length_drop]; omega)⟩
  rw [rWin, ← List.map_drop, List.take_of_length_le (by rw [List.length_map, List.length_drop]; omega)]
theorem put_app1 (u v : Sub') (n : List UInt8) (t : T) : rApp (rApp (u.map bc) [[sv n, sv t.name, tms t.args]]) (v.map bc) = (u ++ (n, t) :: v).map bc := by
  rw [List.map_append]
  show (u.map bc ++ [_]) ++ v.map bc = u.map bc ++ _ :: v.map bc
  rw [List.append_assoc]
  rfl
theorem put_len1 (u : Sub') (n : List UInt8) (t : T) : (rApp (u.map bc) [[sv n, sv t.name, tms t.args]]).length = u.length + 1 := by
  simp [rApp]
theorem puts_eq (u : Sub') (hl : u.length ≤ 1000000) (n : List UInt8) (t : T) (ht : Tz t) : C108_0 (sv n) (tm t) (u.map bc) = some (.top, [sbs (putI u n t)]) := by
  have e1 := own_eq t ht
  have key := upto (P := fun i => (∀ j, (h : j < i) → ∀ h' : j < u.length, sLt u[j].1 n = true) → L108c0_0 (sv n) (vi i) (sv t.name) (tms t.args) (u.map bc) [] = some (.top, [sbs (putS u n t)])) (n := u.length) ?_ ?_ 0 (Nat.zero_le _) (fun j h => absurd h (Nat.not_lt_zero _))
  · rw [c108_0, putI]
    by_cases h : t.name = n
    · rw [if_pos h]
      simp -implicitDefEqProofs only [evs, Nat.reduceAdd, reduceIte, h]
    · rw [if_neg h]
      have e : L108c0_0 (sv n) (vi 0) (sv t.name) (tms t.args) (u.map bc) [] = some (.top, [sbs (putS u n t)]) := key
      simp -implicitDefEqProofs only [evs, Nat.reduceAdd, reduceIte, h, e]
  · intro hall
    rw [putS_drop n t u u.length (Nat.le_refl _) hall (Or.inr rfl)]
    obtain ⟨k1, k2, k3, k4, k5, k6, k7, k8, k9⟩ := put_end1 u hl u.length (Nat.le_refl _)
    have m1 := put_app1 (u.take u.length) (u.drop u.length) n t
    have m2 := put_len1 (u.take u.length) n t
    rw [l108c0_0]
    simp -implicitDefEqProofs only [evs, Nat.reduceAdd, reduceIte, rCnt_map1, k1, k2, k3, k4, k5, k6, k7, nSub_eq, Nat.sub_zero, Nat.zero_add, e1]
    generalize hB : buildA _ _ _ = B
    have hB' : B = some (.agg [sv n, sv t.name, tms t.args]) := by rw [← hB]; kernel_rfl
    rw [hB']
    simp -implicitDefEqProofs only [evs, Nat.reduceAdd, reduceIte, k3, k8, k9, m1, m2]
  · intro i hi ih hall
    have hlt : (i : Int) < ((u.length : Nat) : Int) := by omega
    have h5 := add_one hi (by show u.length ≤ 9223372036854775807; omega)
    have x1 : pIx u.length (vi ((i : Nat) : Int)) = some i := pIx_lt hi
    have x2 := pRowP_bc hi
    cases hs : sLt u[i].1 n
    · rw [putS_drop n t u i (by omega) hall (Or.inl ⟨hi, hs⟩)]
      obtain ⟨k1, k2, k3, k4, k5, k6, k7, k8, k9⟩ := put_end1 u hl i (by omega)
      have m1 := put_app1 (u.take i) (u.drop i) n t
      have m2 := put_len1 (u.take i) n t
      rw [l108c0_0]
      simp -implicitDefEqProofs only [evs, Nat.reduceAdd, reduceIte, hlt, x1, x2, hs, rCnt_map1, k1, k2, k3, k4, k5, k6, k7, nSub_eq, Nat.sub_zero, Nat.zero_add, e1]
      generalize hB : buildA _ _ _ = B
      have hB' : B = some (.agg [sv n, sv t.name, tms t.args]) := by rw [← hB]; kernel_rfl
      rw [hB']
      simp -implicitDefEqProofs only [evs, Nat.reduceAdd, reduceIte, k3, k8, k9, m1, m2]
    · have ih := ih fun j hj hj' => by
        by_cases h : j = i
        · subst h; exact hs
        · exact hall j (by omega) hj'
      rw [l108c0_0]
      simp -implicitDefEqProofs only [evs, Nat.reduceAdd, reduceIte, hlt, x1, x2, hs, h5, ih]

theorem putI_len (s : Sub') (n : List UInt8) (t : T) : (putI s n t).length ≤ s.length + 1 := by
  unfold putI
  split
  · omega
  · unfold putS
    rw [List.length_append, List.length_cons]
    have := List.takeWhile_append_dropWhile (p := fun p : List UInt8 × T => sLt p.1 n) (l := s)
    have := congrArg List.length this
    rw [List.length_append] at this
    omega
theorem putI_mem {s : Sub'} {n : List UInt8} {t : T} {q : List UInt8 × T} (h : q ∈ putI s n t) : q ∈ s ∨ q = (n, t) := by
  unfold putI at h
  split at h
  · exact Or.inl h
  · unfold putS at h
    rw [List.mem_append, List.mem_cons] at h
    rcases h with h | h | h
    · exact Or.inl (List.takeWhile_subset _ h)
    · exact Or.inr h
    · exact Or.inl (List.dropWhile_subset _ h)
theorem foldl_len : ∀ (m s : Sub'), (m.foldl (fun s p => putI s p.1 p.2) s).length ≤ s.length + m.length
  | [], s => by simp
  | p :: m, s => by
    rw [List.foldl_cons, List.length_cons]
    have := foldl_len m (putI s p.1 p.2)
    have := putI_len s p.1 p.2
    omega
theorem foldl_mem : ∀ (m s : Sub') {q : List UInt8 × T}, q ∈ m.foldl (fun s p => putI s p.1 p.2) s → q ∈ s ∨ q ∈ m
  | [], s, q, h => Or.inl h
  | p :: m, s, q, h => by
    rw [List.foldl_cons] at h
    rcases foldl_mem m _ h with h | h
    · rcases putI_mem h with h | h
      · exact Or.inl h
      · exact Or.inr (by rw [h]; simp)
    · exact Or.inr (by simp [h])
theorem pairs_mem {m : Sub'} {q : List UInt8 × T} (h : q ∈ pairsS m) : q ∈ m := by
  rcases foldl_mem m [] h with h | h
  · cases h
  · exact h
theorem pairs_eq (m : Sub') (hm : ∀ q ∈ m, Tz q.2) (hl : m.length ≤ 1000000) : G 137 [sbs m] = some (sb (pairsS m), []) := by
  have key := upto (P := fun i => ∀ s : Sub', s.length ≤ i → L137_0 (sbs m) (vi i) [] (s.map bc) = some (sb ((m.drop i).foldl (fun s p => putI s p.1 p.2) s), [])) (n := m.length) ?_ ?_ 0 (Nat.zero_le _) [] (Nat.le_refl _)
  · rw [g137]
    exact key
  · intro s _
    rw [l137_0, List.drop_length]
    simp -implicitDefEqProofs only [evs, Nat.reduceAdd, reduceIte, ]
    rfl
  · intro i hi ih s hs
    have hlt : (i : Int) < ((m.length : Nat) : Int) := by omega
    have h5 := add_one hi (by show m.length ≤ 9223372036854775807; omega)
    have e1 := puts_eq s (by omega) m[i].1 m[i].2 (hm _ (List.getElem_mem _))
    have := putI_len s m[i].1 m[i].2
    have ih := ih (putI s m[i].1 m[i].2) (by omega)
    rw [l137_0, drop_cons hi, List.foldl_cons]
    simp -implicitDefEqProofs only [evs, Nat.reduceAdd, reduceIte, hlt, pIndexAddr_map hi, pAdd_bc, pLoadP_bc, pLoadN_bc1, e1, h5, ih]
end Go.Proofs.YtnbjmmldjggkfaaGreat
/- PLACES: all, the subterm at one, another term there. The reference's step of rewriting. -/
namespace Go.Proofs.YtnbjmmldjggkfaaGreat
open Go Go.RowKit Go.Proofs.YtnbjmmldjggkfaaGreat.Abs

set_option linter.unusedSimpArgs false
set_option linter.unusedVariables false
set_option maxHeartbeats 1000000

theorem pF24 {n : Nat} (h : n ≤ 4194304) : pFit n 24 = true := by
  unfold pFit
  exact decide_eq_true ⟨by omega, by omega⟩
theorem pF8' {n : Nat} (h : n ≤ 4194304) : pFit n 8 = true := by
  unfold pFit
  exact decide_eq_true ⟨by omega, by omega⟩
abbrev pln (p : List Nat) : A := .sl 1 (p.map fun n => [vi (n : Nat)])
abbrev plc (p : List Nat) : List A := [pln p]
theorem own1_eq (p : List Nat) (h : p.length ≤ 4194304) : C153_0 (pln p) = some (.top, [pln p]) := by
  rw [c153_0]
  have := pF8' (n := p.length) h
  simp -implicitDefEqProofs only [evs, Nat.reduceAdd, reduceIte, this]
mutual
theorem postT_len : ∀ t : T, (postT t).length = nodes t
  | .mk n us => by
    rw [postT, nodes, List.length_append, postL_len us 0]
    simp
    omega
theorem postL_len : ∀ (us : List T) (i : Nat), (postL i us).length = nodesL us
  | [], i => rfl
  | t :: ts, i => by
    rw [postL, nodesL, List.length_append, List.length_map, postT_len t, postL_len ts (i + 1)]
end
theorem post_eq : ∀ (t : T) (p : List Nat), Tz t → p.length + tsz t ≤ 2000000 → G 133 [tm t, pln p] = some (.sl 1 ((postT t).map fun q => plc (p ++ q)), []) := by
  refine T.ind fun t ih p ht hp => ?_
  have hs := ht
  unfold Tz at hs
  rw [tsz_eq] at hs hp
  have hnl := nodes_le t
  have hne := nodes_eq t
  have e0 := own1_eq p (by omega)
  have hsplit : ∀ i, i ≤ t.args.length → nodesL (t.args.take i) + nodesL (t.args.drop i) = nodesL t.args := by
    intro i _
    have : ∀ a b : List T, nodesL (a ++ b) = nodesL a + nodesL b := by
      intro a b
      induction a with
      | nil => simp [nodesL]
      | cons x a ih => simp only [List.cons_append, nodesL, ih]; omega
    rw [← this, List.take_append_drop]
  have key := upto (P := fun i => ∀ R : List (List A), R.length + nodesL (t.args.drop i) ≤ 2000000 → L133_0 (pln p) (vi i) (sv t.name) (tms t.args) R = some (.sl 1 (R ++ (postL i (t.args.drop i) ++ [[]]).map fun q => plc (p ++ q)), [])) (n := t.args.length) ?_ ?_ 0 (Nat.zero_le _) [] (by simp; unfold Tz at ht; omega)
  · rw [g133, postT_eq]
    simp only [Int.natCast_zero, List.nil_append, List.drop_zero] at key
    simp -implicitDefEqProofs only [evs, Nat.reduceAdd, reduceIte, key]
  · intro R hR
    rw [l133_0, List.drop_length]
    have hf : pFit (R.length + 1) 24 = true := pF24 (by omega)
    simp -implicitDefEqProofs only [evs, Nat.reduceAdd, reduceIte, e0, hf]
    rw [postL, List.nil_append, List.map_cons, List.append_nil]
    rfl
  · intro i hi ih2 R hR
    have hlt : (i : Int) < ((t.args.length : Nat) : Int) := by omega
    have h5 := add_one hi (by show t.args.length ≤ 9223372036854775807; omega)
    have hm : tsz t.args[i] ≤ tszL t.args := tsz_mem (List.getElem_mem _)
    have ed : nodesL (t.args.drop i) = nodes t.args[i] + nodesL (t.args.drop (i + 1)) := by rw [drop_cons hi]; rfl
    have e2 := ih t.args[i] (List.getElem_mem _) (p ++ [i]) (ht.args _ (List.getElem_mem _)) (by rw [List.length_append, List.length_singleton]; omega)
    have ea : rApp (p.map fun n : Nat => [vi (n : Nat)]) [[vi (i : Nat)]] = (p ++ [i]).map fun n : Nat => [vi (n : Nat)] := by rw [List.map_append]; rfl
    have hf1 : pFit (p.length + 1) 8 = true := pF8' (by omega)
    have hpl := postT_len t.args[i]
    have hf2 : pFit (R.length + (postT t.args[i]).length) 24 = true := pF24 (by omega)
    have ih3 := ih2 (rApp R ((postT t.args[i]).map fun q => plc ((p ++ [i]) ++ q))) (by show (R ++ _).length + _ ≤ _; rw [List.length_append, List.length_map]; omega)
    rw [l133_0, drop_cons hi, postL]
    simp -implicitDefEqProofs only [evs, Nat.reduceAdd, reduceIte, hlt, pIndexAddr_map hi, pLoadN_tcells, e0, hf1, ea, e2, hf2, h5, ih3]
    congr 2
    show A.sl 1 ((R ++ _) ++ _) = _
    congr 1
    rw [List.append_assoc, List.append_assoc, List.map_append, List.map_append, List.map_map]
    congr 2
    refine List.map_congr_left fun q _ => ?_
    show plc (p ++ [i] ++ q) = plc (p ++ (i :: q))
    rw [List.append_assoc]
    rfl
    rw [List.map_append]

/-- A place that is there. -/
def okP : List Nat → T → Prop
  | [], _ => True
  | i :: p, t => i < t.args.length ∧ okP p (t.args.getD i (.mk [] []))
theorem getD_eq {ts : List T} {i : Nat} (h : i < ts.length) : ts.getD i (.mk [] []) = ts[i] := by rw [List.getD_eq_getElem?_getD, List.getElem?_eq_getElem h]; rfl
mutual
theorem postT_ok : ∀ (t : T), ∀ p ∈ postT t, okP p t ∧ p.length ≤ nodes t
  | .mk n us => fun p hp => by
    rw [postT, List.mem_append] at hp
    rcases hp with hp | hp
    · obtain ⟨j, q, rfl, h1, h2, h3⟩ := postL_ok us 0 p hp
      refine ⟨?_, ?_⟩
      · show (0 + j) < us.length ∧ okP q (us.getD (0 + j) _)
        rw [Nat.zero_add]
        exact ⟨h1, h2⟩
      · rw [List.length_cons, nodes]; omega
    · rw [List.mem_singleton] at hp
      subst hp
      exact ⟨trivial, by simp⟩
theorem postL_ok : ∀ (us : List T) (i : Nat), ∀ p ∈ postL i us, ∃ j q, p = (i + j) :: q ∧ j < us.length ∧ okP q (us.getD j (.mk [] [])) ∧ q.length ≤ nodesL us
  | [], i, p, hp => by rw [postL] at hp; cases hp
  | t :: ts, i, p, hp => by
    rw [postL, List.mem_append] at hp
    rcases hp with hp | hp
    · obtain ⟨q, hq, rfl⟩ := List.mem_map.1 hp
      obtain ⟨h1, h2⟩ := postT_ok t q hq
      exact ⟨0, q, rfl, by simp, h1, by rw [nodesL]; omega⟩
    · obtain ⟨j, q, rfl, h1, h2, h3⟩ := postL_ok ts (i + 1) p hp
      exact ⟨j + 1, q, by rw [show i + 1 + j = i + (j + 1) by omega], by simpa using h1, by simpa using h2, by rw [nodesL]; omega⟩
end
theorem okP_atT {q : T → Prop} (hq : ∀ t, q t → ∀ u ∈ t.args, q u) : ∀ {p : List Nat} {t : T}, okP p t → q t → q (atT p t)
  | [], _, _, h => h
  | i :: p, t, hp, h => by
    obtain ⟨h1, h2⟩ := hp
    refine okP_atT (p := p) hq h2 ?_
    rw [getD_eq h1]
    exact hq t h _ (List.getElem_mem _)

theorem pln_cons (i : Nat) (p : List Nat) : pln (i :: p) = .sl 1 ([vi (i : Nat)] :: p.map fun n => [vi (n : Nat)]) := rfl
theorem pIndexAddr_pln {p : List Nat} {i : Nat} (h : i < p.length) : pIndexAddr 1 (pln p) (vi (i : Nat)) = some (.elt [vi (p[i] : Nat)] 0) := pIndexAddr_map h
theorem at_eq (t : T) (p : List Nat) (ht : Tz t) (hp : okP p t) (hl : p.length ≤ 2000000) : G 134 [tm t, pln p] = some (.tup [tm (atT p t), vb true], []) := by
  have key := upto (P := fun i => ∀ t : T, Tz t → okP (p.drop i) t → L134_0 (pln p) (vi i) (sv t.name) (tms t.args) (sv []) [] = some (.tup [tm (atT (p.drop i) t), vb true], [])) (n := p.length) ?_ ?_ 0 (Nat.zero_le _) t ht hp
  · rw [g134]
    simp -implicitDefEqProofs only [evs, Nat.reduceAdd, reduceIte, ]
    exact key
  · intro t ht _
    have e1 := own_eq t ht
    rw [l134_0, List.drop_length]
    simp -implicitDefEqProofs only [evs, Nat.reduceAdd, reduceIte, e1]
    rfl
  · intro i hi ih t ht hp
    have hlt : (i : Int) < ((p.length : Nat) : Int) := by omega
    have h5 := add_one hi (by show p.length ≤ 9223372036854775807; omega)
    have hs := ht
    unfold Tz at hs
    rw [tsz_eq] at hs
    rw [drop_cons hi] at hp ⊢
    obtain ⟨h1, h2⟩ := hp
    have hsub : ck (((t.args.length : Nat) : Int) - 1) = some (vi (((t.args.length : Nat) : Int) - 1)) := ck_le (by omega) (by omega)
    have hin := l1In_eq ((p[i] : Nat) : Int) 0 (((t.args.length : Nat) : Int) - 1)
    have hb : inB 0 (((t.args.length : Nat) : Int) - 1) ((p[i] : Nat) : Int) = true := by unfold inB; simp; omega
    rw [hb] at hin
    have e : t.args.getD p[i] (.mk [] []) = t.args[p[i]] := getD_eq h1
    rw [e] at h2
    have ih := ih _ (ht.args _ (List.getElem_mem h1)) h2
    rw [l134_0, atT, e]
    simp -implicitDefEqProofs only [evs, Nat.reduceAdd, reduceIte, hlt, pIndexAddr_pln hi, hsub, hin, pIndexAddr_map h1, pLoadN_tcells, h5, ih]

theorem ownC_eq (t : T) (ht : Tz t) : C40_0 (sv t.name) (tms t.args) = some (.top, [sv t.name, tms t.args]) := by
  have h := ht
  unfold Tz at h
  rw [tsz_eq] at h
  have key := (upto (P := fun i => L40c0_0 (vi i) (sv t.name) (tms t.args) (sv []) (sv t.name) [] ((t.args.take i).map tcells) = some (.top, [sv t.name, tms t.args])) (n := t.args.length) ?_ ?_ 0 (Nat.zero_le _))
  · rw [c40_0]
    simp only [Int.natCast_zero, List.take_zero, List.map_nil] at key
    simp -implicitDefEqProofs only [evs, Nat.reduceAdd, reduceIte, key]
  · rw [l40c0_0, List.take_length]
    simp -implicitDefEqProofs only [evs, Nat.reduceAdd, reduceIte]
  · intro i hi ih'
    have hlt : (i : Int) < ((t.args.length : Nat) : Int) := by omega
    have h5 := add_one hi (by show t.args.length ≤ 9223372036854775807; omega)
    have e1 := own_eq t.args[i] (by have := tsz_mem (List.getElem_mem hi); omega)
    have hf : pFit (i + 1) 40 = true := pF40 (by omega)
    have hl : ((t.args.take i).map tcells).length = i := by rw [List.length_map, List.length_take]; omega
    have ha : rApp ((t.args.take i).map tcells) [[sv t.args[i].name, tms t.args[i].args]] = (t.args.take (i + 1)).map tcells := by
      rw [show [sv t.args[i].name, tms t.args[i].args] = tcells t.args[i] from (tcells_eq _).symm, List.take_add_one, List.getElem?_eq_getElem hi, List.map_append]
      rfl
    rw [l40c0_0]
    simp -implicitDefEqProofs only [evs, Nat.reduceAdd, reduceIte, hlt, pIndexAddr_map hi, pLoadN_tcells, e1, hl, hf, ha, h5, ih', List.length_take, Nat.min_eq_left (Nat.le_of_lt hi)]
theorem with_eq (s : T) (hs : Tz s) : ∀ (p : List Nat) (t : T), Tz t → okP p t → p.length ≤ 2000000 → G 136 [tm t, pln p, tm s] = some (tm (withT s p t), [])
  | [], t, _, _, _ => by
    have e1 := ownC_eq s hs
    have hz : (((0 : Nat) : Int) = 0) = True := by simp
    rw [g136, withT]
    simp -implicitDefEqProofs only [evs, Nat.reduceAdd, reduceIte, hz, e1, List.map_nil, List.getElem?_cons_zero]
  | i :: p, t, ht, hp, hl => by
    obtain ⟨h1, h2⟩ := hp
    have e : t.args.getD i (.mk [] []) = t.args[i] := getD_eq h1
    rw [e] at h2
    have e1 := ownC_eq t ht
    have e2 := with_eq s hs p t.args[i] (ht.args _ (List.getElem_mem h1)) h2 (by rw [List.length_cons] at hl; omega)
    have hz : ¬ ((p.length + 1 : Nat) : Int) = 0 := by omega
    have hz2 : ¬ ((p.length : Nat) : Int) + 1 = 0 := by omega
    have i0 : pIndexAddr 1 (pln (i :: p)) (vi 0) = some (.elt [vi (i : Nat)] 0) := pIndexAddr_pln (p := i :: p) (i := 0) (by simp)
    have sl : pSlice 1 (pln (i :: p)) (some (vi 1)) none = some (pln p) := by
      have := pSlice_drop (k := 1) (xs := (i :: p).map fun n : Nat => [vi (n : Nat)]) (i := 1) (by simp)
      exact this
    have ix : pIx t.args.length (vi (i : Nat)) = some i := pIx_lt h1
    have rg : rGet (t.args.map tcells) i = some (tcells t.args[i]) := by unfold rGet; simp [h1]
    have co : cOver (tcells t.args[i]) 0 [sv (withT s p t.args[i]).name, tms (withT s p t.args[i]).args] = tcells (withT s p t.args[i]) := by rw [tcells_eq, tcells_eq]; rfl
    have rs : rSet (t.args.map tcells) i (tcells (withT s p t.args[i])) = (t.args.set i (withT s p t.args[i])).map tcells := by unfold rSet; rw [List.map_set]
    have ll : (pLenL (pln (i :: p))) = some (vi ((p.length + 1 : Nat) : Int)) := by rw [pln_cons]; simp -implicitDefEqProofs only [evs, Nat.reduceAdd, reduceIte, ]
    rw [g136, withT, e]
    simp -implicitDefEqProofs only [evs, Nat.reduceAdd, reduceIte, ll, hz, e1, i0, pIndexAddr_map h1, pLoadN_tcells, sl, e2, ix, rg, co, rs, List.getElem?_cons_zero]
    rfl
end Go.Proofs.YtnbjmmldjggkfaaGreat
/- ONE STEP OF REWRITING BY THE REFERENCE AND BY THE PROGRAM. -/
namespace Go.Proofs.YtnbjmmldjggkfaaGreat
open Go Go.RowKit Go.Proofs.YtnbjmmldjggkfaaGreat.Abs

set_option linter.unusedSimpArgs false
set_option linter.unusedVariables false
set_option maxHeartbeats 1000000

/-! ### Sizes -/
theorem varN_len {n : List UInt8} (h : varN n = true) : n.length ≤ 4 := by
  cases n with
  | nil => simp
  | cons c r =>
    simp only [varN, Bool.and_eq_true, decide_eq_true_eq] at h
    rw [List.length_cons]
    omega
theorem symN_len' {n : List UInt8} (h : symN n = true) : n.length ≤ 6 := by
  cases n with
  | nil => simp
  | cons c r =>
    simp only [symN, Bool.and_eq_true, decide_eq_true_eq] at h
    rw [List.length_cons]
    omega
theorem ok_tsz : ∀ t : T, okT t = true → tsz t ≤ 10 * nodes t := by
  refine T.ind fun t ih hk => ?_
  have hL : ∀ us : List T, (∀ u ∈ us, tsz u ≤ 10 * nodes u) → tszL us ≤ 10 * nodesL us := by
    intro us
    induction us with
    | nil => intro _; simp [tszL]
    | cons u us ih2 =>
      intro h
      have := h u (by simp)
      have := ih2 fun w hw => h w (by simp [hw])
      simp only [tszL, nodesL]
      omega
  have h1 := hL t.args fun u hu => ih u hu (okT_args hk u hu)
  rw [tsz_eq, nodes_eq]
  rw [okT_eq] at hk
  cases hv : varN t.name with
  | true =>
    rw [hv, if_pos rfl] at hk
    have := varN_len hv
    rw [List.isEmpty_iff.1 hk] at h1 ⊢
    simp only [List.length_nil, tszL] at h1 ⊢
    omega
  | false =>
    rw [hv, if_neg Bool.false_ne_true, Bool.and_eq_true, Bool.and_eq_true, decide_eq_true_eq] at hk
    have := symN_len' hk.1
    omega
theorem sub_nodes {u : Sub'} {Z : Nat} (hZ : 1 ≤ Z) (hu : ∀ q ∈ u, nodes q.2 ≤ Z) : ∀ t : T, nodes (sub u t) ≤ nodes t * Z := by
  refine T.ind fun t ih => ?_
  cases hv : varN t.name with
  | true =>
    have h1 := nodes_pos t
    have h2 : 1 * Z ≤ nodes t * Z := Nat.mul_le_mul_right Z h1
    rw [sub_var hv, sub1]
    cases hl : look u t.name with
    | none => show 1 + 0 ≤ _; omega
    | some r => have : nodes r ≤ Z := hu _ (look_in hl); show nodes r ≤ _; omega
  | false =>
    have hL : ∀ us : List T, (∀ v ∈ us, nodes (sub u v) ≤ nodes v * Z) → nodesL (us.map (sub u)) ≤ nodesL us * Z := by
      intro us
      induction us with
      | nil => intro _; simp [nodesL]
      | cons v us ih2 =>
        intro h
        have := h v (by simp)
        have := ih2 fun w hw => h w (by simp [hw])
        simp only [List.map_cons, nodesL, Nat.add_mul]
        omega
    have := hL t.args ih
    rw [nodes_eq, sub_args hv, nodes_eq t, Nat.add_mul]
    omega
theorem nodes_arg {t u : T} (h : u ∈ t.args) : nodes u < nodes t := by
  have := nodesL_mem h
  have := nodes_eq t
  omega

/-- Terms that are valid and small. -/
def Vs (t : T) : Prop := okT t = true ∧ nodes t ≤ 30
theorem Vs.args {t : T} (h : Vs t) : ∀ u ∈ t.args, Vs u := fun u hu => ⟨okT_args h.1 u hu, by have := nodes_arg hu; have := h.2; omega⟩
theorem Vs.tz {t : T} (h : Vs t) : Tz t := by
  have := ok_tsz t h.1
  have := h.2
  unfold Tz
  omega
/-- Rules. -/
def RS (rs : List T) : Prop := rs.length ≤ 10 ∧ ∀ r ∈ rs, r.args.length = 2 ∧ Vs (lhsT r) ∧ Vs (rhsT r)
theorem RS.ok {rs : List T} (h : RS rs) : RulesOk rs := fun r hr => ⟨(h.2 r hr).2.1.1, (h.2 r hr).2.2.1⟩
/-- What is rewritten. -/
def EX (root : Bool) (t : T) : Prop := (nodes t ≤ 31 ∧ Tz t) ∧ (∀ u ∈ t.args, Vs u) ∧ (root = true → Vs t)
/-- What a match of a valid term holds. -/
theorem mt_vs {a s : T} {m : Sub'} (hs : Vs s) (h : mt [] a s = some m) : MOk Vs m := mt_ok (p := Vs) (fun _ h => h.args) a (MOk.nil _) hs h
theorem rule_args {r : T} (hl : r.args.length = 2) : pIndexAddr 2 (tms r.args) (vi 0) = some (.elt (tcells (lhsT r)) 0) ∧ pIndexAddr 2 (tms r.args) (vi 1) = some (.elt (tcells (rhsT r)) 0) := by
  have i0 : pIndexAddr 2 (tms r.args) (vi 0) = some (.elt (tcells r.args[0]) 0) := pIndexAddr_map (i := 0) (by omega)
  have i1 : pIndexAddr 2 (tms r.args) (vi 1) = some (.elt (tcells r.args[1]) 0) := pIndexAddr_map (i := 1) (by omega)
  have e0 : lhsT r = r.args[0] := getD_eq (by omega)
  have e1 : rhsT r = r.args[1] := getD_eq (by omega)
  rw [e0, e1]
  exact ⟨i0, i1⟩
theorem sub_vs {m : Sub'} {r : T} (hm : MOk Vs m) (hr : Vs r) : okT (sub m r) = true ∧ nodes (sub m r) ≤ 900 ∧ Tz (sub m r) := by
  have h1 := sub_ok (u := m) (fun q hq => (hm.2 q hq).2.1) r hr.1
  have h2 := sub_nodes (u := m) (Z := 30) (by decide) (fun q hq => (hm.2 q hq).2.2) r
  have h3 := hr.2
  have h4 := ok_tsz _ h1
  exact ⟨h1, by omega, by unfold Tz; omega⟩
theorem rootS_vs {rs : List T} (hr : RS rs) {s v : T} (hs : Vs s) (h : rootS rs s = some v) : okT v = true ∧ nodes v ≤ 900 := by
  have key : ∀ rs : List T, (∀ r ∈ rs, r.args.length = 2 ∧ Vs (lhsT r) ∧ Vs (rhsT r)) → rootS rs s = some v → okT v = true ∧ nodes v ≤ 900 := by
    intro rs
    induction rs with
    | nil => intro _ h; simp [rootS] at h
    | cons r rs ih =>
      intro hr h
      rw [rootS] at h
      split at h
      · rename_i m hm
        cases h
        obtain ⟨a, b, _⟩ := sub_vs (mt_vs hs hm) (hr r (by simp)).2.2
        exact ⟨a, b⟩
      · exact ih (fun q hq => hr q (by simp [hq])) h
  exact key rs hr.2 h

/-- What a step answers. -/
def outS (t : T) (o : Option T) : Option Out := match o with | some u => some (.tup [tm u, vb true], []) | none => some (.tup [tm t, vb false], [])

theorem EX.at {root : Bool} {t : T} (h : EX root t) {p : List Nat} (hp : okP p t) (hne : ¬(p = [] ∧ root = false)) : Vs (atT p t) := by
  obtain ⟨_, h1, h2⟩ := h
  cases p with
  | nil =>
    cases root
    · exact absurd ⟨rfl, rfl⟩ hne
    · exact h2 rfl
  | cons i p =>
    obtain ⟨a, b⟩ := hp
    refine okP_atT (p := p) (q := Vs) (fun _ h => h.args) b ?_
    rw [getD_eq a]
    exact h1 _ (List.getElem_mem _)

theorem once_spec (rs : List T) (hr : RS rs) (root : Bool) (t : T) (h : EX root t) : G 97 [tm t, tms rs, vb root] = outS t (once rs root t) := by
  have hrt := h.1.2
  have hpost := post_eq t [] hrt (by have := hrt; unfold Tz at this; simp; omega)
  have hpost : G 133 [tm t, .sl 1 []] = some (.sl 1 ((postT t).map plc), []) := hpost
  have hok := postT_ok t
  have hln := postT_len t
  have hr1 := hr.1
  rw [← once_post]
  generalize hP : postT t = P at *
  have key := upto (P := fun i => L97_0 (tms rs) (vb root) (.sl 1 (P.map plc)) (vi i) (sv t.name) (tms t.args) (sv []) [] = outS t ((P.drop i).findSome? (stepAt rs root t))) (n := P.length) ?_ ?_ 0 (Nat.zero_le _)
  · rw [g97]
    simp only [Int.natCast_zero, List.drop_zero] at key
    simp -implicitDefEqProofs only [evs, Nat.reduceAdd, reduceIte, hpost, key]
  · rw [l97_0, List.drop_length]
    show _ = some (A.tup [tm t, vb false], [])
    simp -implicitDefEqProofs only [evs, Nat.reduceAdd, reduceIte, ]
  · intro i hi ih
    have hn := h.1.1
    have hlt : (i : Int) < ((P.length : Nat) : Int) := by omega
    have h5 := add_one hi (by show P.length ≤ 9223372036854775807; omega)
    have hpi : pIndexAddr 1 (.sl 1 (P.map plc)) (vi (i : Nat)) = some (.elt (plc P[i]) 0) := pIndexAddr_map hi
    have hpl : pLenL (pln P[i]) = some (vi ((P[i].length : Nat) : Int)) := by simp -implicitDefEqProofs only [evs, Nat.reduceAdd, reduceIte, ]
    obtain ⟨ho, hl⟩ := hok P[i] (List.getElem_mem _)
    rw [drop_cons hi, List.findSome?_cons]
    by_cases hc : P[i] = [] ∧ root = false
    · rw [stepAt, if_pos hc]
      obtain ⟨c1, c2⟩ := hc
      subst c2
      have c3 : (((P[i]).length : Nat) : Int) = 0 := by rw [c1]; rfl
      rw [l97_0]
      simp -implicitDefEqProofs only [evs, Nat.reduceAdd, reduceIte, hlt, hpi, hpl, c3, h5, ih]
    · have hs := h.at ho hc
      rw [stepAt, if_neg hc]
      have e1 := at_eq t P[i] hrt ho (by omega)
      have inner : ∀ j, j ≤ rs.length → L97_1 (tms rs) (vb root) (.sl 1 (P.map plc)) (vi i) (vi j) (sv t.name) (tms t.args) (sv []) (sv (atT P[i] t).name) (tms (atT P[i] t).args) [] = (match rootS (rs.drop j) (atT P[i] t) with | some v => outS t (some (withT v P[i] t)) | none => outS t ((P.drop (i + 1)).findSome? (stepAt rs root t))) := by
        refine upto ?_ ?_
        · rw [l97_1, List.drop_length, rootS]
          simp -implicitDefEqProofs only [evs, Nat.reduceAdd, reduceIte, h5, ih]
        · intro j hj ihj
          have hltj : (j : Int) < ((rs.length : Nat) : Int) := by omega
          have h5j := add_one hj (by show rs.length ≤ 9223372036854775807; omega)
          obtain ⟨hr2, hr3, hr4⟩ := hr.2 rs[j] (List.getElem_mem _)
          obtain ⟨i0, i1⟩ := rule_args hr2
          have ad : pAdd (.elt (tcells rs[j]) 0) 1 = some (.elt (tcells rs[j]) 1) := by rw [pAdd_elt]
          have lp : pLoadP (.elt (tcells rs[j]) 1) = some (tms rs[j].args) := by rw [tcells_eq]; rfl
          have q := l4Match0_eq (lhsT rs[j]) hr3.tz (atT P[i] t) [] hs.tz (fun q hq => by cases hq) (by have := hr3.2; simp; omega)
          rw [l97_1, drop_cons hj, rootS]
          cases hm : mt [] (lhsT rs[j]) (atT P[i] t) with
          | none =>
            rw [hm] at q
            obtain ⟨R, q⟩ := q
            have q : C135_0 (tm (lhsT rs[j])) (sv (atT P[i] t).name) (tms (atT P[i] t).args) [] = some (.top, [vb false, .sl 259 R]) := q
            simp -implicitDefEqProofs only [evs, Nat.reduceAdd, reduceIte, hltj, pIndexAddr_map hj, ad, lp, i0, pLoadN_tcells, q, List.getElem?_cons_zero, h5j, ihj]
          | some m =>
            rw [hm] at q
            have q : C135_0 (tm (lhsT rs[j])) (sv (atT P[i] t).name) (tms (atT P[i] t).args) [] = some (.top, [vb true, .sl 259 (m.map bc)]) := q
            have hM := mt_vs hs hm
            obtain ⟨_, hml⟩ := mt_inv (p := Vs) (fun _ h => h.args) _ (m := []) (fun q hq => by cases hq) hs hm
            have hml : m.length ≤ 30 := by have := hr3.2; simp at hml; omega
            have p1 := pairs_eq m (fun q hq => (hM.2 q hq).2.tz) (by omega)
            have hsz : Sz 1048576 (pairsS m) := by
              refine ⟨?_, fun q hq => ?_⟩
              · have := foldl_len m []
                show (pairsS m).length ≤ _
                unfold pairsS
                simp at this
                omega
              · have hq := pairs_mem hq
                have := varN_len (hM.2 q hq).1
                have := (hM.2 q hq).2.tz
                unfold Tz at this
                exact ⟨by omega, by omega⟩
            have p2 := l4Apply_eq (pairsS m) hsz (rhsT rs[j]) hr4.tz
            rw [sub_pairs (m := m) ⟨hM.1, fun q hq => ⟨(hM.2 q hq).1, (hM.2 q hq).2.1⟩⟩] at p2
            obtain ⟨_, _, s3⟩ := sub_vs hM hr4
            have p3 := with_eq (sub m (rhsT rs[j])) s3 P[i] t hrt ho (by omega)
            show _ = some (A.tup [tm (withT (sub m (rhsT rs[j])) P[i] t), vb true], [])
            simp -implicitDefEqProofs only [evs, Nat.reduceAdd, reduceIte, hltj, pIndexAddr_map hj, ad, lp, i0, i1, pLoadN_tcells, q, List.getElem?_cons_zero, hpi, p1, p2, p3]
      have inner := inner 0 (Nat.zero_le _)
      simp only [List.drop_zero, Int.natCast_zero] at inner
      have fin : L97_0 (tms rs) (vb root) (.sl 1 (P.map plc)) (vi i) (sv t.name) (tms t.args) (sv []) [] = L97_1 (tms rs) (vb root) (.sl 1 (P.map plc)) (vi i) (vi 0) (sv t.name) (tms t.args) (sv []) (sv (atT P[i] t).name) (tms (atT P[i] t).args) [] := by
        rw [l97_0]
        cases root with
        | true =>
          by_cases c : (((P[i]).length : Nat) : Int) = 0
          · simp -implicitDefEqProofs only [evs, Nat.reduceAdd, reduceIte, hlt, hpi, hpl, c, e1]
          · simp -implicitDefEqProofs only [evs, Nat.reduceAdd, reduceIte, hlt, hpi, hpl, c, e1]
        | false =>
          have c : ¬ (((P[i]).length : Nat) : Int) = 0 := fun c => hc ⟨List.length_eq_zero_iff.1 (by omega), rfl⟩
          simp -implicitDefEqProofs only [evs, Nat.reduceAdd, reduceIte, hlt, hpi, hpl, c, e1]
      rw [fin, inner]
      cases rootS rs (atT P[i] t) with
      | none => rfl
      | some v => rfl

def outI (o : Option T) : Option Out := match o with | some u => some (.tup [tm u, vb true], []) | none => some (.tup [.agg [sv [], .sl 2 []], vb false], [])
theorem once_impl (rs : List T) (hr : RS rs) : ∀ (t : T) (root : Bool), EX root t → G 102 [tm t, tms rs, vb root] = outI (once rs root t) := by
  refine T.ind fun t ih root h => ?_
  have ht := h.1.2
  have hs := ht
  unfold Tz at hs
  rw [tsz_eq] at hs
  have hr1 := hr.1
  have second : L102_1 (vb root) (tms rs) (vi (rs.length : Nat)) (vi 0) (sv t.name) (tms t.args) (sv []) [] = outI (if root then rootS rs t else none) := by
    have key := upto (P := fun j => L102_1 (vb root) (tms rs) (vi (rs.length : Nat)) (vi j) (sv t.name) (tms t.args) (sv []) [] = outI (if root then rootS (rs.drop j) t else none)) (n := rs.length) ?_ ?_ 0 (Nat.zero_le _)
    · exact key
    · rw [l102_1, List.drop_length, rootS, ite_self]
      show _ = some (A.tup [.agg [sv [], .sl 2 []], vb false], [])
      simp -implicitDefEqProofs only [evs, Nat.reduceAdd, reduceIte, ]
    · intro j hj ihj
      have hltj : (j : Int) < ((rs.length : Nat) : Int) := by omega
      have h5j := add_one hj (by show rs.length ≤ 9223372036854775807; omega)
      obtain ⟨hr2, hr3, hr4⟩ := hr.2 rs[j] (List.getElem_mem _)
      obtain ⟨i0, i1⟩ := rule_args hr2
      rw [l102_1, drop_cons hj, rootS]
      cases root with
      | false =>
        simp -implicitDefEqProofs only [evs, Nat.reduceAdd, reduceIte, hltj, pIndexAddr_map hj, pLoadN_tcells, h5j, ihj]
      | true =>
        have hv := h.2.2 rfl
        have q := match0_eq (lhsT rs[j]) hr3.tz hr3.1 t [] ht (fun q hq => by cases hq)
        cases hm : mt [] (lhsT rs[j]) t with
        | none =>
          rw [hm] at q
          obtain ⟨R, q⟩ := q
          have q : C140_0 (tm (lhsT rs[j])) (sv t.name) (tms t.args) [] = some (.top, [vb false, .sl 128 R]) := q
          simp -implicitDefEqProofs only [evs, Nat.reduceAdd, reduceIte, hltj, pIndexAddr_map hj, i0, pLoadN_tcells, q, List.getElem?_cons_zero, h5j, ihj]
        | some m =>
          rw [hm] at q
          have q : C140_0 (tm (lhsT rs[j])) (sv t.name) (tms t.args) [] = some (.top, [vb true, .sl 128 (m.map kv)]) := q
          have hM := mt_vs hv hm
          have p1 := replace_eq (m := m) (fun q hq => (hM.2 q hq).1) (fun q hq => (hM.2 q hq).2.tz) (rhsT rs[j]) hr4.tz hr4.1
          show _ = some (A.tup [tm (sub m (rhsT rs[j])), vb true], [])
          simp -implicitDefEqProofs only [evs, Nat.reduceAdd, reduceIte, hltj, pIndexAddr_map hj, i0, i1, pLoadN_tcells, q, List.getElem?_cons_zero, p1]
  have first : ∀ i, i ≤ t.args.length → L102_0 (tms rs) (vb root) (tms t.args) (vi (t.args.length : Nat)) (vi i) (sv t.name) (tms t.args) (sv []) [] = (match onceL rs (t.args.drop i) with | some us => outI (some (.mk t.name (t.args.take i ++ us))) | none => outI (if root then rootS rs t else none)) := by
    refine upto ?_ ?_
    · rw [l102_0, List.drop_length, onceL]
      simp -implicitDefEqProofs only [evs, Nat.reduceAdd, reduceIte, second]
    · intro i hi ih2
      have hlt : (i : Int) < ((t.args.length : Nat) : Int) := by omega
      have h5 := add_one hi (by show t.args.length ≤ 9223372036854775807; omega)
      have hu : t.args[i] ∈ t.args := List.getElem_mem _
      have hv := h.2.1 _ hu
      have e1 := ih t.args[i] hu true ⟨⟨by have := hv.2; omega, hv.tz⟩, hv.args, fun _ => hv⟩
      rw [l102_0, drop_cons hi, onceL]
      cases ho : once rs true t.args[i] with
      | none =>
        rw [ho] at e1
        have e1 : G 102 [tm t.args[i], tms rs, vb true] = some (.tup [.agg [sv [], .sl 2 []], vb false], []) := e1
        simp -implicitDefEqProofs only [evs, Nat.reduceAdd, reduceIte, hlt, pIndexAddr_map hi, pLoadN_tcells, e1, h5, ih2]
        cases onceL rs (t.args.drop (i + 1)) with
        | none => rfl
        | some us =>
          show outI (some (.mk t.name (t.args.take (i + 1) ++ us))) = outI (some (.mk t.name (t.args.take i ++ t.args[i] :: us)))
          have e : t.args.take (i + 1) ++ us = t.args.take i ++ t.args[i] :: us := by
            rw [List.take_add_one, List.getElem?_eq_getElem hi, List.append_assoc]
            rfl
          rw [e]
      | some u =>
        rw [ho] at e1
        have e1 : G 102 [tm t.args[i], tms rs, vb true] = some (.tup [tm u, vb true], []) := e1
        have e2 := copyTermC_eq t ht
        have ix : pIx t.args.length (vi (i : Nat)) = some i := pIx_lt hi
        have rg : rGet (t.args.map tcells) i = some (tcells t.args[i]) := by unfold rGet; simp [hi]
        have co : cOver (tcells t.args[i]) 0 [sv u.name, tms u.args] = tcells u := by rw [tcells_eq, tcells_eq]; rfl
        have rs' : rSet (t.args.map tcells) i (tcells u) = (t.args.take i ++ u :: t.args.drop (i + 1)).map tcells := by
          unfold rSet
          rw [← List.map_set, List.set_eq_take_append_cons_drop, if_pos hi]
        show _ = some (A.tup [tm (.mk t.name (t.args.take i ++ u :: t.args.drop (i + 1))), vb true], [])
        simp -implicitDefEqProofs only [evs, Nat.reduceAdd, reduceIte, hlt, pIndexAddr_map hi, pLoadN_tcells, e1, e2, ix, rg, co, rs', List.getElem?_cons_zero]
        rfl
  have first := first 0 (Nat.zero_le _)
  simp only [List.drop_zero, Int.natCast_zero, List.take_zero, List.nil_append] at first
  rw [g102, once_eq]
  simp -implicitDefEqProofs only [evs, Nat.reduceAdd, reduceIte, first]
  cases onceL rs t.args <;> rfl
end Go.Proofs.YtnbjmmldjggkfaaGreat
/- RULES: the symbols of a term; both sides' standard ordering. -/
namespace Go.Proofs.YtnbjmmldjggkfaaGreat
open Go Go.RowKit Go.Proofs.YtnbjmmldjggkfaaGreat.Abs

set_option linter.unusedSimpArgs false
set_option linter.unusedVariables false
set_option maxHeartbeats 1000000

/-! ### Rising lists of names -/
/-- Strictly rising. -/
def Srt (l : List (List UInt8)) : Prop := l.Pairwise fun x y => x < y
theorem sLt_eq (x y : List UInt8) : sLt x y = decide (x < y) := Go.Proofs.bytesLess_eq x y
theorem lt_tri {x y : List UInt8} (h1 : ¬ x < y) (h2 : x ≠ y) : y < x := by
  have h3 : y ≤ x := List.not_lt.1 h1
  exact Std.lt_of_le_of_ne h3 (Ne.symm h2)
theorem srt_ext : ∀ (a b : List (List UInt8)), Srt a → Srt b → (∀ n, n ∈ a ↔ n ∈ b) → a = b
  | [], [], _, _, _ => rfl
  | [], y :: b, _, _, h => by have := (h y).2 (by simp); cases this
  | x :: a, [], _, _, h => by have := (h x).1 (by simp); cases this
  | x :: a, y :: b, ha, hb, h => by
    have ha' := List.pairwise_cons.1 ha
    have hb' := List.pairwise_cons.1 hb
    have hxy : x = y := by
      have h1 : x ∈ y :: b := (h x).1 (by simp)
      have h2 : y ∈ x :: a := (h y).2 (by simp)
      rcases List.mem_cons.1 h1 with h1 | h1
      · exact h1
      · rcases List.mem_cons.1 h2 with h2 | h2
        · exact h2.symm
        · exact absurd (List.lt_trans (ha'.1 y h2) (hb'.1 x h1)) (List.lt_irrefl x)
    subst hxy
    refine congrArg (x :: ·) (srt_ext a b ha'.2 hb'.2 fun n => ⟨fun hn => ?_, fun hn => ?_⟩)
    · rcases List.mem_cons.1 ((h n).1 (List.mem_cons_of_mem _ hn)) with e | e
      · subst e; exact absurd (ha'.1 _ hn) (List.lt_irrefl _)
      · exact e
    · rcases List.mem_cons.1 ((h n).2 (List.mem_cons_of_mem _ hn)) with e | e
      · subst e; exact absurd (hb'.1 _ hn) (List.lt_irrefl _)
      · exact e
theorem srt_sort {l : List (List UInt8)} (h : l.Nodup) : Srt (sortB l) := by
  have h1 : (sortB l).Pairwise fun x y => decide (x ≤ y) = true := List.pairwise_mergeSort (fun a b c h1 h2 => by simp only [decide_eq_true_eq] at *; exact List.le_trans h1 h2) (fun a b => by simp only [Bool.or_eq_true, decide_eq_true_eq]; exact List.le_total a b) l
  have h2 : (sortB l).Nodup := (List.mergeSort_perm l _).nodup_iff.2 h
  exact (h1.and h2).imp fun {x y} hxy => Std.lt_of_le_of_ne (by simpa using hxy.1) hxy.2
theorem srt_put {l : List (List UInt8)} {s : List UInt8} {i : Nat} (hl : Srt l) (h1 : ∀ x ∈ l.take i, x < s) (h2 : ∀ h : i < l.length, s < l[i]) : Srt (l.take i ++ [s] ++ l.drop i) := by
  have hl' : Srt (l.take i ++ l.drop i) := by rw [List.take_append_drop]; exact hl
  obtain ⟨p1, p2, p3⟩ := List.pairwise_append.1 hl'
  have h3 : ∀ y ∈ l.drop i, s < y := by
    intro y hy
    have hlt : i < l.length := by
      rcases Nat.lt_or_ge i l.length with h | h
      · exact h
      · rw [List.drop_of_length_le h] at hy; cases hy
    rw [List.drop_eq_getElem_cons hlt] at hy p2
    rcases List.mem_cons.1 hy with e | e
    · subst e; exact h2 hlt
    · exact List.lt_trans (h2 hlt) ((List.pairwise_cons.1 p2).1 y e)
  refine List.pairwise_append.2 ⟨List.pairwise_append.2 ⟨p1, by simp, fun a ha b hb => ?_⟩, p2, fun a ha b hb => ?_⟩
  · rw [List.mem_singleton.1 hb]; exact h1 a ha
  · rcases List.mem_append.1 ha with ha | ha
    · exact p3 a ha b hb
    · rw [List.mem_singleton.1 ha]; exact h3 b hb
theorem srt_nodup {l : List (List UInt8)} (h : Srt l) : l.Nodup := h.imp fun {x y} hxy e => by subst e; exact List.lt_irrefl _ hxy

/-! ### Symbols of a term -/
mutual
def symsT : T → List (List UInt8)
  | .mk n us => (if varN n then [] else [n]) ++ symsTL us
def symsTL : List T → List (List UInt8)
  | [] => []
  | t :: ts => symsT t ++ symsTL ts
end
theorem symsT_eq (t : T) : symsT t = (if varN t.name then [] else [t.name]) ++ symsTL t.args := by cases t; rfl

theorem l2Put_srt (l : List (List UInt8)) (s : List UInt8) (hl : l.length ≤ 2100000) : ∃ r, G 156 [strs l, sv s] = some (strs r, []) ∧ Coll l [s] 1 r ∧ (Srt l → Srt r) := by
  have key := upto (P := fun i => (Srt l → ∀ x ∈ l.take i, x < s) → ∃ r, L156_0 (strs l) (sv s) (vi i) = some (strs r, []) ∧ Coll l [s] 1 r ∧ (Srt l → Srt r)) (n := l.length) ?_ ?_ 0 (Nat.zero_le _)
  · simp only [Int.natCast_zero] at key
    rw [g156]
    exact key (by simp)
  · intro hless
    have hx : ¬ ((l.length : Nat) : Int) < ((l.length : Nat) : Int) := Int.lt_irrefl _
    have s1 : pSlice 1 (strs l) none (some (vi (l.length : Nat))) = some (strs l) := by rw [pSlice_take (by simp), List.take_of_length_le (by simp)]
    have s2 : pSlice 1 (strs l) (some (vi (l.length : Nat))) none = some (.sl 1 []) := by rw [pSlice_drop (by simp), List.drop_of_length_le (by simp)]
    have f1 : pFit l.length 16 = true := pFit_ok (by omega)
    have f2 : pFit (l.length + 1) 16 = true := pFit_ok (by omega)
    have happ : rApp (rApp (l.map cs) [[sv s]]) [] = (l ++ [s]).map cs := by simp [rApp]
    have hlen : (rApp (l.map cs) [[sv s]]).length = l.length + 1 := by simp [rApp]
    refine ⟨l ++ [s], ?_, ⟨by intro n; simp, by simp⟩, fun h => ?_⟩
    · rw [l156_0]
      simp -implicitDefEqProofs only [evs, Nat.reduceAdd, reduceIte, hx, s1, s2, f1, f2, hlen, happ, Nat.add_zero]
    · have := srt_put (s := s) (i := l.length) h (hless h) (fun h => absurd h (Nat.lt_irrefl _))
      simpa using this
  · intro i hi ih hless
    have hlt : (i : Int) < ((l.length : Nat) : Int) := by omega
    have h5 := add_one hi (by omega)
    rw [l156_0]
    cases h1 : sLt l[i] s
    · by_cases h2 : l[i] = s
      · refine ⟨l, ?_, ⟨fun n => ⟨fun h => Or.inl h, fun h => by
          rcases h with h | h
          · exact h
          · simp at h; rw [h, ← h2]; exact List.getElem_mem _⟩, by omega⟩, id⟩
        rw [h2] at h1
        simp -implicitDefEqProofs only [evs, Nat.reduceAdd, reduceIte, hlt, pIndexAddr_map hi, h2, h1]
      · have s1 : pSlice 1 (strs l) none (some (vi i)) = some (strs (l.take i)) := by rw [pSlice_take (by simp; omega), ← List.map_take]
        have s2 : pSlice 1 (strs l) (some (vi i)) none = some (strs (l.drop i)) := by rw [pSlice_drop (by simp; omega), ← List.map_drop]
        have ht : (l.take i).length = i := by rw [List.length_take]; omega
        have f1 : pFit i 16 = true := pFit_ok (by omega)
        have f2 : pFit (i + 1) 16 = true := pFit_ok (by omega)
        have f3 : pFit (i + 1 + (l.drop i).length) 16 = true := pFit_ok (by rw [List.length_drop]; omega)
        have happ : rApp (rApp ((l.take i).map cs) [[sv s]]) ((l.drop i).map cs) = (l.take i ++ [s] ++ l.drop i).map cs := by simp [rApp]
        have hlen : (rApp ((l.take i).map cs) [[sv s]]).length = i + 1 := by simp [rApp]; omega
        refine ⟨l.take i ++ [s] ++ l.drop i, ?_, ⟨fun n => ?_, by simp; omega⟩, fun h => ?_⟩
        · simp -implicitDefEqProofs only [evs, Nat.reduceAdd, reduceIte, hlt, pIndexAddr_map hi, h1, h2, s1, s2, ht, f1, f2, f3, hlen, happ]
        · have hm : n ∈ l ↔ n ∈ l.take i ∨ n ∈ l.drop i := by rw [← List.mem_append, List.take_append_drop]
          simp only [List.mem_append, List.mem_singleton, hm]
          exact ⟨fun h => by rcases h with (h | h) | h <;> simp [h], fun h => by rcases h with (h | h) | h <;> simp [h]⟩
        · rw [sLt_eq, decide_eq_false_iff_not] at h1
          exact srt_put h (hless h) fun _ => lt_tri h1 h2
    · have hx : l[i] < s := by rw [sLt_eq, decide_eq_true_eq] at h1; exact h1
      obtain ⟨r, e, c⟩ := ih fun h x hm => by
        rw [List.take_succ_eq_append_getElem hi] at hm
        rcases List.mem_append.1 hm with hm | hm
        · exact hless h x hm
        · rw [List.mem_singleton.1 hm]; exact hx
      refine ⟨r, ?_, c⟩
      simp -implicitDefEqProofs only [evs, Nat.reduceAdd, reduceIte, hlt, pIndexAddr_map hi, h1, h5, e]

theorem l12Names_eq : ∀ t : T, twf t → ∀ l : List (List UInt8), l.length + nodes t ≤ 2100000 → ∃ r, G 151 [strs l, tm t] = some (strs r, []) ∧ Coll l (symsT t) (nodes t) r ∧ (Srt l → Srt r) := by
  refine T.ind fun t ih hw l hb => ?_
  obtain ⟨w1, w2, w3⟩ := (twf_eq t).1 hw
  have w3 := (twfL_iff _).1 w3
  have e1 := l2Var_eq t.name w1
  rw [g151, symsT_eq]
  rw [nodes_eq] at hb ⊢
  have key := upto (P := fun i => ∀ l : List (List UInt8), l.length + nodesL (t.args.drop i) ≤ 2100000 → ∃ r, L151_0 (strs l) (vi i) (sv t.name) (tms t.args) = some (strs r, []) ∧ Coll l (symsTL (t.args.drop i)) (nodesL (t.args.drop i)) r ∧ (Srt l → Srt r)) (n := t.args.length) ?_ ?_ 0 (Nat.zero_le _)
  · simp only [Int.natCast_zero, List.drop_zero] at key
    cases hv : varN t.name <;> rw [hv] at e1
    · obtain ⟨r0, e0, ⟨b1, b2⟩, b3⟩ := l2Put_srt l t.name (by omega)
      obtain ⟨r, e, ⟨c1, c2⟩, c3⟩ := key r0 (by omega)
      refine ⟨r, ?_, ⟨fun n => ?_, by omega⟩, fun h => c3 (b3 h)⟩
      · simp -implicitDefEqProofs only [evs, Nat.reduceAdd, reduceIte, e1, e0, e]
      · rw [c1, b1]
        simp only [Bool.false_eq_true, if_false, List.mem_append]
        exact or_assoc
    · obtain ⟨r, e, ⟨c1, c2⟩, c3⟩ := key l (by omega)
      refine ⟨r, ?_, ⟨by simpa using c1, by omega⟩, c3⟩
      simp -implicitDefEqProofs only [evs, Nat.reduceAdd, reduceIte, e1, e]
  · intro l hb
    rw [l151_0, List.drop_length]
    refine ⟨l, ?_, ⟨by simp [symsTL], by omega⟩, id⟩
    simp -implicitDefEqProofs only [evs, Nat.reduceAdd, reduceIte]
  · intro i hi ih' l hb
    have hlt : (i : Int) < ((t.args.length : Nat) : Int) := by omega
    have h5 := add_one hi w2
    rw [drop_cons hi] at hb ⊢
    simp only [nodesL, symsTL] at hb ⊢
    obtain ⟨r1, a1, ⟨c1, c2⟩, c3⟩ := ih t.args[i] (List.getElem_mem _) (w3 _ (List.getElem_mem _)) l (by omega)
    obtain ⟨r2, a2, ⟨d1, d2⟩, d3⟩ := ih' r1 (by omega)
    rw [l151_0]
    refine ⟨r2, ?_, ⟨fun n => ?_, by omega⟩, fun h => d3 (c3 h)⟩
    · simp -implicitDefEqProofs only [evs, Nat.reduceAdd, reduceIte, hlt, pIndexAddr_map hi, pLoadN_tcells, a1, h5, a2]
    · rw [d1, c1, List.mem_append]
      exact or_assoc

theorem sym_of_var {n : List UInt8} (h : varN n = true) : symN n = false := by
  cases n with
  | nil => rfl
  | cons c r =>
    simp only [varN, Bool.and_eq_true, upc, inB, decide_eq_true_eq] at h
    have : lowc c = false := by unfold lowc inB; rw [Bool.and_eq_false_iff]; left; rw [decide_eq_false_iff_not]; omega
    simp [symN, this]
theorem sym_name {t : T} (h : okT t = true) : symN t.name = !varN t.name := by
  obtain ⟨c, r, _, hv, hs⟩ := okT_name h
  cases hx : varN t.name
  · rw [hv] at hx; rw [hs hx]; rfl
  · rw [sym_of_var hx]; rfl

/-- What collecting symbols comes to. -/
def CollN (l vs : List (List UInt8)) (k : Nat) (r : List (List UInt8)) : Prop := Coll l vs k r ∧ (l.Nodup → r.Nodup)

theorem symbolsOf_loop (ts : List T) (hl : ts.length ≤ 9223372036854775807) (ih : ∀ t ∈ ts, ∀ l : List (List UInt8), l.length + nodes t ≤ 2100000 → ∃ r, C154_0 (sv t.name) (tms t.args) (l.map cs) = some (.top, [strs r]) ∧ CollN l (symsT t) (nodes t) r) :
    ∀ i, i ≤ ts.length → ∀ l : List (List UInt8), l.length + nodesL (ts.drop i) ≤ 2100000 → ∃ r, L154c0_0 (tms ts) (vi (ts.length : Nat)) (vi i) (l.map cs) = some (.top, [strs r]) ∧ CollN l (symsTL (ts.drop i)) (nodesL (ts.drop i)) r := by
  refine upto ?_ ?_
  · intro l hb
    rw [l154c0_0, List.drop_length]
    refine ⟨l, ?_, ⟨by simp [symsTL], by omega⟩, id⟩
    simp -implicitDefEqProofs only [evs, Nat.reduceAdd, reduceIte]
  · intro i hi ih' l hb
    have hlt : (i : Int) < ((ts.length : Nat) : Int) := by omega
    have h5 := add_one hi hl
    rw [drop_cons hi] at hb ⊢
    simp only [nodesL, symsTL] at hb ⊢
    obtain ⟨r1, e1, ⟨c1, c2⟩, c3⟩ := ih ts[i] (List.getElem_mem _) l (by omega)
    obtain ⟨r2, e2, ⟨d1, d2⟩, d3⟩ := ih' r1 (by omega)
    rw [l154c0_0]
    refine ⟨r2, ?_, ⟨fun n => ?_, by omega⟩, fun h => d3 (c3 h)⟩
    · simp -implicitDefEqProofs only [evs, Nat.reduceAdd, reduceIte, hlt, pIndexAddr_map hi, pLoadN_tcells, e1, h5, e2]
    · rw [d1, c1, List.mem_append]
      exact or_assoc

theorem symbolsOf_start (ts : List T) (hl : ts.length ≤ 9223372036854775807) (ih : ∀ t ∈ ts, ∀ l : List (List UInt8), l.length + nodes t ≤ 2100000 → ∃ r, C154_0 (sv t.name) (tms t.args) (l.map cs) = some (.top, [strs r]) ∧ CollN l (symsT t) (nodes t) r) (l : List (List UInt8)) (hb : l.length + nodesL ts ≤ 2100000) :
    ∃ r, L154c0_1 (tms ts) (vi (ts.length : Nat)) (vi 0) (l.map cs) = some (.top, [strs r]) ∧ CollN l (symsTL ts) (nodesL ts) r := by
  have loop := symbolsOf_loop ts hl ih
  rw [l154c0_1]
  by_cases h0 : ts.length = 0
  · have ha : ts = [] := List.length_eq_zero_iff.1 h0
    rw [ha]
    refine ⟨l, ?_, ⟨by simp [symsTL], by simp [nodesL]⟩, id⟩
    simp -implicitDefEqProofs only [evs, Nat.reduceAdd, reduceIte]
    rfl
  · have hi : 0 < ts.length := by omega
    have hlt : (0 : Int) < ((ts.length : Nat) : Int) := by omega
    have hix : pIndexAddr 2 (tms ts) (vi 0) = some (.elt (tcells ts[0]) 0) := pIndexAddr_map (i := 0) hi
    have h5 : pBin .add false (vi 0) (vi 1) = some (vi ((1 : Nat) : Int)) := by rw [pBin_add, ck_le (by decide) (by decide)]; rfl
    have hd : ts = ts[0] :: ts.drop 1 := by have := drop_cons hi; simpa using this
    have hns : nodesL ts = nodes ts[0] + nodesL (ts.drop 1) := by conv => lhs; rw [hd, nodesL]
    have hvs : symsTL ts = symsT ts[0] ++ symsTL (ts.drop 1) := by conv => lhs; rw [hd, symsTL]
    obtain ⟨r1, e1, ⟨c1, c2⟩, c3⟩ := ih ts[0] (List.getElem_mem _) l (by omega)
    obtain ⟨r2, e2, ⟨d1, d2⟩, d3⟩ := loop 1 (by omega) r1 (by omega)
    refine ⟨r2, ?_, ⟨fun n => ?_, by omega⟩, fun h => d3 (c3 h)⟩
    · simp -implicitDefEqProofs only [evs, Nat.reduceAdd, reduceIte, hlt, hix, pLoadN_tcells, e1, h5, e2]
    · rw [d1, c1, hvs, List.mem_append]
      exact or_assoc

theorem symbolsOf_eq : ∀ t : T, twf t → okT t = true → ∀ l : List (List UInt8), l.length + nodes t ≤ 2100000 → ∃ r, C154_0 (sv t.name) (tms t.args) (l.map cs) = some (.top, [strs r]) ∧ CollN l (symsT t) (nodes t) r := by
  refine T.ind fun t ih hw hk l hb => ?_
  obtain ⟨w1, w2, w3⟩ := (twf_eq t).1 hw
  have w3 := (twfL_iff _).1 w3
  have hks := okT_args hk
  have e1 := isSymbol_eq t.name w1
  have e2 := contains_strs l t.name (by omega)
  rw [sym_name hk] at e1
  rw [c154_0, symsT_eq]
  have ih' : ∀ u ∈ t.args, ∀ l : List (List UInt8), l.length + nodes u ≤ 2100000 → ∃ r, C154_0 (sv u.name) (tms u.args) (l.map cs) = some (.top, [strs r]) ∧ CollN l (symsT u) (nodes u) r := fun u hu => ih u hu (w3 u hu) (hks u hu)
  rw [nodes_eq] at hb ⊢
  cases hv : varN t.name <;> rw [hv] at e1
  · cases hc : l.contains t.name <;> rw [hc] at e2
    · have hn : ¬ t.name ∈ l := by simpa using hc
      obtain ⟨r, e, ⟨c1, c2⟩, c3⟩ := symbolsOf_loop t.args w2 ih' 0 (Nat.zero_le _) (l ++ [t.name]) (by simp; omega)
      simp only [Int.natCast_zero, List.drop_zero, List.length_append, List.length_singleton] at e c1 c2
      have happ : rApp (l.map cs) [[sv t.name]] = (l ++ [t.name]).map cs := by simp [rApp]
      have f1 : pFit (l.length + 1) 16 = true := pFit_ok (by omega)
      refine ⟨r, ?_, ⟨fun n => ?_, by omega⟩, fun h => c3 ?_⟩
      · simp -implicitDefEqProofs only [evs, Nat.reduceAdd, reduceIte, e1, e2, f1, happ, e]
      · rw [c1]
        simp only [Bool.false_eq_true, if_false, List.mem_append]
        exact or_assoc
      · exact List.nodup_append.2 ⟨h, by simp, fun a ha b hb e => by rw [List.mem_singleton.1 hb] at e; rw [e] at ha; exact hn ha⟩
    · have hn : t.name ∈ l := by simpa using hc
      obtain ⟨r, e, ⟨c1, c2⟩, c3⟩ := symbolsOf_start t.args w2 ih' l (by omega)
      refine ⟨r, ?_, ⟨fun n => ?_, by omega⟩, c3⟩
      · simp -implicitDefEqProofs only [evs, Nat.reduceAdd, reduceIte, e1, e2, e]
      · rw [c1]
        simp only [Bool.false_eq_true, if_false, List.mem_append, List.mem_singleton]
        exact ⟨fun h => by rcases h with h | h <;> simp [h], fun h => by
          rcases h with h | h | h
          · exact Or.inl h
          · exact Or.inl (h ▸ hn)
          · exact Or.inr h⟩
  · obtain ⟨r, e, ⟨c1, c2⟩, c3⟩ := symbolsOf_start t.args w2 ih' l (by omega)
    refine ⟨r, ?_, ⟨by simpa using c1, by omega⟩, c3⟩
    simp -implicitDefEqProofs only [evs, Nat.reduceAdd, reduceIte, e1, e]
end Go.Proofs.YtnbjmmldjggkfaaGreat
/- RULES: the standard ordering; IsRule. -/
namespace Go.Proofs.YtnbjmmldjggkfaaGreat
open Go Go.RowKit Go.Proofs.YtnbjmmldjggkfaaGreat.Abs

set_option linter.unusedSimpArgs false
set_option linter.unusedVariables false
set_option maxHeartbeats 1000000

theorem pFit_ok8 {n : Nat} (h : n ≤ 4000000) : pFit n 8 = true := by
  unfold pFit
  simp
  omega

theorem rep_mul (n : Nat) (h : n ≤ 12) : ((pConv .u64 (rLen [[vi 1]])).bind fun t2 => (pConv .u64 (vi n)).bind fun t3 => (G 161 [t2, t3]).bind (fin false)) = some (.tup [.val (.int .u64 0), .val (.int .u64 n)]) := by
  have c : (pConv .u64 (rLen [[vi 1]])) = some (.val (.int .u64 1)) := by kernel_rfl
  have d : pConv .u64 (vi n) = some (.val (.int .u64 n)) := by
    rcases n with _|_|_|_|_|_|_|_|_|_|_|_|_|n
    rotate_right
    · omega
    all_goals kernel_rfl
  rw [c, d]
  simp only [Option.bind_some]
  rw [g161, g174]
  clear c d
  rcases n with _|_|_|_|_|_|_|_|_|_|_|_|_|n
  rotate_right
  · omega
  all_goals (show _ = _; kernel_rfl)

theorem drop_rep {α : Type} {a b : α} {i j k : Nat} (h : i ≤ k) : (List.replicate i a ++ List.replicate j b).drop k = List.replicate (j - (k - i)) b := by
  rw [List.drop_append, List.drop_replicate, List.drop_replicate, List.length_replicate, show i - k = 0 by omega]
  rfl

theorem rep_loop {n : Nat} (hn : n ≤ 12) (r1 : List (List A)) : ∀ (f j : Nat), n - j ≤ f → 1 ≤ j → j ≤ n →
    L155c0_0 (vi (j : Nat)) (List.replicate j [vi 1] ++ List.replicate (n - j) [vi 0]) r1 = some (.top, [.sl 1 (List.replicate n [vi 1])]) := by
  intro f
  induction f with
  | zero =>
    intro j h1 h2 h3
    have : j = n := by omega
    subst this
    rw [l155c0_0]
    simp -implicitDefEqProofs only [evs, Nat.reduceAdd, reduceIte, List.length_append, List.length_replicate, Nat.sub_self, List.replicate_zero, List.append_nil]
  | succ f ih =>
    intro j h1 h2 h3
    by_cases hj : j = n
    · subst hj
      rw [l155c0_0]
      simp -implicitDefEqProofs only [evs, Nat.reduceAdd, reduceIte, List.length_append, List.length_replicate, Nat.sub_self, List.replicate_zero, List.append_nil]
    · rw [l155c0_0]
      have hl : (List.replicate j [vi 1] ++ List.replicate (n - j) [vi 0]).length = n := by simp; omega
      have e1 : decide ((j : Int) < (n : Int)) = true := by simp; omega
      have hm : j + min j (n - j) ≤ n := by omega
      have e2 : pBin .add false (vi j) (vi (min j (n - j) : Nat)) = some (vi (j + min j (n - j) : Nat)) := by
        rw [pBin_add, ck_le (by omega) (by omega)]; rfl
      have ew : (((List.replicate j [vi 1] ++ List.replicate (n - j) [vi 0]).drop 0).take j) = List.replicate j [vi 1] := by
        rw [List.drop_zero, List.take_append_of_le_length (by simp), List.take_of_length_le (by simp)]
      have eo : rOver (List.replicate j [vi 1] ++ List.replicate (n - j) [vi 0]) (0 + j) ((List.replicate j [vi 1]).take (n - j)) = List.replicate (j + min j (n - j)) [vi 1] ++ List.replicate (n - (j + min j (n - j))) [vi 0] := by
        rw [rOver_eq, Nat.zero_add, List.take_append_of_le_length (by simp), List.take_of_length_le (by simp), List.take_replicate, List.length_replicate, drop_rep]
        · rw [List.replicate_append_replicate, Nat.min_comm (n - j) j]
          congr 2
          omega
        · omega
      have key := ih (j + min j (n - j)) (by omega) (by omega) hm
      simp only [rLen_eq, rCnt_eq, rRem_eq, hl, pBin_lss, Option.bind_some, pBool_vb, e1, brn_true, Nat.sub_zero, pB_none_le (Nat.le_refl n), pB_le h3, rWin_eq, nSub_eq, ew, rMin_eq, rTake_eq, List.length_replicate, e2, eo, key]

theorem rep_eq {n : Nat} (h : n ≤ 12) : C155_0 (vi (n : Nat)) [[vi 1]] = some (.top, [.sl 1 (List.replicate n [vi 1])]) := by
  rw [c155_0]
  have e0 : decide ((n : Int) < 0) = false := by simp
  have em := rep_mul n h
  have eg : decide ((0 : Int) < 0) = false := by simp
  have ec : pConv .i64 (A.val (.int .u64 n)) = some (vi n) := ck_le (by omega) (by omega)
  have ek : pBin .gtr false (A.val (.int .u64 n)) (A.val (.int .u64 9223372036854775807)) = some (vb false) := by
    show some (vb (decide ((9223372036854775807 : Int) < n))) = _
    rw [decide_eq_false (by omega)]
  have ek0 : pBin .gtr false (A.val (.int .u64 0)) (A.val (.int .u64 0)) = some (vb false) := rfl
  have emk : pMake 8 (vi n) (vi n) = some n := by
    show (if FitM 8 (n : Int) (n : Int) then some (n : Int).toNat else none) = _
    rw [if_pos ⟨by omega, by omega, by omega, by omega⟩]; rfl
  have hm : ∀ (k : A → A → Option Out), ((pConv .u64 (rLen [[vi 1]])).bind fun t2 => (pConv .u64 (vi n)).bind fun t3 => ((G 161 [t2, t3]).bind (fin false)).bind fun t4 => (pTup t4 0).bind fun t5 => (pTup t4 1).bind fun t6 => k t5 t6) =
      k (.val (.int .u64 0)) (.val (.int .u64 n)) := by
    intro k
    have : ((pConv .u64 (rLen [[vi 1]])).bind fun t2 => (pConv .u64 (vi n)).bind fun t3 => ((G 161 [t2, t3]).bind (fin false)).bind fun t4 => (pTup t4 0).bind fun t5 => (pTup t4 1).bind fun t6 => k t5 t6) =
        (((pConv .u64 (rLen [[vi 1]])).bind fun t2 => (pConv .u64 (vi n)).bind fun t3 => (G 161 [t2, t3]).bind (fin false)).bind fun t4 => (pTup t4 0).bind fun t5 => (pTup t4 1).bind fun t6 => k t5 t6) := by
      simp only [Option.bind_assoc]
    rw [this, em]; rfl
  rw [pBin_lss, e0]
  simp only [Option.bind_some, pBool_vb, brn_false]
  rw [hm]
  simp only [ek0, ek, Option.bind_some, pG_vb, if_true, pPick_vb, Bool.false_eq_true, if_false, pBool_vb, brn_false, ec, emk, rRep, rCnt_eq, List.length_replicate]
  rcases n with _ | n
  · have e1 : rMin [[vi 1]] 0 = vi ((0 : Nat) : Int) := rfl
    have e2 : rOver (List.replicate 0 [vi 0]) 0 (rTake [[vi 1]] 0) = [] := rfl
    rw [e1, e2, l155c0_0]
    rfl
  · have key := rep_loop (n := n + 1) h [[vi 1]] (n + 1) 1 (by omega) (by omega) (by omega)
    have e1 : rMin [[vi 1]] (n + 1) = vi ((1 : Nat) : Int) := by
      rw [rMin_eq]
      have : min [[vi 1]].length (n + 1) = 1 := by simp
      rw [this]
    have e2 : rOver (List.replicate (n + 1) [vi 0]) 0 (rTake [[vi 1]] (n + 1)) = List.replicate 1 [vi 1] ++ List.replicate (n + 1 - 1) [vi 0] := by
      rw [rOver_eq, rTake_eq]
      simp [List.replicate_succ]
    rw [e1, e2]
    exact key

theorem symsTL_mem {ts : List T} {n : List UInt8} : n ∈ symsTL ts ↔ ∃ t ∈ ts, n ∈ symsT t := by
  induction ts with
  | nil => simp [symsTL]
  | cons t ts ih => simp [symsTL, ih]
theorem symsT_sym : ∀ t : T, okT t = true → ∀ n ∈ symsT t, symN n = true := by
  refine T.ind fun t ih hk n hn => ?_
  rw [symsT_eq, List.mem_append] at hn
  rcases hn with hn | hn
  · cases hv : varN t.name <;> rw [hv] at hn
    · simp at hn
      rw [hn, sym_name hk, hv]; rfl
    · simp at hn
  · obtain ⟨u, hu, hm⟩ := symsTL_mem.1 hn
    exact ih u hu (okT_args hk u hu) n hm
theorem cov_syms (l : List (List UInt8)) : ∀ t : T, (∀ n ∈ symsT t, n ∈ l) → covT l t = true := by
  refine T.ind fun t ih h => ?_
  rw [symsT_eq] at h
  rw [covT_eq, covTL_all, Bool.and_eq_true]
  refine ⟨?_, List.all_eq_true.2 fun u hu => ih u hu fun n hn => h n (List.mem_append_right _ (symsTL_mem.2 ⟨u, hu, hn⟩))⟩
  cases hv : varN t.name
  · rw [hv] at h
    rw [Bool.false_or]
    exact List.contains_iff_mem.2 (h t.name (by simp))
  · rfl

/-- The standard ordering over these symbols. -/
def stdO (r : List (List UInt8)) : Ord' := ⟨r, List.replicate r.length 1, 1⟩

theorem valid_std {r : List (List UInt8)} (h1 : 1 ≤ r.length) (h2 : r.length ≤ 12) (hs : ∀ n ∈ r, symN n = true) (hn : r.Nodup) : validO (stdO r) = true := by
  have hb : inB 1 12 (r.length : Nat) = true := by unfold inB; rw [Bool.and_eq_true, decide_eq_true_eq, decide_eq_true_eq]; omega
  unfold validO stdO
  simp only [hb, List.length_replicate, decide_true, Bool.true_and, Bool.and_eq_true]
  refine ⟨by decide, List.all_eq_true.2 fun i hi => ?_⟩
  have hi : i < r.length := List.mem_range.1 hi
  have g1 : r.getD i [] = r[i] := by simp [List.getD_eq_getElem?_getD, hi]
  have g2 : (List.replicate r.length (1 : Int)).getD i 0 = 1 := by simp [List.getD_eq_getElem?_getD, hi]
  unfold chkO
  simp only [g1, g2, hs _ (List.getElem_mem _), Bool.true_and, Bool.and_eq_true]
  refine ⟨?_, by decide⟩
  rw [Bool.not_eq_true', ← Bool.not_eq_true, List.contains_iff_mem]
  intro hm
  obtain ⟨j, hj, e⟩ := List.mem_take_iff_getElem.1 hm
  have := (List.nodup_iff_pairwise_ne.1 hn)
  have := List.pairwise_iff_getElem.1 this j i (by omega) hi (by omega)
  exact this e

theorem symN_len {n : List UInt8} (h : symN n = true) : n.length ≤ 6 := by
  cases n with
  | nil => simp
  | cons c r =>
    simp only [symN, Bool.and_eq_true, decide_eq_true_eq] at h
    simp only [List.length_cons]
    omega

theorem compareKBO_any (o : Ord') (s t : T) (hw : twf s) (hw' : twf t) (x y : Bool) (e5 : G 92 [od o, tm s, tm t] = some (vb x, [])) (e6 : G 92 [od o, tm t, tm s] = some (vb y, [])) : G 47 [od o, tm s, tm t] = some (vi (codeI (dq s t) x y), []) := by
  have e4 := equalTerms_eq s hw t hw'
  have c1 : G 91 [.elt (ocells o) 0, .elt [sv s.name, .sl 2 (s.args.map tcells)] 0, .elt [sv t.name, .sl 2 (t.args.map tcells)] 0] = some (vb x, []) := by
    rw [g91]
    simp -implicitDefEqProofs only [evs, Nat.reduceAdd, reduceIte, pLoadN_2, pLoadN_3, e5]
  have c2 : G 93 [.elt (ocells o) 0, .elt [sv t.name, .sl 2 (t.args.map tcells)] 0, .elt [sv s.name, .sl 2 (s.args.map tcells)] 0] = some (vb y, []) := by
    rw [g93]
    simp -implicitDefEqProofs only [evs, Nat.reduceAdd, reduceIte, pLoadN_2, pLoadN_3, e6]
  have e7 := ordered_eq (f := 91) (g := 93) rfl rfl (dq s t) _ _ c1 c2
  rw [g47]
  simp -implicitDefEqProofs only [evs, Nat.reduceAdd, reduceIte, e4, e7]

theorem var_args0 {t : T} (hk : okT t = true) (hv : varN t.name = true) : t.args = [] := by
  rw [okT_eq, hv, if_pos rfl] at hk
  exact List.isEmpty_iff.1 hk

theorem kbo_vars (o : Ord') (s t : T) (hw : twf s) (hw' : twf t) (hk : okT s = true) (hk' : okT t = true) (hv : varN s.name = true) (hv' : varN t.name = true) (hne : ¬ s.name = t.name) : G 92 [od o, tm s, tm t] = some (vb false, []) := by
  have as_ := var_args0 hk hv
  have at_ := var_args0 hk' hv'
  have ns : nodes s ≤ 1048577 := by rw [nodes_eq, as_]; simp [nodesL]
  have nt : nodes t ≤ 1048577 := by rw [nodes_eq, at_]; simp [nodesL]
  obtain ⟨r, er, c1, c2⟩ := variables_eq t hw' hk' nt
  have hvt : varsT t = [t.name] := by rw [varsT_eq, if_pos hv']
  have hpos : 0 < r.length := by
    rcases Nat.eq_zero_or_pos r.length with h | h
    · have hr : r = [] := List.length_eq_zero_iff.1 h
      have := (c1 t.name).2 (by rw [hvt]; simp)
      rw [hr] at this; cases this
    · exact h
  have h0 : r[0] = t.name := by
    have := (c1 r[0]).1 (List.getElem_mem _)
    rw [hvt] at this
    simpa using this
  have hlt : (0 : Int) < ((r.length : Nat) : Int) := by omega
  have hix : pIndexAddr 1 (strs r) (vi 0) = some (.elt (cs t.name) 0) := by have := pIndexAddr_map (k := 1) (f := cs) (i := 0) hpos; rw [h0] at this; exact this
  have a1 := countName_eq t.name s hw ns
  have a2 := countName_eq t.name t hw' nt
  have k1 : cnt t.name s = 0 := by rw [cnt_eq, as_, if_neg hne]; simp [cntL]
  have k2 : cnt t.name t = 1 := by rw [cnt_eq, at_]; simp [cntL]
  rw [k1] at a1
  rw [k2] at a2
  have h' : ((0 : Nat) : Int) < ((1 : Nat) : Int) := by omega
  rw [g92]
  simp -implicitDefEqProofs only [evs, Nat.reduceAdd, reduceIte, er]
  rw [l92_0]
  simp -implicitDefEqProofs only [evs, Nat.reduceAdd, reduceIte, hlt, hix, a1, a2, h']
end Go.Proofs.YtnbjmmldjggkfaaGreat
/- RULES: the standard ordering of two terms; IsRule. -/
namespace Go.Proofs.YtnbjmmldjggkfaaGreat
open Go Go.RowKit Go.Proofs.YtnbjmmldjggkfaaGreat.Abs

set_option linter.unusedSimpArgs false
set_option linter.unusedVariables false
set_option maxHeartbeats 1000000

theorem std_loop (a b : T) (r : List (List UInt8)) (hr : r.length ≤ 12) (x : Int) (ok : Bool) (e : G 152 [.agg [strs r, .sl 1 (List.replicate r.length [vi 1]), vi 1], tm a, tm b] = some (.tup [vi x, vb ok], [])) :
    L132_0 (vi 0) (sv a.name) (tms a.args) (sv b.name) (tms b.args) (strs r) (vi 1) [] = some (vi (if ok then x else 0), []) := by
  have key := upto (P := fun i => L132_0 (vi i) (sv a.name) (tms a.args) (sv b.name) (tms b.args) (strs r) (vi 1) (List.replicate i [vi 1]) = some (vi (if ok then x else 0), [])) (n := r.length) ?_ ?_ 0 (Nat.zero_le _)
  · simpa using key
  · rw [l132_0]
    have hf : fin true (A.tup [vi x, vb ok], []) = some (A.tup [vi x, vb ok]) := rfl
    cases ok
    · simp -implicitDefEqProofs only [evs, Nat.reduceAdd, reduceIte, e, hf]
    · simp -implicitDefEqProofs only [evs, Nat.reduceAdd, reduceIte, e, hf]
  · intro i hi ih
    have hlt : (i : Int) < ((r.length : Nat) : Int) := by omega
    have h5 := add_one hi (by omega)
    have f1 : pFit (i + 1) 8 = true := pFit_ok8 (by omega)
    have happ : rApp (List.replicate i [vi 1]) [[vi 1]] = List.replicate (i + 1) [vi 1] := by rw [List.replicate_succ']; rfl
    have hlen : (List.replicate i ([vi 1] : List A)).length = i := List.length_replicate
    rw [l132_0]
    simp -implicitDefEqProofs only [evs, Nat.reduceAdd, reduceIte, hlt, hlen, f1, h5, happ, ih]

theorem kp_fun {o : Ord'} (hv : validO o = true) {s t : T} (ks : okT s = true) (hc : covT o.syms t = true) (h : Kp o s t) : varN s.name = false := by
  cases hs : varN s.name with
  | false => rfl
  | true =>
    obtain ⟨_, h⟩ := (Kp_iff o s t).1 h
    rcases h with h | ⟨_, h, _⟩
    · have := wt_var hv hc
      rw [wt_eq o s, var_args0 ks hs, hs, if_pos rfl] at h
      simp only [wtL] at h
      omega
    · rw [hs] at h; cases h.1
theorem order_eq (a b : T) (hw : twf a) (hw' : twf b) (hs : tsz a ≤ 1048576) (hs' : tsz b ≤ 1048576) (hva : validT a = true) (hvb : validT b = true) :
    ∃ x : Int, G 132 [tm a, tm b] = some (vi x, []) ∧ G 139 [tm a, tm b] = some (vi x, []) ∧ (x = 2 → varN a.name = false) := by
  have hk : okT a = true := by unfold validT at hva; rw [Bool.and_eq_true] at hva; exact hva.2
  have hk' : okT b = true := by unfold validT at hvb; rw [Bool.and_eq_true] at hvb; exact hvb.2
  have na : nodes a ≤ 30 := by simp only [validT, smallT, Bool.and_eq_true, decide_eq_true_eq] at hva; exact hva.1.1
  have nb : nodes b ≤ 30 := by simp only [validT, smallT, Bool.and_eq_true, decide_eq_true_eq] at hvb; exact hvb.1.1
  have e1 := l2Same_eq a hw b hw'
  have e2 := equalTerms_eq a hw b hw'
  rw [g132, g139]
  cases hd : dq a b <;> rw [hd] at e1 e2
  rotate_left
  · exact ⟨1, by simp -implicitDefEqProofs only [evs, Nat.reduceAdd, reduceIte, e1], by simp -implicitDefEqProofs only [evs, Nat.reduceAdd, reduceIte, e2], fun h => absurd h (by decide)⟩
  obtain ⟨r1, f1, ⟨c1, c2⟩, c3⟩ := l12Names_eq a hw [] (by simp; omega)
  obtain ⟨r, f2, ⟨d1, d2⟩, d3⟩ := l12Names_eq b hw' r1 (by simp at c2; omega)
  have hsrt : Srt r := d3 (c3 List.Pairwise.nil)
  have hmem : ∀ n, n ∈ r ↔ n ∈ symsT a ∨ n ∈ symsT b := fun n => by rw [d1, c1]; simp
  have hlen : r.length ≤ 60 := by simp at c2; omega
  have f1 : G 151 [.sl 1 [], tm a] = some (strs r1, []) := f1
  obtain ⟨p1, g1, ⟨i1, i2⟩, i3⟩ := symbolsOf_eq a hw hk [] (by simp; omega)
  obtain ⟨p, g2, ⟨j1, j2⟩, j3⟩ := symbolsOf_eq b hw' hk' p1 (by simp at i2; omega)
  have hnd : p.Nodup := j3 (i3 List.nodup_nil)
  have hpm : ∀ n, n ∈ p ↔ n ∈ symsT a ∨ n ∈ symsT b := fun n => by rw [j1, i1]; simp
  have hsort : sortB p = r := srt_ext _ _ (srt_sort hnd) hsrt fun n => by rw [hmem, ← hpm]; unfold sortB; exact List.mem_mergeSort
  have hpl : p.length = r.length := by rw [← hsort]; simp [sortB]
  have g1 : C154_0 (sv a.name) (tms a.args) [] = some (.top, [strs p1]) := g1
  have g3 : C149_0 (p.map cs) = some (.top, [strs r]) := by
    rw [c149_0]
    simp only [sortX, strsOf_map]
    rw [if_pos (by omega), hsort]
  by_cases h12 : r.length ≤ 12
  rotate_left
  · have hgt : ((12 : Nat) : Int) < ((r.length : Nat) : Int) := by omega
    have hle : ¬ ((r.length : Nat) : Int) ≤ 12 := by omega
    have hgt : (12 : Int) < ((r.length : Nat) : Int) := by omega
    have hz : ¬ ((r.length : Nat) : Int) = 0 := by omega
    refine ⟨0, ?_, ?_, fun h => absurd h (by decide)⟩
    · simp -implicitDefEqProofs only [evs, Nat.reduceAdd, reduceIte, e1, f1, f2, hz, hle, hgt]
    · simp -implicitDefEqProofs only [evs, Nat.reduceAdd, reduceIte, e2, g1, g2, hpl, hle, hgt]
  have hle : ((r.length : Nat) : Int) ≤ 12 := by omega
  have hgt : ¬ (12 : Int) < ((r.length : Nat) : Int) := by omega
  have hrep := rep_eq h12
  have hci : (ints (List.replicate r.length 1) : A) = .sl 1 (List.replicate r.length [vi 1]) := by show A.sl 1 _ = _; rw [List.map_replicate]
  have hod : (od (stdO r) : A) = .agg [strs r, .sl 1 (List.replicate r.length [vi 1]), vi 1] := by rw [← hci]; rfl
  by_cases h0 : r.length = 0
  · have hr : r = [] := List.length_eq_zero_iff.1 h0
    have hz : ((r.length : Nat) : Int) = 0 := by omega
    have va : varN a.name = true := by
      cases hv : varN a.name
      · have := (hmem a.name).2 (Or.inl (by rw [symsT_eq, hv]; simp))
        rw [hr] at this
        cases this
      · rfl
    have vb' : varN b.name = true := by
      cases hv : varN b.name
      · have := (hmem b.name).2 (Or.inr (by rw [symsT_eq, hv]; simp))
        rw [hr] at this
        cases this
      · rfl
    have hne : ¬ a.name = b.name := fun e => by
      rw [dq_T, e, var_args0 hk va, var_args0 hk' vb', dq_self] at hd
      simp at hd
    have q := compareKBO_any (stdO r) a b hw hw' false false (kbo_vars _ a b hw hw' hk hk' va vb' hne) (kbo_vars _ b a hw' hw hk' hk vb' va (fun e => hne e.symm))
    rw [hd, hod] at q
    refine ⟨0, ?_, ?_, fun h => absurd h (by decide)⟩
    · simp -implicitDefEqProofs only [evs, Nat.reduceAdd, reduceIte, e1, f1, f2, hz]
    · simp -implicitDefEqProofs only [evs, Nat.reduceAdd, reduceIte, e2, g1, g2, hpl, hle, hgt, g3, hrep, q, codeI]
  have hsym : ∀ n ∈ r, symN n = true := fun n hn => by
    rcases (hmem n).1 hn with h | h
    · exact symsT_sym a hk n h
    · exact symsT_sym b hk' n h
  have hval := valid_std (by omega) h12 hsym (srt_nodup hsrt)
  have hca : covT (stdO r).syms a = true := cov_syms _ a fun n hn => (hmem n).2 (Or.inl hn)
  have hcb : covT (stdO r).syms b = true := cov_syms _ b fun n hn => (hmem n).2 (Or.inr hn)
  have howf : owf (stdO r) := by
    refine ⟨⟨fun s hs => ?_, by show r.length ≤ _; omega⟩, ⟨fun x hx => ?_, by show (List.replicate r.length (1 : Int)).length ≤ _; rw [List.length_replicate]; omega⟩, by show I64 1; exact ⟨by decide, by decide⟩⟩
    · have := symN_len (hsym s hs)
      omega
    · have : x = 1 := by have := List.eq_of_mem_replicate hx; exact this
      rw [this]; exact ⟨by decide, by decide⟩
  have q1 := spec_compareKBO (stdO r) a b howf hw hs hw' hs'
  have q2 := compareKBO_code hval a b howf hw hs hw' hs' hk hk' hca hcb
  have q3 : compareKBO (stdO r) a b = .tup [vi (cmpKBO (stdO r) a b), vb true] := by unfold compareKBO good; rw [hval, hva, hvb, hca, hcb]; rfl
  rw [q3, hod] at q1
  rw [hod] at q2
  have q4 := std_loop a b r h12 _ _ q1
  have hz : ¬ ((r.length : Nat) : Int) = 0 := by omega
  refine ⟨cmpKBO (stdO r) a b, ?_, ?_, fun h => kp_fun hval hk hcb ((kbo_two _ _ _).1 h)⟩
  · simp -implicitDefEqProofs only [evs, Nat.reduceAdd, reduceIte, e1, f1, f2, hz, hgt, hle, q4]
  · simp -implicitDefEqProofs only [evs, Nat.reduceAdd, reduceIte, e2, g1, g2, hpl, hle, hgt, g3, hrep, q2]

theorem depL_mem {ts : List T} {t : T} (h : t ∈ ts) : dep t ≤ depL ts := by
  induction ts with
  | nil => cases h
  | cons u us ih =>
    simp only [depL]
    rcases List.mem_cons.1 h with h | h
    · subst h; omega
    · have := ih h; omega
theorem small_arg {t u : T} (h : u ∈ t.args) (hs : smallT t = true) : smallT u = true := by
  simp only [smallT, Bool.and_eq_true, decide_eq_true_eq] at hs ⊢
  have h1 := nodesL_mem h
  have h2 := depL_mem h
  rw [nodes_eq, dep_eq] at hs
  omega

end Go.Proofs.YtnbjmmldjggkfaaGreat
/- RULES, AND REWRITING TILL NOTHING APPLIES. -/
namespace Go.Proofs.YtnbjmmldjggkfaaGreat
open Go Go.RowKit Go.Proofs.YtnbjmmldjggkfaaGreat.Abs

set_option linter.unusedSimpArgs false
set_option linter.unusedVariables false
set_option maxHeartbeats 1000000


theorem anyAtom_eq' (t : T) (hs : Tz t) (he : ¬ t.name = [61]) : G 53 [tm t] = some (vb (symN t.name && validT t), []) := by
  have e1 := l2Symbol_eq t.name ((twf_eq t).1 hs.wf).1
  have e2 := l2Good_eq t hs.wf hs
  rw [g53]
  cases h : symN t.name <;> rw [h] at e1
  · simp -implicitDefEqProofs only [evs, Nat.reduceAdd, reduceIte, he, e1, Bool.false_and]
  · simp -implicitDefEqProofs only [evs, Nat.reduceAdd, reduceIte, he, e1, e2, Bool.true_and]
theorem eqn_vs {t : T} (h : eqnT t = true) : t.args.length = 2 ∧ Vs (lhsT t) ∧ Vs (rhsT t) ∧ smallT t = true := by
  have h' := h
  unfold eqnT at h
  rw [Bool.and_eq_true, Bool.and_eq_true, Bool.and_eq_true, decide_eq_true_eq] at h
  obtain ⟨h1, h2, h3, h4⟩ := h
  obtain ⟨_, _, ma, mb⟩ := arg_facts h1
  have hn : nodes t ≤ 30 := by simp only [smallT, Bool.and_eq_true, decide_eq_true_eq] at h2; exact h2.1
  exact ⟨h1, ⟨h3, by have := nodes_arg ma; show nodes (arg0 t) ≤ 30; omega⟩, ⟨h4, by have := nodes_arg mb; show nodes (arg1 t) ≤ 30; omega⟩, h2⟩
/-- A rule, as both see it. -/
theorem rule_eq (t : T) (hs : Tz t) : ∃ b : Bool, G 96 [tm t] = some (vb b, []) ∧ G 101 [tm t] = some (vb b, []) ∧ (b = true → t.name = [61] ∧ eqnT t = true ∧ varN (lhsT t).name = false) := by
  have hw := hs.wf
  obtain ⟨w1, w2, w3⟩ := (twf_eq t).1 hw
  have w3 := (twfL_iff _).1 w3
  have q0 := isEquality_eq t
  by_cases he : t.name = [61]
  rotate_left
  · have e1 := anyAtom_eq' t hs he
    rw [decide_eq_false he] at q0
    refine ⟨false, ?_, ?_, fun h => by cases h⟩
    · rw [g96]
      cases h1 : (symN t.name && validT t) <;> rw [h1] at e1 <;> simp -implicitDefEqProofs only [evs, Nat.reduceAdd, reduceIte, he, e1]
    · rw [g101]
      simp -implicitDefEqProofs only [evs, Nat.reduceAdd, reduceIte, q0]
  · have e1 := l2Atom_eqn t hw hs he
    have e2 := isValidAtom_eqn t hw hs he
    rw [decide_eq_true he] at q0
    have het : (t.name = [61]) = True := eq_true he
    rw [g96, g101]
    cases h : eqnT t <;> rw [h] at e1 e2
    · exact ⟨false, by simp -implicitDefEqProofs only [evs, Nat.reduceAdd, reduceIte, e1], by simp -implicitDefEqProofs only [evs, Nat.reduceAdd, reduceIte, q0, e2], fun h => by cases h⟩
    · obtain ⟨h1, v1, v2, hsm⟩ := eqn_vs h
      obtain ⟨i0, i1, ma, mb⟩ := arg_facts h1
      have va : validT (arg0 t) = true := by unfold validT; rw [small_arg ma hsm]; exact v1.1
      have vb' : validT (arg1 t) = true := by unfold validT; rw [small_arg mb hsm]; exact v2.1
      obtain ⟨x, o1, o2, o3⟩ := order_eq (arg0 t) (arg1 t) (w3 _ ma) (w3 _ mb) v1.tz v2.tz va vb'
      refine ⟨decide (x = 2), ?_, ?_, fun hx => ⟨he, rfl, o3 (of_decide_eq_true hx)⟩⟩
      · simp -implicitDefEqProofs only [evs, Nat.reduceAdd, reduceIte, e1, het, i0, i1, pLoadN_tcells, o1]
      · simp -implicitDefEqProofs only [evs, Nat.reduceAdd, reduceIte, q0, e2, i0, i1, pLoadN_tcells, o2]
theorem rules_eq (rs : List T) (hl : rs.length ≤ 1048576) (hs : ∀ r ∈ rs, Tz r) : ∃ b : Bool, G 54 [tms rs] = some (vb b, []) ∧ G 62 [tms rs] = some (vb b, []) ∧ (b = true → RS rs ∧ ∀ r ∈ rs, r.name = [61] ∧ eqnT r = true ∧ varN (lhsT r).name = false) := by
  obtain ⟨p, hp⟩ := Classical.axiomOfChoice (r := fun (t : T) (b : Bool) => Tz t → G 96 [tm t] = some (vb b, []) ∧ G 101 [tm t] = some (vb b, []) ∧ (b = true → t.name = [61] ∧ eqnT t = true ∧ varN (lhsT t).name = false)) fun t => by
    by_cases h : Tz t
    · obtain ⟨b, hb⟩ := rule_eq t h
      exact ⟨b, fun _ => hb⟩
    · exact ⟨false, fun h' => absurd h' h⟩
  have hp : ∀ r ∈ rs, G 96 [tm r] = some (vb (p r), []) ∧ G 101 [tm r] = some (vb (p r), []) ∧ (p r = true → r.name = [61] ∧ eqnT r = true ∧ varN (lhsT r).name = false) := fun r hr => hp r (hs r hr)
  refine ⟨decide (rs.length ≤ 10) && rs.all p, ?_, ?_, fun h => ?_⟩
  · have key := upto (P := fun i => L54_0 (tms rs) (vi i) = some (vb (decide (rs.length ≤ 10) && (rs.drop i).all p), [])) (n := rs.length) ?_ ?_ 0 (Nat.zero_le _)
    · rw [g54]
      exact key
    · rw [l54_0, List.drop_length]
      have e : decide (((rs.length : Nat) : Int) ≤ 10) = decide (rs.length ≤ 10) := by
        by_cases h : rs.length ≤ 10
        · rw [decide_eq_true h, decide_eq_true (by omega)]
        · rw [decide_eq_false h, decide_eq_false (by omega)]
      simp -implicitDefEqProofs only [evs, Nat.reduceAdd, reduceIte, e]
    · intro i hi ih
      have hlt : (i : Int) < ((rs.length : Nat) : Int) := by omega
      have h5 := add_one hi (by show rs.length ≤ 9223372036854775807; omega)
      obtain ⟨e1, _, _⟩ := hp rs[i] (List.getElem_mem _)
      rw [l54_0, drop_cons hi, List.all_cons]
      cases h : p rs[i] <;> rw [h] at e1
      · simp -implicitDefEqProofs only [evs, Nat.reduceAdd, reduceIte, hlt, pIndexAddr_map hi, pLoadN_tcells, e1, Bool.false_and, Bool.and_false]
      · simp -implicitDefEqProofs only [evs, Nat.reduceAdd, reduceIte, hlt, pIndexAddr_map hi, pLoadN_tcells, e1, h5, ih, Bool.true_and]
  · have e1 := contains_terms (f := 100) (caps := []) rfl (fun r => !p r) rs (by show rs.length ≤ 9223372036854775807; omega) fun r hr => by
      obtain ⟨_, e2, _⟩ := hp r hr
      rw [g100]
      simp -implicitDefEqProofs only [evs, Nat.reduceAdd, reduceIte, e2]
    rw [any_not_all] at e1
    rw [g62]
    by_cases h : rs.length ≤ 10
    · have h' : ((rs.length : Nat) : Int) ≤ 10 := by omega
      simp -implicitDefEqProofs only [evs, Nat.reduceAdd, reduceIte, h, h', e1, Bool.true_and, Bool.not_not]
    · have h' : ¬ ((rs.length : Nat) : Int) ≤ 10 := by omega
      simp -implicitDefEqProofs only [evs, Nat.reduceAdd, reduceIte, h, h', Bool.false_and]
  · rw [Bool.and_eq_true, decide_eq_true_eq, List.all_eq_true] at h
    refine ⟨⟨h.1, fun r hr => ?_⟩, fun r hr => (hp r hr).2.2 (h.2 r hr)⟩
    obtain ⟨_, h2, _⟩ := (hp r hr).2.2 (h.2 r hr)
    obtain ⟨q1, q2, q3, _⟩ := eqn_vs h2
    exact ⟨q1, q2, q3⟩
end Go.Proofs.YtnbjmmldjggkfaaGreat
/- REWRITING TILL NOTHING APPLIES. -/
namespace Go.Proofs.YtnbjmmldjggkfaaGreat
open Go Go.RowKit Go.Proofs.YtnbjmmldjggkfaaGreat.Abs

set_option linter.unusedSimpArgs false
set_option linter.unusedVariables false
set_option maxHeartbeats 1000000


theorem once_nodes {rs : List T} (hr : RS rs) : ∀ (t : T) (root : Bool) {u : T}, EX root t → once rs root t = some u → nodes u ≤ nodes t + 900 := by
  refine T.ind (p := fun t => ∀ (root : Bool) {u : T}, EX root t → once rs root t = some u → nodes u ≤ nodes t + 900) fun t ih => ?_
  intro root u h ho
  have hL : ∀ (us : List T) {us' : List T}, (∀ u ∈ us, ∀ u', once rs true u = some u' → nodes u' ≤ nodes u + 900) → onceL rs us = some us' → nodesL us' ≤ nodesL us + 900 := by
    intro us
    induction us with
    | nil => intro us' _ h; simp [onceL] at h
    | cons v vs ih2 =>
      intro us' hv h
      rw [onceL] at h
      split at h
      · rename_i v' hv'
        cases h
        have := hv v (by simp) _ hv'
        simp only [nodesL]
        omega
      · rw [Option.map_eq_some_iff] at h
        obtain ⟨r, h3, rfl⟩ := h
        have := ih2 (fun w hw => hv w (by simp [hw])) h3
        simp only [nodesL]
        omega
  rw [once_eq] at ho
  split at ho
  · rename_i us hus
    cases ho
    have := hL t.args (fun v hv u' hu' => by
      have hw := h.2.1 v hv
      exact ih v hv true ⟨⟨by have := hw.2; omega, hw.tz⟩, hw.args, fun _ => hw⟩ hu') hus
    rw [nodes_eq t]
    show 1 + nodesL us ≤ _
    omega
  · cases root with
    | false => cases ho
    | true =>
      have := (rootS_vs hr (h.2.2 rfl) ho).2
      omega
/-- What is rewritten: a valid term, or the two sides of an equation. -/
def EX' (root : Bool) (t : T) : Prop := EX root t ∧ (root = false → t.name = [61] ∧ t.args.length = 2)
theorem okL_tsz {us : List T} (h : ∀ u ∈ us, okT u = true) : tszL us ≤ 10 * nodesL us := by
  induction us with
  | nil => simp [tszL]
  | cons u us ih =>
    have := ok_tsz u (h u (by simp))
    have := ih fun w hw => h w (by simp [hw])
    simp only [tszL, nodesL]
    omega
theorem ok_name {t : T} (h : okT t = true) : ¬ t.name = [61] := fun e => by
  rw [okT_eq, e] at h
  exact absurd h (by
    rw [show varN [61] = false from by decide, if_neg Bool.false_ne_true, show symN [61] = false from by decide]
    simp)
theorem any_eq' {t : T} (ht : Tz t) (h : okT t = true ∨ (t.name = [61] ∧ t.args.length = 2 ∧ ∀ u ∈ t.args, okT u = true)) : G 59 [tm t] = some (vb (smallT t), []) := by
  have e2 := l2Good_eq t ht.wf ht
  rw [g59]
  rcases h with h | ⟨h1, h2, h3⟩
  · have hv : validT t = smallT t := by unfold validT; rw [h, Bool.and_true]
    rw [hv] at e2
    have e1 := anyAtom_eq' t ht (ok_name h)
    rw [hv] at e1
    cases hs : smallT t <;> rw [hs] at e1 e2
    · rw [Bool.and_false] at e1
      simp -implicitDefEqProofs only [evs, Nat.reduceAdd, reduceIte, e1, e2]
    · simp -implicitDefEqProofs only [evs, Nat.reduceAdd, reduceIte, e2]
  · have hk : okT t = false := by
      cases hk : okT t with
      | false => rfl
      | true => exact absurd h1 (ok_name hk)
    have hv : validT t = false := by unfold validT; rw [hk, Bool.and_false]
    rw [hv] at e2
    have e1 := l2Atom_eqn t ht.wf ht h1
    obtain ⟨_, _, ma, mb⟩ := arg_facts h2
    have he : eqnT t = smallT t := by unfold eqnT; rw [decide_eq_true h2, h3 _ ma, h3 _ mb]; simp
    rw [he] at e1
    simp -implicitDefEqProofs only [evs, Nat.reduceAdd, reduceIte, e1, e2]
theorem once_facts {rs : List T} (hr : RS rs) {root : Bool} {t u : T} (h : EX' root t) (ho : once rs root t = some u) : Tz u ∧ (smallT u = true → EX' root u) ∧ G 59 [tm u] = some (vb (smallT u), []) := by
  have hn := once_nodes hr t root h.1 ho
  have ht := h.1.1.1
  cases root with
  | true =>
    have hk := once_ok hr.ok t (h.1.2.2 rfl).1 ho
    have hz : Tz u := by have := ok_tsz u hk; unfold Tz; omega
    refine ⟨hz, fun hs => ?_, any_eq' hz (Or.inl hk)⟩
    have hv : Vs u := ⟨hk, by simp only [smallT, Bool.and_eq_true, decide_eq_true_eq] at hs; exact hs.1⟩
    exact ⟨⟨⟨by have := hv.2; omega, hz⟩, hv.args, fun _ => hv⟩, fun h => by cases h⟩
  | false =>
    obtain ⟨n1, n2⟩ := h.2 rfl
    rw [once_eq] at ho
    split at ho
    rotate_left
    · cases ho
    rename_i us hus
    cases ho
    obtain ⟨g1, g2⟩ := onceL_spec hus
    have hk : ∀ v ∈ us, okT v = true := g2 (fun v => okT v = true) (fun v hv => (h.1.2.1 v hv).1) fun v hv u' hu' => once_ok hr.ok v (h.1.2.1 v hv).1 hu'
    have hz : Tz (.mk t.name us) := by
      have := okL_tsz hk
      have e : nodes (.mk t.name us) = 1 + nodesL us := rfl
      unfold Tz
      rw [tsz_mk, n1, g1, n2]
      simp only [List.length_cons, List.length_nil]
      omega
    refine ⟨hz, fun hs => ?_, any_eq' hz (Or.inr ⟨n1, g1.trans n2, hk⟩)⟩
    have hns : nodes (.mk t.name us) ≤ 30 := by simp only [smallT, Bool.and_eq_true, decide_eq_true_eq] at hs; exact hs.1
    refine ⟨⟨⟨by omega, hz⟩, fun v hv => ⟨hk v hv, ?_⟩, fun h => by cases h⟩, fun _ => ⟨n1, g1.trans n2⟩⟩
    have := nodes_arg (t := .mk t.name us) hv
    omega
def outR (o : Option (T × Nat)) : Option Out := match o with | some r => some (.tup [tm r.1, vi (r.2 : Nat), vb true], []) | none => some (.tup [.agg [sv [], .sl 2 []], vi 0, vb false], [])

theorem rews_loop (rs : List T) (hr : RS rs) (root : Bool) : ∀ (k n : Nat), k + n = 51 → 1 ≤ k → ∀ t : T, EX' root t → L55_0 (tms rs) (vb root) (vi (n : Nat)) (sv []) (sv t.name) (tms t.args) [] = outR (rwN rs root k n t) := by
  intro k
  induction k with
  | zero => intro n _ h; omega
  | succ k ih =>
    intro n hk _ t ht
    have e1 := once_spec rs hr root t ht.1
    rw [l55_0, rwN]
    cases ho : once rs root t with
    | none =>
      rw [ho] at e1
      have e1 : G 97 [tm t, tms rs, vb root] = some (.tup [tm t, vb false], []) := e1
      show _ = some (A.tup [tm t, vi (n : Nat), vb true], [])
      simp -implicitDefEqProofs only [evs, Nat.reduceAdd, reduceIte, e1]
    | some u =>
      rw [ho] at e1
      have e1 : G 97 [tm t, tms rs, vb root] = some (.tup [tm u, vb true], []) := e1
      obtain ⟨hu, hs, hA⟩ := once_facts hr ht ho
      have e2 : G 59 [tm u] = some (vb (smallT u), []) := hA
      by_cases h50 : n = 50
      · have hk0 : k = 0 := by omega
        have hn : ((n : Nat) : Int) = 50 := by omega
        show _ = outR (if k = 0 ∨ smallT u = false then none else rwN rs root k (n + 1) u)
        rw [if_pos (Or.inl hk0)]
        show _ = some (A.tup [.agg [sv [], .sl 2 []], vi 0, vb false], [])
        simp -implicitDefEqProofs only [evs, Nat.reduceAdd, reduceIte, e1, hn]
      · have hn : ¬ ((n : Nat) : Int) = 50 := by omega
        have hk0 : ¬ k = 0 := by omega
        show _ = outR (if k = 0 ∨ smallT u = false then none else rwN rs root k (n + 1) u)
        cases hsm : smallT u with
        | false =>
          rw [hsm] at e2
          rw [if_pos (Or.inr rfl)]
          show _ = some (A.tup [.agg [sv [], .sl 2 []], vi 0, vb false], [])
          simp -implicitDefEqProofs only [evs, Nat.reduceAdd, reduceIte, e1, hn, e2]
        | true =>
          rw [hsm] at e2
          rw [if_neg (by simp [hk0])]
          have h5 : ck ((n : Int) + 1) = some (vi ((n + 1 : Nat) : Int)) := ck_le (by omega) (by omega)
          have := ih (n + 1) (by omega) (by omega) u (hs hsm)
          rw [← this]
          simp -implicitDefEqProofs only [evs, Nat.reduceAdd, reduceIte, e1, hn, e2, h5]

theorem rewi_loop (rs : List T) (hr : RS rs) (root : Bool) : ∀ (k n : Nat), k + n = 51 → 1 ≤ k → ∀ t : T, EX' root t → L63_0 (tms rs) (vb root) (vi (n : Nat)) (sv []) (sv t.name) (tms t.args) [] = outR (rwN rs root k n t) := by
  intro k
  induction k with
  | zero => intro n _ h; omega
  | succ k ih =>
    intro n hk _ t ht
    have e1 := once_impl rs hr t root ht.1
    rw [l63_0, rwN]
    cases ho : once rs root t with
    | none =>
      rw [ho] at e1
      have e1 : G 102 [tm t, tms rs, vb root] = some (.tup [.agg [sv [], .sl 2 []], vb false], []) := e1
      show _ = some (A.tup [tm t, vi (n : Nat), vb true], [])
      simp -implicitDefEqProofs only [evs, Nat.reduceAdd, reduceIte, e1]
    | some u =>
      rw [ho] at e1
      have e1 : G 102 [tm t, tms rs, vb root] = some (.tup [tm u, vb true], []) := e1
      obtain ⟨hu, hs, hA⟩ := once_facts hr ht ho
      have e2 : G 72 [tm u] = some (vb (smallT u), []) := isSmall_eq u hu.wf hu
      by_cases h50 : n = 50
      · have hk0 : k = 0 := by omega
        have hn : ((n : Nat) : Int) = 50 := by omega
        show _ = outR (if k = 0 ∨ smallT u = false then none else rwN rs root k (n + 1) u)
        rw [if_pos (Or.inl hk0)]
        show _ = some (A.tup [.agg [sv [], .sl 2 []], vi 0, vb false], [])
        simp -implicitDefEqProofs only [evs, Nat.reduceAdd, reduceIte, e1, hn]
      · have hn : ¬ ((n : Nat) : Int) = 50 := by omega
        have hk0 : ¬ k = 0 := by omega
        show _ = outR (if k = 0 ∨ smallT u = false then none else rwN rs root k (n + 1) u)
        cases hsm : smallT u with
        | false =>
          rw [hsm] at e2
          rw [if_pos (Or.inr rfl)]
          show _ = some (A.tup [.agg [sv [], .sl 2 []], vi 0, vb false], [])
          simp -implicitDefEqProofs only [evs, Nat.reduceAdd, reduceIte, e1, hn, e2]
        | true =>
          rw [hsm] at e2
          rw [if_neg (by simp [hk0])]
          have h5 : ck ((n : Int) + 1) = some (vi ((n + 1 : Nat) : Int)) := ck_le (by omega) (by omega)
          have := ih (n + 1) (by omega) (by omega) u (hs hsm)
          rw [← this]
          simp -implicitDefEqProofs only [evs, Nat.reduceAdd, reduceIte, e1, hn, e2, h5]

theorem rewS_eq (rs : List T) (hr : RS rs) (root : Bool) (t : T) (ht : EX' root t) : G 55 [tm t, tms rs, vb root] = outR (rwN rs root 51 0 t) := by
  have e1 := own_eq t ht.1.1.2
  have := rews_loop rs hr root 51 0 rfl (by decide) t ht
  have : L55_0 (tms rs) (vb root) (vi 0) (sv []) (sv t.name) (tms t.args) [] = _ := this
  rw [g55]
  simp -implicitDefEqProofs only [evs, Nat.reduceAdd, reduceIte, e1, this]
theorem rewI_eq (rs : List T) (hr : RS rs) (root : Bool) (t : T) (ht : EX' root t) : G 63 [tm t, tms rs, vb root] = outR (rwN rs root 51 0 t) := by
  have e1 := copyTerm_eq t ht.1.1.2
  have := rewi_loop rs hr root 51 0 rfl (by decide) t ht
  have : L63_0 (tms rs) (vb root) (vi 0) (sv []) (sv t.name) (tms t.args) [] = _ := this
  rw [g63]
  simp -implicitDefEqProofs only [evs, Nat.reduceAdd, reduceIte, e1, this]
theorem Vs.ex {t : T} (h : Vs t) : EX' true t := ⟨⟨⟨by have := h.2; omega, h.tz⟩, h.args, fun _ => h⟩, fun h => by cases h⟩
end Go.Proofs.YtnbjmmldjggkfaaGreat
/- JOINABLE EQUATIONS. -/
namespace Go.Proofs.YtnbjmmldjggkfaaGreat
open Go Go.RowKit Go.Proofs.YtnbjmmldjggkfaaGreat.Abs

set_option linter.unusedSimpArgs false
set_option linter.unusedVariables false
set_option maxHeartbeats 1000000

theorem rewT_eq (rs : List T) (hl : rs.length ≤ 1048576) (hs : ∀ r ∈ rs, Tz r) (hr : RS rs) (he : G 62 [tms rs] = some (vb true, [])) (t : T) (ht : Vs t) (hsm : smallT t = true) : G 24 [tm t, tms rs] = outR (rwN rs true 51 0 t) := by
  have e1 := isValidTerm_eq t ht.tz.wf ht.tz
  have hv : validT t = true := by unfold validT; rw [hsm, ht.1]; rfl
  rw [hv] at e1
  have e2 : G 61 [tm t] = some (vb true, []) := by
    rw [g61]
    simp -implicitDefEqProofs only [evs, Nat.reduceAdd, reduceIte, e1]
  have e3 := rewI_eq rs hr true t ht.ex
  rw [g24]
  cases h : rwN rs true 51 0 t with
  | none =>
    rw [h] at e3
    have e3 : G 63 [tm t, tms rs, vb true] = some (.tup [.agg [sv [], .sl 2 []], vi 0, vb false], []) := e3
    show _ = some (A.tup [.agg [sv [], .sl 2 []], vi 0, vb false], [])
    simp -implicitDefEqProofs only [evs, Nat.reduceAdd, reduceIte, e2, he, e3]
  | some r =>
    rw [h] at e3
    have e3 : G 63 [tm t, tms rs, vb true] = some (.tup [tm r.1, vi (r.2 : Nat), vb true], []) := e3
    show _ = some (A.tup [tm r.1, vi (r.2 : Nat), vb true], [])
    simp -implicitDefEqProofs only [evs, Nat.reduceAdd, reduceIte, e2, he, e3]
theorem rwN_tz {rs : List T} (hr : RS rs) (root : Bool) : ∀ (k n : Nat) (t : T) {r : T × Nat}, EX' root t → rwN rs root k n t = some r → Tz r.1 := by
  intro k
  induction k with
  | zero => intro n t r _ h; simp [rwN] at h
  | succ k ih =>
    intro n t r ht h
    rw [rwN] at h
    split at h
    · cases h; exact ht.1.1.2
    · rename_i u hu
      split at h
      · cases h
      · rename_i hc
        obtain ⟨_, hs, _⟩ := once_facts hr ht hu
        refine ih (n + 1) u (hs ?_) h
        cases hsm : smallT u with
        | true => rfl
        | false => exact absurd (Or.inr hsm) hc

theorem join_eq (t : T) (ht : Tz t) (rs : List T) (hl : rs.length ≤ 1048576) (hs : ∀ r ∈ rs, Tz r) : ∃ a b : Bool, G 19 [tm t, tms rs] = some (.tup [vb a, vb b], []) ∧ G 21 [tm t, tms rs] = some (.tup [vb a, vb b], []) := by
  have q0 := isEquality_eq t
  rw [g19, g21]
  by_cases he : t.name = [61]
  rotate_left
  · have e1 := anyAtom_eq' t ht he
    rw [decide_eq_false he] at q0
    refine ⟨false, false, ?_, ?_⟩
    · cases h1 : (symN t.name && validT t) <;> rw [h1] at e1 <;> simp -implicitDefEqProofs only [evs, Nat.reduceAdd, reduceIte, he, e1]
    · simp -implicitDefEqProofs only [evs, Nat.reduceAdd, reduceIte, q0]
  have e1 := l2Atom_eqn t ht.wf ht he
  have e2 := isValidAtom_eqn t ht.wf ht he
  rw [decide_eq_true he] at q0
  have het : (t.name = [61]) = True := eq_true he
  obtain ⟨b, r1, r2, r3⟩ := rules_eq rs hl hs
  cases h : eqnT t <;> rw [h] at e1 e2
  · exact ⟨false, false, by simp -implicitDefEqProofs only [evs, Nat.reduceAdd, reduceIte, e1], by simp -implicitDefEqProofs only [evs, Nat.reduceAdd, reduceIte, q0, e2]⟩
  obtain ⟨h1, v1, v2, hsm⟩ := eqn_vs h
  obtain ⟨i0, i1, ma, mb⟩ := arg_facts h1
  have w1 := isValidTerm_eq (arg0 t) v1.tz.wf v1.tz
  have hv1 : validT (arg0 t) = true := by unfold validT; rw [small_arg ma hsm]; exact v1.1
  rw [hv1] at w1
  have x1 : G 61 [tm (arg0 t)] = some (vb true, []) := by
    rw [g61]
    simp -implicitDefEqProofs only [evs, Nat.reduceAdd, reduceIte, w1]
  have w2 := isValidTerm_eq (arg1 t) v2.tz.wf v2.tz
  have hv2 : validT (arg1 t) = true := by unfold validT; rw [small_arg mb hsm]; exact v2.1
  rw [hv2] at w2
  have x2 : G 61 [tm (arg1 t)] = some (vb true, []) := by
    rw [g61]
    simp -implicitDefEqProofs only [evs, Nat.reduceAdd, reduceIte, w2]
  cases b with
  | false =>
    have y1 : G 24 [tm (arg0 t), tms rs] = some (.tup [.agg [sv [], .sl 2 []], vi 0, vb false], []) := by
      rw [g24]
      simp -implicitDefEqProofs only [evs, Nat.reduceAdd, reduceIte, x1, r2]
    have y2 : G 24 [tm (arg1 t), tms rs] = some (.tup [.agg [sv [], .sl 2 []], vi 0, vb false], []) := by
      rw [g24]
      simp -implicitDefEqProofs only [evs, Nat.reduceAdd, reduceIte, x2, r2]
    exact ⟨false, false, by simp -implicitDefEqProofs only [evs, Nat.reduceAdd, reduceIte, e1, het, r1], by simp -implicitDefEqProofs only [evs, Nat.reduceAdd, reduceIte, q0, e2, i0, i1, pLoadN_tcells, y1, y2]⟩
  | true =>
    obtain ⟨hr, _⟩ := r3 rfl
    have y1 := rewT_eq rs hl hs hr r2 (arg0 t) v1 (small_arg ma hsm)
    have y2 := rewT_eq rs hl hs hr r2 (arg1 t) v2 (small_arg mb hsm)
    have z1 := rewS_eq rs hr true (arg0 t) v1.ex
    have z2 := rewS_eq rs hr true (arg1 t) v2.ex
    cases k1 : rwN rs true 51 0 (arg0 t) with
    | none =>
      rw [k1] at y1 z1
      have y1 : G 24 [tm (arg0 t), tms rs] = some (.tup [.agg [sv [], .sl 2 []], vi 0, vb false], []) := y1
      have z1 : G 55 [tm (arg0 t), tms rs, vb true] = some (.tup [.agg [sv [], .sl 2 []], vi 0, vb false], []) := z1
      cases k2 : rwN rs true 51 0 (arg1 t) with
      | none =>
        rw [k2] at y2 z2
        have y2 : G 24 [tm (arg1 t), tms rs] = some (.tup [.agg [sv [], .sl 2 []], vi 0, vb false], []) := y2
        have z2 : G 55 [tm (arg1 t), tms rs, vb true] = some (.tup [.agg [sv [], .sl 2 []], vi 0, vb false], []) := z2
        exact ⟨false, false, by simp -implicitDefEqProofs only [evs, Nat.reduceAdd, reduceIte, e1, het, r1, i0, i1, pLoadN_tcells, z1, z2], by simp -implicitDefEqProofs only [evs, Nat.reduceAdd, reduceIte, q0, e2, i0, i1, pLoadN_tcells, y1, y2]⟩
      | some r =>
        rw [k2] at y2 z2
        have y2 : G 24 [tm (arg1 t), tms rs] = some (.tup [tm r.1, vi (r.2 : Nat), vb true], []) := y2
        have z2 : G 55 [tm (arg1 t), tms rs, vb true] = some (.tup [tm r.1, vi (r.2 : Nat), vb true], []) := z2
        exact ⟨false, false, by simp -implicitDefEqProofs only [evs, Nat.reduceAdd, reduceIte, e1, het, r1, i0, i1, pLoadN_tcells, z1, z2], by simp -implicitDefEqProofs only [evs, Nat.reduceAdd, reduceIte, q0, e2, i0, i1, pLoadN_tcells, y1, y2]⟩
    | some r =>
      have g1 := rwN_tz hr true 51 0 _ v1.ex k1
      rw [k1] at y1 z1
      have y1 : G 24 [tm (arg0 t), tms rs] = some (.tup [tm r.1, vi (r.2 : Nat), vb true], []) := y1
      have z1 : G 55 [tm (arg0 t), tms rs, vb true] = some (.tup [tm r.1, vi (r.2 : Nat), vb true], []) := z1
      cases k2 : rwN rs true 51 0 (arg1 t) with
      | none =>
        rw [k2] at y2 z2
        have y2 : G 24 [tm (arg1 t), tms rs] = some (.tup [.agg [sv [], .sl 2 []], vi 0, vb false], []) := y2
        have z2 : G 55 [tm (arg1 t), tms rs, vb true] = some (.tup [.agg [sv [], .sl 2 []], vi 0, vb false], []) := z2
        exact ⟨false, false, by simp -implicitDefEqProofs only [evs, Nat.reduceAdd, reduceIte, e1, het, r1, i0, i1, pLoadN_tcells, z1, z2], by simp -implicitDefEqProofs only [evs, Nat.reduceAdd, reduceIte, q0, e2, i0, i1, pLoadN_tcells, y1, y2]⟩
      | some s =>
        have g2 := rwN_tz hr true 51 0 _ v2.ex k2
        rw [k2] at y2 z2
        have y2 : G 24 [tm (arg1 t), tms rs] = some (.tup [tm s.1, vi (s.2 : Nat), vb true], []) := y2
        have z2 : G 55 [tm (arg1 t), tms rs, vb true] = some (.tup [tm s.1, vi (s.2 : Nat), vb true], []) := z2
        have f1 := l2Same_eq r.1 g1.wf s.1 g2.wf
        have f2 := equalTerms_eq r.1 g1.wf s.1 g2.wf
        exact ⟨dq r.1 s.1, true, by simp -implicitDefEqProofs only [evs, Nat.reduceAdd, reduceIte, e1, het, r1, i0, i1, pLoadN_tcells, z1, z2, f1], by simp -implicitDefEqProofs only [evs, Nat.reduceAdd, reduceIte, q0, e2, i0, i1, pLoadN_tcells, y1, y2, f2]⟩

theorem law_isJoinable (t : T) (rs : List T) (hw : twf t) (hwr : (∀ t ∈ rs, twf t) ∧ rs.length ≤ 9223372036854775807) : G 4 [tm t, tms rs] = some (vb true, []) := by
  have e1 := sz_term t hw 1048576 (by decide) (by decide)
  rw [g4]
  by_cases h1 : left1 1048576 ((tsz t : Nat) : Int) < 0
  · simp -implicitDefEqProofs only [evs, Nat.reduceAdd, reduceIte, e1, h1]
  obtain ⟨b1, b2, b3⟩ := left1_sz (by decide) (by decide) h1
  generalize left1 1048576 ((tsz t : Nat) : Int) = l1 at *
  have e2 := sz_terms rs hwr.2 (fun t ht => sz_term t (hwr.1 t ht)) l1 b1 b2
  by_cases h2 : left1 l1 ((rs.length + tszL rs : Nat) : Int) < 0
  · simp -implicitDefEqProofs only [evs, Nat.reduceAdd, reduceIte, e1, h1, e2, h2]
  obtain ⟨b4, b5, b6⟩ := left1_sz b1 b2 h2
  have hsr : ∀ t ∈ rs, Tz t := fun t ht => by have := tsz_mem ht; unfold Tz; omega
  have a1 := to_term t b3
  have a2 := to_terms rs (by omega) fun t ht => to_term t (hsr t ht)
  have a5 := eq_term t hw
  have a6 := eq_terms rs hwr.2 fun t ht => eq_term t (hwr.1 t ht)
  obtain ⟨a, b, q1, q2⟩ := join_eq t b3 rs (by omega) hsr
  simp -implicitDefEqProofs only [evs, Nat.reduceAdd, reduceIte, e1, h1, e2, h2, a1, a2, q1, q2, a5, a6]
end Go.Proofs.YtnbjmmldjggkfaaGreat
