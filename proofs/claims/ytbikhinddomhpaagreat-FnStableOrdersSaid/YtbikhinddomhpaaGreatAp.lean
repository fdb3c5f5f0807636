/- SUBSTITUTIONS AS DATA: applied by the reference. -/
import Derived.Test.YtbikhinddomhpaaGreatFp
import Derived.Test.YtbikhinddomhpaaGreatSb
namespace Go.Proofs.YtbikhinddomhpaaGreat
open Go Go.RowKit Go.Proofs.YtbikhinddomhpaaGreat.Abs

set_option linter.unusedSimpArgs false
set_option linter.unusedVariables false
set_option maxHeartbeats 1000000

abbrev bc (p : List UInt8 × T) : List A := [sv p.1, sv p.2.name, .sl 2 (p.2.args.map tcells)]
abbrev sbs (u : List (List UInt8 × T)) : A := .sl 3 (u.map bc)
abbrev sb (u : List (List UInt8 × T)) : A := .agg [sbs u]
theorem pLoadN_bc (p : List UInt8 × T) : pLoadN 3 (.elt (bc p) 0) = some (.agg [sv p.1, sv p.2.name, .sl 2 (p.2.args.map tcells)]) := rfl
theorem pLoadN_bc1 (p : List UInt8 × T) : pLoadN 2 (.elt (bc p) 1) = some (tm p.2) := rfl
theorem pLoadP_bc (p : List UInt8 × T) : pLoadP (.elt (bc p) 0) = some (sv p.1) := rfl
theorem pAdd_bc (p : List UInt8 × T) (n : Nat) : pAdd (.elt (bc p) 0) n = some (.elt (bc p) n) := by rw [pAdd_elt, Nat.zero_add]

theorem anyAtom_eq (t : T) (hs : tsz t ≤ 1048576) : ∃ b, G 45 [tm t] = some (vb b, []) := by
  have hw := twf_le t hs
  by_cases he : t.name = [61]
  · exact ⟨_, l2Atom_eqn t hw hs he⟩
  · have e1 := l2Symbol_eq t.name ((twf_eq t).1 hw).1
    have e2 := l2Good_eq t hw hs
    rw [g45]
    cases h : symN t.name <;> rw [h] at e1
    · exact ⟨_, by simp -implicitDefEqProofs only [evs, Nat.reduceAdd, reduceIte, he, e1, Bool.false_and]; rfl⟩
    · exact ⟨_, by simp -implicitDefEqProofs only [evs, Nat.reduceAdd, reduceIte, he, e1, e2, Bool.true_and]; rfl⟩
theorem any_eq (t : T) (hs : tsz t ≤ 1048576) : ∃ b, G 20 [tm t] = some (vb b, []) := by
  obtain ⟨b, e1⟩ := anyAtom_eq t hs
  have e2 := l2Good_eq t (twf_le t hs) hs
  rw [g20]
  cases h : validT t <;> rw [h] at e2
  · exact ⟨_, by simp -implicitDefEqProofs only [evs, Nat.reduceAdd, reduceIte, e1, e2]; rfl⟩
  · exact ⟨_, by simp -implicitDefEqProofs only [evs, Nat.reduceAdd, reduceIte, e1, e2]; rfl⟩
/-- A substitution as it is drawn: of a small size. -/
def Sz (z : Nat) (u : List (List UInt8 × T)) : Prop := u.length ≤ z ∧ ∀ p ∈ u, p.1.length ≤ z ∧ tsz p.2 ≤ z
theorem l4Good_eq (u : List (List UInt8 × T)) (hu : Sz 1048576 u) : ∃ b, G 19 [sb u] = some (vb b, []) := by
  have key := upto (P := fun i => ∃ b, L19_0 (vi i) (sbs u) = some (vb b, [])) (n := u.length) ?_ ?_ 0 (Nat.zero_le _)
  · rw [g19]
    exact key
  · rw [l19_0]
    exact ⟨_, by simp -implicitDefEqProofs only [evs, Nat.reduceAdd, reduceIte, ]; rfl⟩
  · intro i hi ih
    obtain ⟨b, ih⟩ := ih
    have hl := hu.1
    have hlt : (i : Int) < ((u.length : Nat) : Int) := by omega
    have h5 := add_one hi (by show u.length ≤ 9223372036854775807; omega)
    have hm : u[i] ∈ u := List.getElem_mem _
    obtain ⟨z1, z2⟩ := hu.2 _ hm
    have e1 := l2Var_eq u[i].1 (by show u[i].1.length ≤ 9223372036854775807; omega)
    have e2 := l2Good_eq u[i].2 (twf_le _ z2) z2
    rw [l19_0]
    cases hv : varN u[i].1 <;> rw [hv] at e1
    · exact ⟨_, by simp -implicitDefEqProofs only [evs, Nat.reduceAdd, reduceIte, hlt, pIndexAddr_map hi, pLoadN_bc, e1]; rfl⟩
    cases hk : validT u[i].2 <;> rw [hk] at e2
    · exact ⟨_, by simp -implicitDefEqProofs only [evs, Nat.reduceAdd, reduceIte, hlt, pIndexAddr_map hi, pLoadN_bc, e1, e2]; rfl⟩
    by_cases hn : u[i].2.name = u[i].1
    · have hn := decide_eq_true hn
      exact ⟨_, by simp -implicitDefEqProofs only [evs, Nat.reduceAdd, reduceIte, hlt, pIndexAddr_map hi, pLoadN_bc, e1, e2, hn]; rfl⟩
    by_cases h0 : (0 : Int) < (i : Int)
    · have hi' : i - 1 < u.length := by omega
      have h6 : ck ((i : Int) - 1) = some (vi ((i - 1 : Nat) : Int)) := by rw [show (i : Int) - 1 = ((i - 1 : Nat) : Int) by omega]; exact ck_le (by omega) (by omega)
      obtain ⟨c, hg⟩ : ∃ c, pBin .geq false (sv u[i-1].1) (sv u[i].1) = some (vb c) := ⟨_, rfl⟩
      cases c
      · exact ⟨_, by simp -implicitDefEqProofs only [evs, Nat.reduceAdd, reduceIte, hlt, pIndexAddr_map hi, pIndexAddr_map hi', pLoadN_bc, pAdd_bc, pLoadP_bc, e1, e2, hn, h0, h6, hg, h5, ih]; rfl⟩
      · exact ⟨_, by simp -implicitDefEqProofs only [evs, Nat.reduceAdd, reduceIte, hlt, pIndexAddr_map hi, pIndexAddr_map hi', pLoadN_bc, pAdd_bc, pLoadP_bc, e1, e2, hn, h0, h6, hg, h5, ih]; rfl⟩
    · exact ⟨b, by simp -implicitDefEqProofs only [evs, Nat.reduceAdd, reduceIte, hlt, pIndexAddr_map hi, pLoadN_bc, e1, e2, hn, h0, h5, ih]⟩
theorem l4Find_eq (u : List (List UInt8 × T)) (hl : u.length ≤ 1048576) (n : List UInt8) : (look u n = none ∧ G 46 [sb u, sv n] = some (vi (-1), [])) ∨ ∃ k, ∃ h : k < u.length, look u n = some u[k].2 ∧ G 46 [sb u, sv n] = some (vi (k : Nat), []) := by
  have key := upto (P := fun i => (look (u.drop i) n = none ∧ L46_0 (sv n) (vi i) (sbs u) = some (vi (-1), [])) ∨ ∃ k, ∃ h : k < u.length, look (u.drop i) n = some u[k].2 ∧ L46_0 (sv n) (vi i) (sbs u) = some (vi (k : Nat), [])) (n := u.length) ?_ ?_ 0 (Nat.zero_le _)
  · rw [g46]
    exact key
  · left
    rw [List.drop_length, l46_0]
    exact ⟨rfl, by simp -implicitDefEqProofs only [evs, Nat.reduceAdd, reduceIte, ]⟩
  · intro i hi ih
    have hlt : (i : Int) < ((u.length : Nat) : Int) := by omega
    have h5 := add_one hi (by show u.length ≤ 9223372036854775807; omega)
    rw [l46_0, drop_cons hi, look]
    by_cases he : u[i].1 = n
    · right
      rw [if_pos he]
      exact ⟨i, hi, rfl, by simp -implicitDefEqProofs only [evs, Nat.reduceAdd, reduceIte, hlt, pIndexAddr_map hi, pAdd_bc, pLoadP_bc, he]⟩
    · rw [if_neg he]
      rcases ih with ⟨h1, h2⟩ | ⟨k, hk, h1, h2⟩
      · left
        exact ⟨h1, by simp -implicitDefEqProofs only [evs, Nat.reduceAdd, reduceIte, hlt, pIndexAddr_map hi, pAdd_bc, pLoadP_bc, he, h5, h2]⟩
      · right
        exact ⟨k, hk, h1, by simp -implicitDefEqProofs only [evs, Nat.reduceAdd, reduceIte, hlt, pIndexAddr_map hi, pAdd_bc, pLoadP_bc, he, h5, h2]⟩
theorem l4Apply_eq (u : List (List UInt8 × T)) (hu : Sz 1048576 u) (t : T) : tsz t ≤ 1048576 → G 21 [sb u, tm t] = some (tm (sub u t), []) := by
  refine T.ind (p := fun t => tsz t ≤ 1048576 → G 21 [sb u, tm t] = some (tm (sub u t), [])) ?_ t
  intro t ih hs
  have h := hs
  rw [tsz_eq] at h
  have e1 := l2Var_eq t.name (by show t.name.length ≤ 9223372036854775807; omega)
  rw [g21]
  cases hv : varN t.name <;> rw [hv] at e1
  · have key := (upto (P := fun i => L21_0 (vi i) (sbs u) (sv t.name) (tms t.args) (sv []) (sv t.name) [] (((t.args.map (sub u)).take i).map tcells) = some (tm (sub u t), [])) (n := t.args.length) ?_ ?_ 0 (Nat.zero_le _))
    · simp only [Int.natCast_zero, List.take_zero, List.map_nil] at key
      simp -implicitDefEqProofs only [evs, Nat.reduceAdd, reduceIte, e1, key]
    · rw [l21_0, List.take_of_length_le (by rw [List.length_map]; omega), sub_fun hv]
      simp -implicitDefEqProofs only [evs, Nat.reduceAdd, reduceIte, ]
      rfl
    · intro i hi ih'
      have hlt : (i : Int) < ((t.args.length : Nat) : Int) := by omega
      have h5 := add_one hi (by show t.args.length ≤ 9223372036854775807; omega)
      have e2 := ih t.args[i] (List.getElem_mem _) (by have := tsz_mem (List.getElem_mem hi); omega)
      have hf : pFit (i + 1) 40 = true := pF40 (by omega)
      have hi2 : i < (t.args.map (sub u)).length := by rw [List.length_map]; exact hi
      have hl : (((t.args.map (sub u)).take i).map tcells).length = i := by rw [List.length_map, List.length_take, List.length_map]; omega
      have ha : rApp (((t.args.map (sub u)).take i).map tcells) [[sv (sub u t.args[i]).name, tms (sub u t.args[i]).args]] = ((t.args.map (sub u)).take (i + 1)).map tcells := by
        rw [show [sv (sub u t.args[i]).name, tms (sub u t.args[i]).args] = tcells (sub u t.args[i]) from (tcells_eq _).symm, List.take_add_one, List.getElem?_eq_getElem hi2, List.map_append, List.getElem_map]
        rfl
      generalize ((t.args.map (sub u)).take i).map tcells = R at *
      rw [l21_0]
      simp -implicitDefEqProofs only [evs, Nat.reduceAdd, reduceIte, hlt, pIndexAddr_map hi, pLoadN_tcells, e2, hl, hf, ha, h5, ih']
  · rw [sub_var hv, sub1]
    rcases l4Find_eq u hu.1 t.name with ⟨h1, h2⟩ | ⟨k, hk, h1, h2⟩
    · rw [h1]
      simp -implicitDefEqProofs only [evs, Nat.reduceAdd, reduceIte, e1, h2]
      rfl
    · rw [h1]
      have hm := hu.2 _ (List.getElem_mem hk)
      have e3 := own_eq u[k].2 hm.2
      have hk0 : (0 : Int) ≤ ((k : Nat) : Int) := by omega
      simp -implicitDefEqProofs only [evs, Nat.reduceAdd, reduceIte, e1, h2, hk0, pIndexAddr_map hk, pAdd_bc, pLoadN_bc1, e3, Option.getD_some]
theorem look_mem : ∀ {u : List (List UInt8 × T)} {n : List UInt8} {r : T}, look u n = some r → ∃ p ∈ u, p.2 = r
  | p :: u, n, r, h => by
    rw [look] at h
    by_cases e : p.1 = n
    · rw [if_pos e] at h
      cases h
      exact ⟨p, by simp, rfl⟩
    · rw [if_neg e] at h
      obtain ⟨q, hq, h⟩ := look_mem h
      exact ⟨q, by simp [hq], h⟩
theorem sub_size {u : List (List UInt8 × T)} {Z : Nat} (hZ : 1 ≤ Z) (hu : ∀ p ∈ u, tsz p.2 ≤ Z) : ∀ t : T, tsz (sub u t) ≤ tsz t * Z := by
  refine T.ind fun t ih => ?_
  have hmul : ∀ n : Nat, n ≤ n * Z := fun n => Nat.le_mul_of_pos_right n hZ
  cases hv : varN t.name
  · have hL : ∀ ts : List T, (∀ v ∈ ts, tsz (sub u v) ≤ tsz v * Z) → tszL (ts.map (sub u)) ≤ tszL ts * Z := by
      intro ts
      induction ts with
      | nil => intro _; simp [tszL]
      | cons v vs ih2 =>
        intro h
        have h1 := h v (by simp)
        have h2 := ih2 fun w hw => h w (by simp [hw])
        simp only [List.map_cons, tszL, Nat.add_mul]
        omega
    have h1 := hL t.args ih
    have h2 := hmul t.name.length
    have h3 := hmul t.args.length
    rw [tsz_eq t, tsz_eq (sub u t), sub_name hv, sub_args hv, List.length_map, Nat.add_mul, Nat.add_mul]
    omega
  · rw [sub_var hv, sub1]
    have h1 : 1 ≤ t.name.length := by
      cases hn : t.name with
      | nil => rw [hn] at hv; cases hv
      | cons c r => simp
    have h2 := tsz_eq t
    cases hlk : look u t.name with
    | none =>
      have := hmul t.name.length
      show tsz (.mk t.name []) ≤ _
      rw [tsz_mk, h2, Nat.add_mul, Nat.add_mul]
      simp only [List.length_nil, tszL]
      omega
    | some r =>
      obtain ⟨p, hp, rfl⟩ := look_mem hlk
      have h3 := hu p hp
      show tsz p.2 ≤ _
      have h4 : 1 * Z ≤ tsz t * Z := Nat.mul_le_mul_right Z (by omega)
      omega
theorem apply_eq (u : List (List UInt8 × T)) (hu : Sz 1000 u) (t : T) (hs : tsz t ≤ 1000) : ∃ r b, tsz r ≤ 1048576 ∧ G 8 [sb u, tm t] = some (.tup [tm r, vb b], []) ∧ (b = true → r = sub u t) := by
  have hu' : Sz 1048576 u := ⟨by have := hu.1; omega, fun p hp => by have := hu.2 p hp; omega⟩
  obtain ⟨b1, e1⟩ := l4Good_eq u hu'
  obtain ⟨b2, e2⟩ := any_eq t (by omega)
  have e3 := l4Apply_eq u hu' t (by omega)
  have hz := sub_size (u := u) (Z := 1000) (by decide) (fun p hp => (hu.2 p hp).2) t
  have hz' : tsz (sub u t) ≤ 1048576 := by omega
  obtain ⟨b3, e4⟩ := any_eq (sub u t) hz'
  rw [g8]
  cases b1
  · exact ⟨.mk [] [], false, by simp [tsz, tszL], by simp -implicitDefEqProofs only [evs, Nat.reduceAdd, reduceIte, e1]; rfl, fun h => by cases h⟩
  cases b2
  · exact ⟨.mk [] [], false, by simp [tsz, tszL], by simp -implicitDefEqProofs only [evs, Nat.reduceAdd, reduceIte, e1, e2]; rfl, fun h => by cases h⟩
  cases b3
  · exact ⟨.mk [] [], false, by simp [tsz, tszL], by simp -implicitDefEqProofs only [evs, Nat.reduceAdd, reduceIte, e1, e2, e3, e4]; rfl, fun h => by cases h⟩
  · exact ⟨sub u t, true, hz', by simp -implicitDefEqProofs only [evs, Nat.reduceAdd, reduceIte, e1, e2, e3, e4], fun _ => rfl⟩
end Go.Proofs.YtbikhinddomhpaaGreat
