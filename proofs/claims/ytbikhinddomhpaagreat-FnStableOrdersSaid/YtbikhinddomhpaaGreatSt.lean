/- GREATER TERMS REMAIN GREATER: the law FnStableOrders. -/
import Derived.Test.YtbikhinddomhpaaGreatDt
namespace Go.Proofs.YtbikhinddomhpaaGreat
open Go Go.RowKit Go.Proofs.YtbikhinddomhpaaGreat.Abs

set_option linter.unusedSimpArgs false
set_option linter.unusedVariables false
set_option maxHeartbeats 1000000

theorem cut5_eq {code : List Int} (hb : By code) : ∃ c, By c ∧ G 7 [bts code, vi 5] = some (bts c, []) := by
  have oy : ∀ n : Int, okA (vy n) = true := fun _ => rfl
  have key : ∀ m : Nat, m ≤ 9 → m ≤ code.length → pSlice 1 (bts code) (some (vi (m : Nat))) none = some (bts (code.drop m)) ∧ pConv .u8 (vi ((m : Nat) : Int)) = some (vy (m : Nat)) ∧ pFit (code.drop m).length 1 = true ∧ pFit ((code.drop m).length + 1) 1 = true ∧ rApp ((code.drop m).map cy) [[vy (m : Nat)]] = (code.drop m ++ [(m : Int)]).map cy := by
    intro m hm hl
    have := hb.2
    refine ⟨by rw [pSlice_drop (by simp; omega), ← List.map_drop], conv_small ⟨m, by omega⟩, pF1 (by rw [List.length_drop]; omega), pF1 (by rw [List.length_drop]; omega), ?_⟩
    rw [List.map_append]
    rfl
  rw [g7]
  by_cases h : code.length < 5
  · obtain ⟨k1, k2, k3, k4, k5⟩ := key code.length (by omega) (Nat.le_refl _)
    have h' : ((code.length : Nat) : Int) < 5 := by omega
    refine ⟨code.drop code.length ++ [(code.length : Int)], cut_by hb _ (by omega) (Nat.le_refl _) (Or.inr (by omega)), ?_⟩
    simp -implicitDefEqProofs only [evs, Nat.reduceAdd, reduceIte, h', k1, k2, k3, k4, k5, oy]
  · obtain ⟨k1, k2, k3, k4, k5⟩ := key 5 (by omega) (by omega)
    have h' : ¬ ((code.length : Nat) : Int) < 5 := by omega
    have k1 : pSlice 1 (bts code) (some (vi 5)) none = some (bts (code.drop 5)) := k1
    have k2 : pConv .u8 (vi 5) = some (vy 5) := k2
    have k5 : rApp ((code.drop 5).map cy) [[vy 5]] = (code.drop 5 ++ [5]).map cy := k5
    refine ⟨code.drop 5 ++ [5], cut_by hb 5 (by omega) (by omega) (Or.inl (by omega)), ?_⟩
    simp -implicitDefEqProofs only [evs, Nat.reduceAdd, reduceIte, h', k1, k2, k3, k4, k5, oy]
theorem kc_sub {o : Ord'} {u : List (List UInt8 × T)} {s t : T} (h1 : vv o s t = true) (h2 : vv o (sub u s) (sub u t) = true) (h : kc o s t = 2) : kc o (sub u s) (sub u t) = 2 := by
  unfold kc at h ⊢
  rw [h1] at h
  rw [h2]
  exact (kbo_two _ _ _).2 (Kp_sub (vv_spec h1).1 u _ s t (Nat.le_refl _) (good_spec (vv_spec h1).2.1).1 (good_spec (vv_spec h1).2.2).1 (good_spec (vv_spec h2).2.1).2.1 ((kbo_two o s t).1 h))
theorem lc_sub {o : Ord'} {u : List (List UInt8 × T)} {s t : T} (h1 : vv o s t = true) (h2 : vv o (sub u s) (sub u t) = true) (h : lc o s t = 2) : lc o (sub u s) (sub u t) = 2 := by
  unfold lc at h ⊢
  rw [h1] at h
  rw [h2]
  exact (lpo_two _ _ _).2 (Lp_sub u _ s t (Nat.le_refl _) ((lpo_two o s t).1 h))

theorem stable_law (code : List Int) (hb : (∀ n ∈ code, 0 ≤ n ∧ n ≤ 255) ∧ code.length ≤ 9223372036854775807) : G 3 [bts code] = some (vb true, []) := by
  by_cases hbig : code.length ≤ 65536
  rotate_left
  · have h : (65536 : Int) < ((code.length : Nat) : Int) := by omega
    have e0 : G 4 [bts code] = some (vb true, []) := by rw [g4]; simp -implicitDefEqProofs only [evs, Nat.reduceAdd, reduceIte, h]
    rw [g3]
    simp -implicitDefEqProofs only [evs, Nat.reduceAdd, reduceIte, e0]
  have h : ¬ (65536 : Int) < ((code.length : Nat) : Int) := by omega
  have e0 : G 4 [bts code] = some (vb false, []) := by rw [g4]; simp -implicitDefEqProofs only [evs, Nat.reduceAdd, reduceIte, h]
  have hb : By code := ⟨hb.1, hbig⟩
  obtain ⟨o, s, t, ho, hs, ht, e1⟩ := drawKB_eq hb
  obtain ⟨c, hc, e2⟩ := cut5_eq hb
  obtain ⟨u, w, hu, e3⟩ := drawAS_eq hc
  obtain ⟨r1, b1, z1, e4, f1⟩ := apply_eq u hu s hs
  obtain ⟨r2, b2, z2, e5, f2⟩ := apply_eq u hu t ht
  have cK : ∀ s t : T, tsz s ≤ 1048576 → tsz t ≤ 1048576 → G 9 [od o, tm s, tm t] = some (.tup [vi (kc o s t), vb (vv o s t)], []) := fun s t hs ht => by
    rw [impl_compareKBO o s t ho (twf_le s hs) hs (twf_le t ht) ht, kbo_tup]
  have cS : ∀ s t : T, tsz s ≤ 1048576 → tsz t ≤ 1048576 → G 11 [od o, tm s, tm t] = some (.tup [vi (kc o s t), vb (vv o s t)], []) := fun s t hs ht => by
    rw [spec_compareKBO o s t ho (twf_le s hs) hs (twf_le t ht) ht, kbo_tup]
  have cL : ∀ s t : T, tsz s ≤ 1048576 → tsz t ≤ 1048576 → G 10 [od o, tm s, tm t] = some (.tup [vi (lc o s t), vb (vv o s t)], []) := fun s t hs ht => by
    rw [impl_compareLPO o s t ho (twf_le s hs) hs (twf_le t ht) ht, lpo_tup]
  have k1 := cK s t (by omega) (by omega)
  have k2 := cL s t (by omega) (by omega)
  have k3 := cS s t (by omega) (by omega)
  have k4 := cK r1 r2 z1 z2
  have k5 := cL r1 r2 z1 z2
  have k6 := cS r1 r2 z1 z2
  rw [g3]
  cases hv1 : vv o s t <;> rw [hv1] at k1 k2 k3
  · simp -implicitDefEqProofs only [evs, Nat.reduceAdd, reduceIte, e0, e1, e2, e3, e4, e5, k1, k2, k3]
  cases b1
  · simp -implicitDefEqProofs only [evs, Nat.reduceAdd, reduceIte, e0, e1, e2, e3, e4, e5, k1, k2, k3]
  cases b2
  · simp -implicitDefEqProofs only [evs, Nat.reduceAdd, reduceIte, e0, e1, e2, e3, e4, e5, k1, k2, k3]
  cases hv2 : vv o r1 r2 <;> rw [hv2] at k4 k5 k6
  · simp -implicitDefEqProofs only [evs, Nat.reduceAdd, reduceIte, e0, e1, e2, e3, e4, e5, k1, k2, k3, k4, k5, k6]
  have g1 : kc o s t = 2 → kc o r1 r2 = 2 := fun h => by
    rw [f1 rfl, f2 rfl] at hv2 ⊢
    exact kc_sub hv1 hv2 h
  have g2 : lc o s t = 2 → lc o r1 r2 = 2 := fun h => by
    rw [f1 rfl, f2 rfl] at hv2 ⊢
    exact lc_sub hv1 hv2 h
  generalize kc o s t = a1 at *
  generalize kc o r1 r2 = a2 at *
  generalize lc o s t = c1 at *
  generalize lc o r1 r2 = c2 at *
  by_cases h1 : a1 = 2
  · have h2 := g1 h1
    subst h1
    subst h2
    by_cases h3 : c1 = 2
    · have h4 := g2 h3
      subst h3
      subst h4
      simp -implicitDefEqProofs only [evs, Nat.reduceAdd, reduceIte, e0, e1, e2, e3, e4, e5, k1, k2, k3, k4, k5, k6]
    · simp -implicitDefEqProofs only [evs, Nat.reduceAdd, reduceIte, e0, e1, e2, e3, e4, e5, k1, k2, k3, k4, k5, k6, h3]
  · by_cases h3 : c1 = 2
    · have h4 := g2 h3
      subst h3
      subst h4
      simp -implicitDefEqProofs only [evs, Nat.reduceAdd, reduceIte, e0, e1, e2, e3, e4, e5, k1, k2, k3, k4, k5, k6, h1]
    · simp -implicitDefEqProofs only [evs, Nat.reduceAdd, reduceIte, e0, e1, e2, e3, e4, e5, k1, k2, k3, k4, k5, k6, h1, h3]
end Go.Proofs.YtbikhinddomhpaaGreat
