/- DRAWS FROM BYTES: whatever the bytes are, something of the right form comes. -/
import Derived.Test.YtbikhinddomhpaaGreatFd
import Derived.Test.YtbikhinddomhpaaGreatQa
namespace Go.Proofs.YtbikhinddomhpaaGreat
open Go Go.RowKit Go.Proofs.YtbikhinddomhpaaGreat.Abs

set_option linter.unusedSimpArgs false
set_option linter.unusedVariables false
set_option maxHeartbeats 1000000

abbrev cy (n : Int) : List A := [vy n]
abbrev bts (l : List Int) : A := .sl 1 (l.map cy)
abbrev vu (n : Int) : A := .val (.int .u64 n)
def By (l : List Int) : Prop := (∀ n ∈ l, 0 ≤ n ∧ n ≤ 255) ∧ l.length ≤ 65536

theorem hR_4 (a x0 x1 x2 x3 : A) (us : List T) (l : List A) : hR 2 (a, x0 :: x1 :: x2 :: x3 :: tms us :: l) 4 = some (us.map tcells) := by simp [hR, tms]
set_option maxRecDepth 100000 in
theorem wrap_255 : ∀ n : Fin 256, IntKind.u64.wrap ((n.val : Nat) : Int) = ((n.val : Nat) : Int) := by decide
theorem pU_mul (x y : Int) : pBin .mul false (vu x) (vu y) = some (vu (IntKind.u64.wrap (x * y))) := rfl
theorem pU_add (x y : Int) : pBin .add false (vu x) (vu y) = some (vu (IntKind.u64.wrap (x + y))) := rfl
theorem pU_shr (x : Int) : pBin .shr false (vu x) (vu 40) = some (vu (bitK .shr .u64 x 40)) := by
  show (if (0 : Int) ≤ 40 then some (vu (bitK .shr .u64 x 40)) else none) = _
  rw [if_pos (by decide)]
theorem pU_and (x : Int) : pBin .and false (vu x) (vu 255) = some (vu (bitK .and .u64 x 255)) := rfl
theorem and_bound (x : Int) : 0 ≤ bitK .and .u64 x 255 ∧ bitK .and .u64 x 255 ≤ 255 := by
  have h : (BitVec.ofInt 64 x &&& BitVec.ofInt 64 255).toNat ≤ 255 := by
    rw [BitVec.toNat_and]
    have h2 : (BitVec.ofInt 64 255).toNat = 255 := by decide
    rw [h2]
    exact Nat.and_le_right
  show 0 ≤ IntKind.u64.wrap (((BitVec.ofInt 64 x &&& BitVec.ofInt 64 255).toNat : Nat) : Int) ∧ IntKind.u64.wrap (((BitVec.ofInt 64 x &&& BitVec.ofInt 64 255).toNat : Nat) : Int) ≤ 255
  generalize (BitVec.ofInt 64 x &&& BitVec.ofInt 64 255).toNat = m at *
  have := wrap_255 ⟨m, by omega⟩
  simp only at this
  rw [this]
  omega
theorem pC_u64 (k : IntKind) (a : Int) : pConv .u64 (.val (.int k a)) = some (vu (IntKind.u64.wrap a)) := rfl
theorem pC_i64 (k : IntKind) (a : Int) : pConv .i64 (.val (.int k a)) = ck a := rfl
theorem okA_vu (n : Int) : okA (vu n) = true := rfl

section
variable {code : List Int} (hb : By code)
include hb
theorem next_eq (a s : Int) (h0 : 0 ≤ a) (h1 : a ≤ 1000000000) : ∃ s' x, 0 ≤ x ∧ x ≤ 255 ∧ C69_0 (bts code) (vi a) (vu s) = some (.top, [bts code, vi (a + 1), vu s', vi x]) := by
  obtain ⟨k, rfl⟩ : ∃ k : Nat, a = (k : Nat) := ⟨a.toNat, by omega⟩
  have c1 : ck (((k : Nat) : Int) + 1) = some (vi (((k : Nat) : Int) + 1)) := ck_le (by omega) (by omega)
  have hcl := hb.2
  rw [c69_0]
  by_cases hk : k < code.length
  · have hlt : ((k : Nat) : Int) < ((code.length : Nat) : Int) := by omega
    have hle : ((k : Nat) : Int) + 1 ≤ ((code.length : Nat) : Int) := by omega
    have hv := hb.1 code[k] (List.getElem_mem hk)
    have c2 : ck code[k] = some (vi code[k]) := ck_le (by omega) (by omega)
    exact ⟨_, code[k], hv.1, hv.2, by simp -implicitDefEqProofs only [evs, Nat.reduceAdd, reduceIte, hlt, pIndexAddr_map hk, pC_i64, c2, c1, pU_mul, pC_u64, pU_add, okA_vu, hle]; rfl⟩
  · have hlt : ¬ ((k : Nat) : Int) < ((code.length : Nat) : Int) := by omega
    have hle : ¬ ((k : Nat) : Int) + 1 ≤ ((code.length : Nat) : Int) := by omega
    generalize hz : IntKind.u64.wrap (IntKind.u64.wrap (IntKind.u64.wrap (s * 6364136223846793005) + IntKind.u64.wrap 0) + 892892) = z
    have hbd := and_bound (bitK .shr .u64 z 40)
    have c2 : ck (bitK .and .u64 (bitK .shr .u64 z 40) 255) = some (vi (bitK .and .u64 (bitK .shr .u64 z 40) 255)) := ck_le (by omega) (by omega)
    exact ⟨z, _, hbd.1, hbd.2, by simp -implicitDefEqProofs only [evs, Nat.reduceAdd, reduceIte, hlt, c1, pU_mul, pC_u64, pU_add, hz, okA_vu, hle, pU_shr, pU_and, pC_i64, c2]⟩
omit hb in
theorem pRem {x n : Int} (h0 : 0 ≤ x) (hn : 1 ≤ n) : pBin .rem false (vi x) (vi n) = some (vi (x % n)) := by
  show (if n = 0 then none else some (vi (x.tmod n))) = _
  rw [if_neg (by omega), Int.tmod_eq_emod_of_nonneg h0]
theorem pick_eq (n : Int) (hn : 1 ≤ n) (hn' : n ≤ 200) (a s : Int) (h0 : 0 ≤ a) (h1 : a ≤ 1000000000) : ∃ a' s' x, a ≤ a' ∧ a' ≤ a + 1 ∧ 0 ≤ x ∧ x < n ∧ C34_0 (vi n) (bts code) (vi a) (vu s) = some (.top, [bts code, vi a', vu s', vi x]) := by
  rw [c34_0]
  by_cases h : n ≤ 1
  · exact ⟨a, s, 0, by omega, by omega, by omega, by omega, by simp -implicitDefEqProofs only [evs, Nat.reduceAdd, reduceIte, h]⟩
  · obtain ⟨s', x, x0, x1, e⟩ := next_eq hb a s h0 h1
    have e2 := pRem x0 hn
    have hg : ¬ (200 : Int) < n := by omega
    refine ⟨a + 1, s', x % n, by omega, by omega, Int.emod_nonneg _ (by omega), Int.emod_lt_of_pos _ (by omega), ?_⟩
    simp -implicitDefEqProofs only [evs, Nat.reduceAdd, reduceIte, h, e, List.getElem?_cons_zero, List.getElem?_cons_succ, hg, e2, hR_4]
theorem one_eq (n : Int) (hn : 1 ≤ n) (hn' : n ≤ 200) (a s : Int) (h0 : 0 ≤ a) (h1 : a ≤ 1000000000) : ∃ a' s' b, a ≤ a' ∧ a' ≤ a + 1 ∧ C15_0 (vi n) (bts code) (vi a) (vu s) = some (.top, [bts code, vi a', vu s', vb b]) := by
  obtain ⟨a', s', x, q1, q2, _, _, e⟩ := pick_eq hb n hn hn' a s h0 h1
  refine ⟨a', s', decide (x = 0), q1, q2, ?_⟩
  rw [c15_0]
  simp -implicitDefEqProofs only [evs, Nat.reduceAdd, reduceIte, e, List.getElem?_cons_zero, List.getElem?_cons_succ, hR_4]
theorem of_eq (l : List (List UInt8)) (hn : 1 ≤ l.length) (hn' : l.length ≤ 200) (a s : Int) (h0 : 0 ≤ a) (h1 : a ≤ 1000000000) : ∃ a' s' w, w ∈ l ∧ a ≤ a' ∧ a' ≤ a + 1 ∧ C36_0 (bts code) (vi a) (vu s) (l.map cs) = some (.top, [bts code, vi a', vu s', sv w]) := by
  obtain ⟨a', s', x, q1, q2, x0, x1, e⟩ := pick_eq hb ((l.length : Nat) : Int) (by omega) (by omega) a s h0 h1
  obtain ⟨i, rfl⟩ : ∃ i : Nat, x = (i : Nat) := ⟨x.toNat, by omega⟩
  have hi : i < l.length := by omega
  have e1 : pIx l.length (vi ((i : Nat) : Int)) = some i := pIx_lt hi
  have e2 : pRowP (l.map cs) i 0 = some (sv l[i]) := by unfold pRowP; simp [hi]
  refine ⟨a', s', l[i], List.getElem_mem hi, q1, q2, ?_⟩
  rw [c36_0]
  simp -implicitDefEqProofs only [evs, Nat.reduceAdd, reduceIte, e, List.getElem?_cons_zero, List.getElem?_cons_succ, e1, e2]
theorem among_eq (l : List Int) (hn : 1 ≤ l.length) (hn' : l.length ≤ 200) (a s : Int) (h0 : 0 ≤ a) (h1 : a ≤ 1000000000) : ∃ a' s' w, w ∈ l ∧ a ≤ a' ∧ a' ≤ a + 1 ∧ C35_0 (bts code) (vi a) (vu s) (l.map ci) = some (.top, [bts code, vi a', vu s', vi w]) := by
  obtain ⟨a', s', x, q1, q2, x0, x1, e⟩ := pick_eq hb ((l.length : Nat) : Int) (by omega) (by omega) a s h0 h1
  obtain ⟨i, rfl⟩ : ∃ i : Nat, x = (i : Nat) := ⟨x.toNat, by omega⟩
  have hi : i < l.length := by omega
  have e1 : pIx l.length (vi ((i : Nat) : Int)) = some i := pIx_lt hi
  have e2 : pRowP (l.map ci) i 0 = some (vi l[i]) := by unfold pRowP; simp [hi]
  refine ⟨a', s', l[i], List.getElem_mem hi, q1, q2, ?_⟩
  rw [c35_0]
  simp -implicitDefEqProofs only [evs, Nat.reduceAdd, reduceIte, e, List.getElem?_cons_zero, List.getElem?_cons_succ, e1, e2]
end

theorem tms1 (t : T) : tms [t] = .sl 2 [[sv t.name, .sl 2 (t.args.map tcells)]] := by
  show A.sl 2 [tcells t] = _
  rw [tcells_eq]
theorem tms2 (t u : T) : tms [t, u] = .sl 2 [[sv t.name, .sl 2 (t.args.map tcells)], [sv u.name, .sl 2 (u.args.map tcells)]] := by
  show A.sl 2 [tcells t, tcells u] = _
  rw [tcells_eq, tcells_eq]
theorem tms0 : tms [] = .sl 2 [] := rfl
theorem tsz_mk (n : List UInt8) (us : List T) : tsz (.mk n us) = n.length + us.length + tszL us := rfl
/-- A term that a draw gives: its size, and how far the draw went. -/
def TD (code : List Int) (z q : Nat) (a : Int) (o : Option Out) : Prop := ∃ a' s' t, a ≤ a' ∧ a' ≤ a + (q : Nat) ∧ tsz t ≤ z ∧ o = some (.top, [bts code, vi a', vu s', sv (T.name t), tms (T.args t)])

section
variable {code : List Int} (hb : By code)
include hb
theorem leaf_eq (l : List (List UInt8)) (hn : 1 ≤ l.length) (hn' : l.length ≤ 200) (hl : ∀ w ∈ l, w.length ≤ 1) (a s : Int) (h0 : 0 ≤ a) (h1 : a ≤ 1000000000) :
    ∃ a' s' w, w.length ≤ 1 ∧ a ≤ a' ∧ a' ≤ a + 1 ∧ C36_0 (bts code) (vi a) (vu s) (l.map cs) = some (.top, [bts code, vi a', vu s', sv w]) := by
  obtain ⟨a', s', w, hw, q1, q2, e⟩ := of_eq hb l hn hn' a s h0 h1
  exact ⟨a', s', w, hl w hw, q1, q2, e⟩
theorem grown_eq : ∀ (d : Nat), d ≤ 100 → ∀ (dep : Int), dep ≤ (d : Nat) → -1000 ≤ dep → ∀ (a s : Int), 0 ≤ a → a + ((3 * 4 ^ d : Nat) : Int) ≤ 1000000000 → TD code (3 * 4 ^ d) (3 * 4 ^ d) a (C16_0 (vi dep) (bts code) (vi a) (vu s)) := by
  have base : ∀ (d : Nat) (dep : Int), dep ≤ 1 → ∀ (a s : Int), 0 ≤ a → a + ((3 * 4 ^ d : Nat) : Int) ≤ 1000000000 → TD code (3 * 4 ^ d) (3 * 4 ^ d) a (C16_0 (vi dep) (bts code) (vi a) (vu s)) := by
    intro d dep hd a s h0 h1
    have hp : 1 ≤ 4 ^ d := Nat.pos_of_ne_zero (by simp)
    obtain ⟨a1, s1, w, hw, q1, q2, e⟩ := leaf_eq hb [[88], [89], [90], [97], [98], [88], [97]] (by decide) (by decide) (by decide) a s h0 (by omega)
    have e : C36_0 (bts code) (vi a) (vu s) [[sv [88]], [sv [89]], [sv [90]], [sv [97]], [sv [98]], [sv [88]], [sv [97]]] = some (.top, [bts code, vi a1, vu s1, sv w]) := e
    refine ⟨a1, s1, .mk w [], q1, by omega, by rw [tsz_mk]; simp [tszL]; omega, ?_⟩
    rw [c16_0]
    simp -implicitDefEqProofs only [evs, Nat.reduceAdd, reduceIte, hd, e, List.getElem?_cons_zero, List.getElem?_cons_succ, hR_4]
    rfl
  intro d
  induction d with
  | zero => intro _ dep hd _ a s h0 h1; exact base 0 dep (by omega) a s h0 h1
  | succ d ih =>
    intro hdd dep hd hd' a s h0 h1
    by_cases hle : dep ≤ 1
    · exact base (d + 1) dep hle a s h0 h1
    have hp : 1 ≤ 4 ^ d := Nat.pos_of_ne_zero (by simp)
    rw [Nat.pow_succ] at h1 ⊢
    generalize 4 ^ d = P at *
    obtain ⟨a1, s1, b1, q1, q2, e1⟩ := one_eq hb 3 (by decide) (by decide) a s h0 (by omega)
    cases b1 with
    | true =>
      obtain ⟨a2, s2, w, hw, r1, r2, e⟩ := leaf_eq hb [[88], [89], [90], [97], [98], [88], [97]] (by decide) (by decide) (by decide) a1 s1 (by omega) (by omega)
      have e : C36_0 (bts code) (vi a1) (vu s1) [[sv [88]], [sv [89]], [sv [90]], [sv [97]], [sv [98]], [sv [88]], [sv [97]]] = some (.top, [bts code, vi a2, vu s2, sv w]) := e
      refine ⟨a2, s2, .mk w [], by omega, by omega, by rw [tsz_mk]; simp [tszL]; omega, ?_⟩
      rw [c16_0]
      simp -implicitDefEqProofs only [evs, Nat.reduceAdd, reduceIte, hle, e1, e, List.getElem?_cons_zero, List.getElem?_cons_succ, hR_4]
      rfl
    | false =>
      obtain ⟨a2, s2, b2, r1, r2, e2⟩ := one_eq hb 2 (by decide) (by decide) a1 s1 (by omega) (by omega)
      have c1 : ck (dep - 1) = some (vi (dep - 1)) := ck_le (by omega) (by omega)
      obtain ⟨a3, s3, t3, u1, u2, u3, e3⟩ := ih (by omega) (dep - 1) (by omega) (by omega) a2 s2 (by omega) (by omega)
      cases b2 with
      | true =>
        refine ⟨a3, s3, .mk [102] [t3], by omega, by omega, by rw [tsz_mk]; simp [tszL]; omega, ?_⟩
        rw [c16_0]
        simp -implicitDefEqProofs only [evs, Nat.reduceAdd, reduceIte, hle, e1, e2, c1, e3, List.getElem?_cons_zero, List.getElem?_cons_succ, hR_4]
        rw [← tms1]
        rfl
      | false =>
        obtain ⟨a4, s4, t4, v1, v2, v3, e4⟩ := ih (by omega) (dep - 1) (by omega) (by omega) a3 s3 (by omega) (by omega)
        refine ⟨a4, s4, .mk [103] [t3, t4], by omega, by omega, by rw [tsz_mk]; simp [tszL]; omega, ?_⟩
        rw [c16_0]
        simp -implicitDefEqProofs only [evs, Nat.reduceAdd, reduceIte, hle, e1, e2, c1, e3, e4, List.getElem?_cons_zero, List.getElem?_cons_succ, hR_4]
        rw [← tms2]
        rfl
theorem term_eq (a s : Int) (h0 : 0 ≤ a) (h1 : a ≤ 999999000) : TD code 192 193 a (C37_0 (bts code) (vi a) (vu s)) := by
  obtain ⟨a1, s1, x, q1, q2, x0, x1, e1⟩ := pick_eq hb 3 (by decide) (by decide) a s h0 (by omega)
  have c1 : ck (1 + x) = some (vi (1 + x)) := ck_le (by omega) (by omega)
  obtain ⟨a2, s2, t, r1, r2, r3, e2⟩ := grown_eq hb 3 (by decide) (1 + x) (by omega) (by omega) a1 s1 (by omega) (by omega)
  refine ⟨a2, s2, t, by omega, by omega, r3, ?_⟩
  rw [c37_0]
  simp -implicitDefEqProofs only [evs, Nat.reduceAdd, reduceIte, e1, c1, e2, List.getElem?_cons_zero, List.getElem?_cons_succ, hR_4]
theorem atom_eq (a s : Int) (h0 : 0 ≤ a) (h1 : a ≤ 999990000) : TD code 400 400 a (C42_0 (bts code) (vi a) (vu s)) := by
  obtain ⟨a1, s1, x, q1, q2, x0, x1, e1⟩ := pick_eq hb 8 (by decide) (by decide) a s h0 (by omega)
  obtain ⟨a2, s2, t2, r1, r2, r3, e2⟩ := term_eq hb a1 s1 (by omega) (by omega)
  obtain ⟨a3, s3, t3, u1, u2, u3, e3⟩ := term_eq hb a2 s2 (by omega) (by omega)
  obtain ⟨a4, s4, t4, v1, v2, v3, e4⟩ := grown_eq hb 2 (by decide) 2 (by decide) (by decide) a1 s1 (by omega) (by omega)
  obtain ⟨a5, s5, t5, w1, w2, w3, e5⟩ := grown_eq hb 2 (by decide) 2 (by decide) (by decide) a4 s4 (by omega) (by omega)
  rw [c42_0]
  by_cases y0 : x = 0
  · subst y0
    refine ⟨a3, s3, .mk [61] [t2, t3], by omega, by omega, by rw [tsz_mk]; simp [tszL]; omega, ?_⟩
    simp -implicitDefEqProofs only [evs, Nat.reduceAdd, reduceIte, e1, e2, e3, List.getElem?_cons_zero, List.getElem?_cons_succ, hR_4]
    rw [← tms2]
    rfl
  by_cases y1 : x = 1
  · subst y1
    refine ⟨a3, s3, .mk [61] [t2, t3], by omega, by omega, by rw [tsz_mk]; simp [tszL]; omega, ?_⟩
    simp -implicitDefEqProofs only [evs, Nat.reduceAdd, reduceIte, e1, e2, e3, List.getElem?_cons_zero, List.getElem?_cons_succ, hR_4]
    rw [← tms2]
    rfl
  by_cases y2 : x = 2
  · subst y2
    refine ⟨a1, s1, .mk [114] [], by omega, by omega, by rw [tsz_mk]; simp [tszL], ?_⟩
    simp -implicitDefEqProofs only [evs, Nat.reduceAdd, reduceIte, e1, List.getElem?_cons_zero, List.getElem?_cons_succ, hR_4]
    rfl
  by_cases y3 : x = 3
  · subst y3
    refine ⟨a5, s5, .mk [113] [t4, t5], by omega, by omega, by rw [tsz_mk]; simp [tszL]; omega, ?_⟩
    simp -implicitDefEqProofs only [evs, Nat.reduceAdd, reduceIte, e1, e4, e5, List.getElem?_cons_zero, List.getElem?_cons_succ, hR_4]
    rw [← tms2]
    rfl
  by_cases y4 : x = 4
  · subst y4
    refine ⟨a5, s5, .mk [113] [t4, t5], by omega, by omega, by rw [tsz_mk]; simp [tszL]; omega, ?_⟩
    simp -implicitDefEqProofs only [evs, Nat.reduceAdd, reduceIte, e1, e4, e5, List.getElem?_cons_zero, List.getElem?_cons_succ, hR_4]
    rw [← tms2]
    rfl
  · refine ⟨a4, s4, .mk [112] [t4], by omega, by omega, by rw [tsz_mk]; simp [tszL]; omega, ?_⟩
    simp -implicitDefEqProofs only [evs, Nat.reduceAdd, reduceIte, e1, y0, y1, y2, y3, y4, e4, List.getElem?_cons_zero, List.getElem?_cons_succ, hR_4]
    rw [← tms1]
    rfl
theorem tower_eq (d : Nat) (hd : d ≤ 20) (a s : Int) (h0 : 0 ≤ a) (h1 : a ≤ 999990000) : TD code 60 1 a (C17_0 (vi (d : Nat)) (bts code) (vi a) (vu s)) := by
  obtain ⟨a1, s1, w, hw, q1, q2, e⟩ := leaf_eq hb [[88], [97]] (by decide) (by decide) (by decide) a s h0 (by omega)
  have e : C36_0 (bts code) (vi a) (vu s) [[sv [88]], [sv [97]]] = some (.top, [bts code, vi a1, vu s1, sv w]) := e
  have loop : ∀ (k : Nat) (t : T) (x1 : A) (r0 : List (List A)), k ≤ 20 → ∃ u, tsz u ≤ tsz t + 2 * k ∧ L17c0_0 (vi (k : Nat)) x1 (sv t.name) (bts code) (vi a1) (vu s1) r0 (t.args.map tcells) = some (.top, [bts code, vi a1, vu s1, sv (T.name u), tms (T.args u)]) := by
    intro k
    induction k with
    | zero =>
      intro t x1 r0 _
      refine ⟨t, by omega, ?_⟩
      have h : ¬ (1 : Int) < ((0 : Nat) : Int) := by omega
      rw [l17c0_0]
      simp -implicitDefEqProofs only [evs, Nat.reduceAdd, reduceIte, h]
    | succ k ih =>
      intro t x1 r0 hk
      by_cases h : (1 : Int) < ((k + 1 : Nat) : Int)
      · obtain ⟨u, hu, eu⟩ := ih (.mk [102] [t]) x1 r0 (by omega)
        rw [tsz_mk] at hu
        simp only [List.length_cons, List.length_nil, tszL] at hu
        refine ⟨u, by omega, ?_⟩
        have c1 : ck (((k + 1 : Nat) : Int) - 1) = some (vi (k : Nat)) := by rw [show ((k + 1 : Nat) : Int) - 1 = (k : Nat) by omega]; exact ck_le (by omega) (by omega)
        have eu : L17c0_0 (vi (k : Nat)) x1 (sv [102]) (bts code) (vi a1) (vu s1) r0 [tcells t] = _ := eu
        rw [tcells_eq] at eu
        rw [l17c0_0]
        simp -implicitDefEqProofs only [evs, Nat.reduceAdd, reduceIte, h, c1, eu]
      · refine ⟨t, by omega, ?_⟩
        rw [l17c0_0]
        simp -implicitDefEqProofs only [evs, Nat.reduceAdd, reduceIte, h]
  obtain ⟨u, hu, eu⟩ := loop d (.mk w []) (sv []) [] hd
  rw [tsz_mk] at hu
  simp only [List.length_nil, tszL] at hu
  refine ⟨a1, s1, u, q1, q2, by omega, ?_⟩
  have eu : L17c0_0 (vi (d : Nat)) (sv []) (sv w) (bts code) (vi a1) (vu s1) [] [] = _ := eu
  rw [c17_0]
  simp -implicitDefEqProofs only [evs, Nat.reduceAdd, reduceIte, e, List.getElem?_cons_zero, List.getElem?_cons_succ, eu, hR_4]
end
end Go.Proofs.YtbikhinddomhpaaGreat
