/- MODELS OF CLAUSE SETS: counting, and assignments by number. -/
import Derived.Test.YtgedhnhgkmhgcaaWm
namespace Go.Proofs.Ytgedhnhgkmhgcaa
open Go Go.RowKit Go.Proofs.Ytgedhnhgkmhgcaa.Abs
set_option linter.unusedSimpArgs false
set_option linter.unusedVariables false
set_option maxHeartbeats 4000000
attribute [local simp] slex dlex guardV sval qval vBin vInt2 vInt vStr vBool vUn vLoad rowOkAt vFieldAddr vField vIndexAddr vIndex bound? vSlice vConvert vLen vBuiltin vCall vCallS vBuild vBuildSlice vAppend vStore vMake St.ev liftV putA cellsAt loadA addrAdd TK.known TK.plain cellsOf? okCell Value.oneCell' noIds noIdsL noIdsLL normL normA normC norm1 cellTys partsA fieldSz overA chunk madeA shutA shut1 shutT flat flatL flatLL isAddr srcA srcK Value.cells undef SubL inA_top inA_val inA_emp inA_sl inA_agg inA_elt inA_fn inA_tup inA_ptr inA_row inA_rptr in1_top in1_val in1_emp in1_sl in1_agg in1_elt in1_fn in1_tup in1_ptr in1_row in1_rptr topAll dsts dstsOps upd

/-- The reference's count of models: d variables are free from v on. -/
def countFrom (set : List (List Int)) : Nat → List Int → Int → Int
  | 0, a, _ => if set.any (isFalse a) then 0 else 1
  | d + 1, a, v => if set.any (isFalse a) then 0 else countFrom set d (a ++ [v]) (v + 1) + countFrom set d (a ++ [-v]) (v + 1)

theorem countFrom_range (set : List (List Int)) : ∀ (d : Nat) (a : List Int) (v : Int), 0 ≤ countFrom set d a v ∧ countFrom set d a v ≤ 2 ^ d
  | 0, a, v => by simp only [countFrom]; split <;> simp
  | d + 1, a, v => by
    have h1 := countFrom_range set d (a ++ [v]) (v + 1)
    have h2 := countFrom_range set d (a ++ [-v]) (v + 1)
    have h3 : (0 : Int) < 2 ^ d := Int.pow_pos (by decide)
    simp only [countFrom]
    rw [Int.pow_succ]
    split <;> omega

theorem c_l15Count (set : List (List Int)) (hl : set.length ≤ 1000000000) (hc : ∀ c ∈ set, c.length ≤ 1000000000 ∧ ∀ x ∈ c, I64 (-x)) :
    ∀ (d : Nat) (a : List Int) (v n : Int), d ≤ 40 → a.length + d ≤ 1000 → 0 ≤ v → v ≤ 1000 → n < 1000 → d = (n + 1 - v).toNat → Pure Try.prog 42 [intss set, ints a, vi v, vi n] (vi (countFrom set d a v))
  | 0, a, v, n, hd, hla, hv0, hv1, hn, hdn => by
    have hf := idxFrom_any (isFalse a) 0 set
    (refine Pure.of_walk D [3] Try.func42 (by kernel_rfl) rfl ?_; simp only [frame0, Try.ntmps42, List.length_cons, List.length_nil, List.replicate, Nat.reduceAdd, Nat.reduceSub, List.cons_append, List.nil_append])
    repeat' (first | (with_reducible first | refine AWP.seq ?_ | refine AWP.block ?_ | refine AWP.ret ?_ | refine AWP.skip ?_ | refine AWP.exit ?_ | refine AWP.label ?_ | refine andThen_n ?_ | refine andThen_e ?_ | refine andThen_r ?_ | refine inBlk_n ?_ | refine inBlk_r ?_ | refine inBlk_x ?_ | refine inBlk_e rfl ?_ | refine AWP.regionV tyok ?_ | refine regionD tyok (by kernel_rfl) (by kernel_rfl) ?_ | refine slex_nil ?_ | refine dlex_nil ?_ | (refine slex_step ?_; intro K hK; simp) | (refine dlex_step ?_; intro K hK; simp) | (refine slex_guard rfl rfl ?_; intro Y N hK hN; simp [guardS]) | (refine dlex_guard rfl rfl ?_; intro Y N hK hN; simp [guardS]) | (refine AWP.cond rfl (fun h => ?_) (fun h => ?_) <;> first | (simp at h; done) | (simp at h; try (have h0 : True := h; clear h h0)) | skip) | refine Exists.intro _ (And.intro (c_l15False set a hl (by omega) hc) ?_) | refine Or.inl (Exists.intro _ (And.intro (c_l15False set a hl (by omega) hc) ?_)) | refine And.intro ?_ ?_ | intro h) | contradiction | (with_reducible first | refine Exists.intro _ (And.intro (NegI.ok (by unfold I64; constructor <;> omega)) ?_) | (refine hK _ ?_; clear hK K) | (refine hK _ ?_; clear hK hN Y N) | (refine hN _ ?_; clear hK hN Y N)) | omega | (unfold I64; constructor <;> omega) | (with_reducible refine atEnd_ret tyok rfl ?_; simp [finP, finR, normR, mkRes]) | (with_reducible refine flat_tr ?_; simp) | (with_reducible refine noIdsLL_tr ?_; simp))
    · simp only [countFrom]; rw [← hf, if_pos (by simpa using h)]
    · rename_i h1
      simp only [countFrom]; rw [← hf, if_neg (by simpa using h1)]
  | d + 1, a, v, n, hd, hla, hv0, hv1, hn, hdn => by
    have hf := idxFrom_any (isFalse a) 0 set
    have ih1 := c_l15Count set hl hc d (a ++ [v]) (v + 1) n (by omega) (by simp; omega) (by omega) (by omega) hn (by omega)
    have ih2 := c_l15Count set hl hc d (a ++ [-v]) (v + 1) n (by omega) (by simp; omega) (by omega) (by omega) hn (by omega)
    have hr1 := countFrom_range set d (a ++ [v]) (v + 1)
    have hr2 := countFrom_range set d (a ++ [-v]) (v + 1)
    have hp : (2 : Int) ^ d ≤ 2 ^ 40 := by exact_mod_cast Nat.pow_le_pow_right (by decide) (by omega : d ≤ 40)
    simp only [ints, List.map_append, List.map_cons, List.map_nil] at ih1 ih2
    (refine Pure.of_walk D [3] Try.func42 (by kernel_rfl) rfl ?_; simp only [frame0, Try.ntmps42, List.length_cons, List.length_nil, List.replicate, Nat.reduceAdd, Nat.reduceSub, List.cons_append, List.nil_append])
    repeat' (first | (with_reducible first | refine AWP.seq ?_ | refine AWP.block ?_ | refine AWP.ret ?_ | refine AWP.skip ?_ | refine AWP.exit ?_ | refine AWP.label ?_ | refine andThen_n ?_ | refine andThen_e ?_ | refine andThen_r ?_ | refine inBlk_n ?_ | refine inBlk_r ?_ | refine inBlk_x ?_ | refine inBlk_e rfl ?_ | refine AWP.regionV tyok ?_ | refine regionD tyok (by kernel_rfl) (by kernel_rfl) ?_ | refine slex_nil ?_ | refine dlex_nil ?_ | (refine slex_step ?_; intro K hK; simp) | (refine dlex_step ?_; intro K hK; simp) | (refine slex_guard rfl rfl ?_; intro Y N hK hN; simp [guardS]) | (refine dlex_guard rfl rfl ?_; intro Y N hK hN; simp [guardS]) | (refine AWP.cond rfl (fun h => ?_) (fun h => ?_) <;> first | (simp at h; done) | (simp at h; try (have h0 : True := h; clear h h0)) | skip) | refine Exists.intro _ (And.intro (c_l15False set a hl (by omega) hc) ?_) | refine Or.inl (Exists.intro _ (And.intro (c_l15False set a hl (by omega) hc) ?_)) | refine Or.inr (Exists.intro _ (Exists.intro _ (And.intro (c_l1Own a (by omega)) ?_))) | refine Exists.intro _ (And.intro (ih1) ?_) | refine Or.inl (Exists.intro _ (And.intro (ih1) ?_)) | refine Exists.intro _ (And.intro (ih2) ?_) | refine Or.inl (Exists.intro _ (And.intro (ih2) ?_)) | refine And.intro ?_ ?_ | intro h) | contradiction | (with_reducible first | refine Exists.intro _ (And.intro (NegI.ok (by unfold I64; constructor <;> omega)) ?_) | (refine hK _ ?_; clear hK K) | (refine hK _ ?_; clear hK hN Y N) | (refine hN _ ?_; clear hK hN Y N)) | omega | (unfold I64; constructor <;> omega) | (with_reducible refine atEnd_ret tyok rfl ?_; simp [finP, finR, normR, mkRes]) | (with_reducible refine flat_tr ?_; simp) | (with_reducible refine noIdsLL_tr ?_; simp))
    · simp only [countFrom]; rw [← hf, if_pos (by simpa using h)]
    · rename_i h1
      simp only [countFrom]; rw [← hf, if_neg (by simpa using h1)]

/-- The assignment with a number, from behind: v variables are left. -/
def assignGo : Nat → Nat → List Int → List Int
  | 0, _, T => T
  | v + 1, num, T => assignGo v (num / 2) ((if num % 2 = 1 then -((v : Int) + 1) else (v : Int) + 1) :: T)

theorem assignGo_length : ∀ (v num : Nat) (T : List Int), (assignGo v num T).length = v + T.length
  | 0, _, T => by simp [assignGo]
  | v + 1, num, T => by rw [assignGo, assignGo_length]; simp; omega

theorem bit_and (n : Nat) : bitI .and (n : Int) 1 = ((n % 2 : Nat) : Int) := by
  have h : (BitVec.ofInt 64 (n : Int) &&& BitVec.ofInt 64 1).toNat = n % 2 := by
    rw [BitVec.toNat_and]
    have h1 : (BitVec.ofInt 64 (n : Int)).toNat = n % 2 ^ 64 := by simp
    have h2 : (BitVec.ofInt 64 1).toNat = 1 := by decide
    rw [h1, h2, Nat.and_one_is_mod]
    omega
  simp only [bitI]
  rw [h, IntKind.wrap_i64]
  omega
theorem bit_shr (n : Nat) : bitI .shr (n : Int) 1 = ((n / 2 : Nat) : Int) := by
  simp only [bitI]
  rw [Int.fdiv_eq_ediv_of_nonneg _ (by decide)]
  have : (2 : Int) ^ min (1 : Int).toNat 64 = 2 := by decide
  rw [this]
  omega
theorem bit_shl (n : Nat) (h : n ≤ 40) : bitI .shl 1 (n : Int) = ((2 ^ n : Nat) : Int) := by
  simp only [bitI]
  have h1 : min (n : Int).toNat 64 = n := by simp; omega
  have h2 : 2 ^ n ≤ 2 ^ 40 := Nat.pow_le_pow_right (by decide) h
  have h3 : (1 : Int) * 2 ^ n = ((2 ^ n : Nat) : Int) := by simp
  rw [h1, h3, IntKind.wrap_i64]
  generalize 2 ^ n = m at *
  omega

/-- A row that is filled from behind. -/
def down (v : Nat) (T : List Int) : List (List A) := List.replicate v [vi 0] ++ T.map fun x => [vi x]
theorem down_start (n : Nat) : List.replicate n [vi 0] = down n [] := by simp [down]
theorem down_end (T : List Int) : down 0 T = T.map fun x => [vi x] := by simp [down]
theorem down_length (v : Nat) (T : List Int) : (down v T).length = v + T.length := by simp [down]
theorem down_get (v : Nat) (T : List Int) : (down (v + 1) T)[v]? = some [vi 0] := by
  simp [down, List.getElem?_append, List.getElem?_replicate]
theorem down_at (v : Nat) (T : List Int) : ∀ h, (down (v + 1) T)[v]'h = [vi 0] := fun h => (List.getElem?_eq_some_iff.1 (down_get v T)).2
theorem down_get0 (v : Nat) (y : Int) (T : List Int) : (down v (y :: T))[v]? = some [vi y] := by
  simp [down, List.getElem?_append, List.getElem?_replicate]
theorem down_at0 (v : Nat) (y : Int) (T : List Int) : ∀ h, (down v (y :: T))[v]'h = [vi y] := fun h => (List.getElem?_eq_some_iff.1 (down_get0 v y T)).2
theorem down_set0 (v : Nat) (y z : Int) (T : List Int) : (down v (y :: T)).set v [vi z] = down v (z :: T) := by
  simp [down, List.set_append]
theorem down_set (v : Nat) (z : Int) (T : List Int) : (down (v + 1) T).set v [vi z] = down v (z :: T) := by
  have : down (v + 1) T = down v (0 :: T) := by
    simp only [down]
    rw [List.replicate_succ']
    simp
  rw [this, down_set0]
theorem down_mem {v : Nat} {T : List Int} {n r : Nat} : ∀ x ∈ down v T, ∀ y ∈ x, inA n r y = true := by
  intro x hx y hy
  simp only [down, List.mem_append, List.mem_replicate, List.mem_map] at hx
  rcases hx with ⟨_, rfl⟩ | ⟨a, _, rfl⟩ <;> (simp at hy; subst hy; simp)

theorem c_assignmentOf (number n : Nat) (hn : n ≤ 1000) : Pure Try.prog 47 [vi number, vi n] (ints (assignGo n number [])) := by
  (refine Pure.of_walk D [30] Try.func47 (by kernel_rfl) rfl ?_; simp only [frame0, Try.ntmps47, List.length_cons, List.length_nil, List.replicate, Nat.reduceAdd, Nat.reduceSub, List.cons_append, List.nil_append])
  repeat' (first | (with_reducible first | refine AWP.seq ?_ | refine AWP.block ?_ | refine AWP.ret ?_ | refine AWP.skip ?_ | refine AWP.exit ?_ | refine AWP.label ?_ | refine andThen_n ?_ | refine andThen_e ?_ | refine andThen_r ?_ | refine inBlk_n ?_ | refine inBlk_r ?_ | refine inBlk_x ?_ | refine inBlk_e rfl ?_ | refine AWP.regionV tyok ?_ | refine regionD tyok (by kernel_rfl) (by kernel_rfl) ?_ | refine slex_nil ?_ | refine dlex_nil ?_ | (refine slex_step ?_; intro K hK; simp) | (refine dlex_step ?_; intro K hK; simp) | (refine slex_guard rfl rfl ?_; intro Y N hK hN; simp [guardS]) | (refine dlex_guard rfl rfl ?_; intro Y N hK hN; simp [guardS]) | (refine AWP.cond rfl (fun h => ?_) (fun h => ?_) <;> first | (simp at h; done) | (simp at h; try (have h0 : True := h; clear h h0)) | skip) | refine And.intro ?_ ?_ | intro h) | contradiction | (with_reducible first | refine Exists.intro _ (And.intro (NegI.ok (by unfold I64; constructor <;> omega)) ?_) | (refine hK _ ?_; clear hK K) | (refine hK _ ?_; clear hK hN Y N) | (refine hN _ ?_; clear hK hN Y N)) | omega | (unfold I64; constructor <;> omega) | (with_reducible refine atEnd_ret tyok rfl ?_; simp [finP, finR, normR, mkRes]) | (with_reducible refine flat_tr ?_; simp) | (with_reducible refine noIdsLL_tr ?_; simp))
  simp only [down_start]
  refine AWP.loopS (ι := { p : Nat × Nat × List Int // p.1 + p.2.2.length = n ∧ assignGo n number [] = assignGo p.1 p.2.1 p.2.2 }) (fun p => [(0, vi p.1.2.1), (6, vi p.1.1)]) (fun _ => []) (fun p => [(1, down p.1.1 p.1.2.2)]) (fun p => p.1.1) ⟨(n, number, []), by simp⟩ ?_ ?_
  · (refine Le.drop2 ?_ ?_ ?_ ?_ ?_ ?_ ?_ ?_ ?_ ?_ <;> simp)
    all_goals exact down_mem
  · rintro ⟨⟨v, num, T⟩, hlen, hinv⟩
    simp only [topAll, dsts, dstsOps, upd, List.set_cons_zero, List.set_cons_succ, List.cons_append, List.nil_append, List.append_nil]
    simp only at hlen hinv
    cases v with
    | zero =>
      have hT : T.length = n := by omega
      simp only [down_end]
      repeat' (first | (with_reducible first | refine AWP.seq ?_ | refine AWP.block ?_ | refine AWP.ret ?_ | refine AWP.skip ?_ | refine AWP.exit ?_ | refine AWP.label ?_ | refine andThen_n ?_ | refine andThen_e ?_ | refine andThen_r ?_ | refine inBlk_n ?_ | refine inBlk_r ?_ | refine inBlk_x ?_ | refine inBlk_e rfl ?_ | refine AWP.regionV tyok ?_ | refine regionD tyok (by kernel_rfl) (by kernel_rfl) ?_ | refine slex_nil ?_ | refine dlex_nil ?_ | (refine slex_step ?_; intro K hK; simp [hT]) | (refine dlex_step ?_; intro K hK; simp [hT]) | (refine slex_guard rfl rfl ?_; intro Y N hK hN; simp [guardS]) | (refine dlex_guard rfl rfl ?_; intro Y N hK hN; simp [guardS]) | (refine AWP.cond rfl (fun h => ?_) (fun h => ?_) <;> first | (simp at h; done) | (simp at h; try (have h0 : True := h; clear h h0)) | skip) | refine And.intro ?_ ?_ | intro h) | contradiction | (with_reducible first | refine Exists.intro _ (And.intro (NegI.ok (by unfold I64; constructor <;> omega)) ?_) | (refine hK _ ?_; clear hK K) | (refine hK _ ?_; clear hK hN Y N) | (refine hN _ ?_; clear hK hN Y N)) | omega | (unfold I64; constructor <;> omega) | (with_reducible refine atEnd_ret tyok rfl ?_; simp [finP, finR, normR, mkRes, hT]) | (with_reducible refine flat_tr ?_; simp) | (with_reducible refine noIdsLL_tr ?_; simp))
      simp [hinv, assignGo]
    | succ v =>
      rw [assignGo] at hinv
      have hb := bit_and num
      have hs := bit_shr num
      have hl1 := down_length (v + 1) T
      have hl2 := fun y => down_length v (y :: T)
      have hlen' : v + (T.length + 1) = n := by omega
      by_cases hbit : num % 2 = 1
      · rw [hbit] at hb
        rw [if_pos hbit] at hinv
        repeat' (first | (with_reducible first | refine AWP.seq ?_ | refine AWP.block ?_ | refine AWP.ret ?_ | refine AWP.skip ?_ | refine AWP.exit ?_ | refine AWP.label ?_ | refine andThen_n ?_ | refine andThen_e ?_ | refine andThen_r ?_ | refine inBlk_n ?_ | refine inBlk_r ?_ | refine inBlk_x ?_ | refine inBlk_e rfl ?_ | refine AWP.regionV tyok ?_ | refine regionD tyok (by kernel_rfl) (by kernel_rfl) ?_ | refine slex_nil ?_ | refine dlex_nil ?_ | (refine slex_step ?_; intro K hK; simp [hb, hs, hlen, hlen', hl1, hl2, down_get, down_at, down_get0, down_at0, down_set, down_set0]) | (refine dlex_step ?_; intro K hK; simp [hb, hs, hlen, hlen', hl1, hl2, down_get, down_at, down_get0, down_at0, down_set, down_set0]) | (refine slex_guard rfl rfl ?_; intro Y N hK hN; simp [guardS]) | (refine dlex_guard rfl rfl ?_; intro Y N hK hN; simp [guardS]) | (refine AWP.cond rfl (fun h => ?_) (fun h => ?_) <;> first | (simp at h; done) | (simp at h; try (have h0 : True := h; clear h h0)) | skip) | refine And.intro ?_ ?_ | intro h) | contradiction | (with_reducible first | refine Exists.intro _ (And.intro (NegI.ok (by unfold I64; constructor <;> omega)) ?_) | (refine hK _ ?_; clear hK K) | (refine hK _ ?_; clear hK hN Y N) | (refine hN _ ?_; clear hK hN Y N)) | omega | (unfold I64; constructor <;> omega) | (with_reducible refine atEnd_ret tyok rfl ?_; simp [finP, finR, normR, mkRes, hb, hs, hlen, hlen', hl1, hl2, down_get, down_at, down_get0, down_at0, down_set, down_set0]) | (with_reducible refine flat_tr ?_; simp) | (with_reducible refine noIdsLL_tr ?_; simp))
        all_goals (try clear hK K); (try clear hK hN N Y)
        refine ⟨⟨(v, num / 2, -((v : Int) + 1) :: T), by simp; omega, hinv⟩, by simp, ?_⟩
        (refine Le.drop2 ?_ ?_ ?_ ?_ ?_ ?_ ?_ ?_ ?_ ?_ <;> simp)
        all_goals exact down_mem
      · have h0 : num % 2 = 0 := by omega
        rw [h0] at hb
        rw [if_neg hbit] at hinv
        repeat' (first | (with_reducible first | refine AWP.seq ?_ | refine AWP.block ?_ | refine AWP.ret ?_ | refine AWP.skip ?_ | refine AWP.exit ?_ | refine AWP.label ?_ | refine andThen_n ?_ | refine andThen_e ?_ | refine andThen_r ?_ | refine inBlk_n ?_ | refine inBlk_r ?_ | refine inBlk_x ?_ | refine inBlk_e rfl ?_ | refine AWP.regionV tyok ?_ | refine regionD tyok (by kernel_rfl) (by kernel_rfl) ?_ | refine slex_nil ?_ | refine dlex_nil ?_ | (refine slex_step ?_; intro K hK; simp [hb, hs, hlen, hlen', hl1, hl2, down_get, down_at, down_get0, down_at0, down_set, down_set0]) | (refine dlex_step ?_; intro K hK; simp [hb, hs, hlen, hlen', hl1, hl2, down_get, down_at, down_get0, down_at0, down_set, down_set0]) | (refine slex_guard rfl rfl ?_; intro Y N hK hN; simp [guardS]) | (refine dlex_guard rfl rfl ?_; intro Y N hK hN; simp [guardS]) | (refine AWP.cond rfl (fun h => ?_) (fun h => ?_) <;> first | (simp at h; done) | (simp at h; try (have h0 : True := h; clear h h0)) | skip) | refine And.intro ?_ ?_ | intro h) | contradiction | (with_reducible first | refine Exists.intro _ (And.intro (NegI.ok (by unfold I64; constructor <;> omega)) ?_) | (refine hK _ ?_; clear hK K) | (refine hK _ ?_; clear hK hN Y N) | (refine hN _ ?_; clear hK hN Y N)) | omega | (unfold I64; constructor <;> omega) | (with_reducible refine atEnd_ret tyok rfl ?_; simp [finP, finR, normR, mkRes, hb, hs, hlen, hlen', hl1, hl2, down_get, down_at, down_get0, down_at0, down_set, down_set0]) | (with_reducible refine flat_tr ?_; simp) | (with_reducible refine noIdsLL_tr ?_; simp))
        all_goals (try clear hK K); (try clear hK hN N Y)
        refine ⟨⟨(v, num / 2, ((v : Int) + 1) :: T), by simp; omega, hinv⟩, by simp, ?_⟩
        (refine Le.drop2 ?_ ?_ ?_ ?_ ?_ ?_ ?_ ?_ ?_ ?_ <;> simp)
        all_goals exact down_mem

def countM (set : List (List Int)) (n : Nat) : Nat → Int
  | 0 => 0
  | k + 1 => countM set n k + if set.all (sat (assignGo n k [])) then 1 else 0

theorem countM_range (set : List (List Int)) (n : Nat) : ∀ k, 0 ≤ countM set n k ∧ countM set n k ≤ (k : Int)
  | 0 => by simp [countM]
  | k + 1 => by
    have := countM_range set n k
    simp only [countM]
    split <;> omega

/-- What both sides answer: the count, and whether the arguments are valid. -/
def validCount (set : List (List Int)) (n : Int) : Bool := isClauses set && decide (greatestOf 0 set ≤ n ∧ n ≤ 12)

theorem greatestIn_le (m : Int) : ∀ (m : Int) (c : List Int), m ≤ greatestIn m c ∧ ∀ x ∈ c, (x.natAbs : Int) ≤ greatestIn m c
  | m, [] => by simp [greatestIn]
  | m, x :: xs => by
    have ih := greatestIn_le m (max m (x.natAbs : Int)) xs
    simp only [greatestIn]
    refine ⟨by omega, fun y hy => ?_⟩
    rcases List.mem_cons.1 hy with rfl | hy
    · omega
    · exact ih.2 y hy
theorem greatestOf_le : ∀ (m : Int) (set : List (List Int)), m ≤ greatestOf m set ∧ ∀ c ∈ set, ∀ x ∈ c, (x.natAbs : Int) ≤ greatestOf m set
  | m, [] => by simp [greatestOf]
  | m, c :: cs => by
    have ih := greatestOf_le (greatestIn m c) cs
    have h := greatestIn_le m m c
    simp only [greatestOf]
    refine ⟨by omega, fun d hd x hx => ?_⟩
    rcases List.mem_cons.1 hd with rfl | hd
    · have := h.2 x hx; omega
    · exact ih.2 d hd x hx

theorem propFrom_small : ∀ (p : Int) (xs : List Int), propFrom p xs = true → ∀ x ∈ xs, (x.natAbs : Int) ≤ 12
  | _, [], _, x, hx => by cases hx
  | p, y :: ys, h, x, hx => by
    simp only [propFrom, Bool.and_eq_true, decide_eq_true_eq] at h
    rcases List.mem_cons.1 hx with rfl | hx
    · exact h.1.2
    · exact propFrom_small _ ys h.2 x hx

theorem small_of_valid {set : List (List Int)} (h : isClauses set = true) : ∀ c ∈ set, ∀ x ∈ c, (x.natAbs : Int) ≤ 12 := by
  simp only [isClauses, Bool.and_eq_true, List.all_eq_true] at h
  exact fun c hc => propFrom_small 0 c (h.2 c hc)

theorem c_CountModels_spec (set : List (List Int)) (n : Int) (hg : GoodSet set) :
    Pure Try.prog 14 [intss set, vi n] (.tup [vi (if validCount set n then countFrom set n.toNat [] 1 else 0), vb (validCount set n)]) := by
  by_cases hv : isClauses set = true
  · have hs := small_of_valid hv
    have hm := c_l15Most set hg.2 (fun c hc => ⟨(hg.1 c hc).1, fun x hx => by have := hs c hc x hx; omega⟩)
    have hv0 := (greatestOf_le 0 set).1
    have hset := c_l15Set set hg
    rw [hv] at hset
    by_cases hn : greatestOf 0 set ≤ n ∧ n ≤ 12
    · have hcnt := c_l15Count set hg.2 (fun c hc => ⟨(hg.1 c hc).1, fun x hx => by have := hs c hc x hx; unfold I64; omega⟩) n.toNat [] 1 n (by omega) (by simp; omega) (by omega) (by omega) (by omega) (by omega)
      simp only [ints, List.map_nil] at hcnt
      simp only [validCount, hv, hn, and_self, decide_true, Bool.and_self, if_true]
      (refine Pure.of_walk D [3, 4] Try.func14 (by kernel_rfl) rfl ?_; simp only [frame0, Try.ntmps14, List.length_cons, List.length_nil, List.replicate, Nat.reduceAdd, Nat.reduceSub, List.cons_append, List.nil_append])
      repeat' (first | (with_reducible first | refine AWP.seq ?_ | refine AWP.block ?_ | refine AWP.ret ?_ | refine AWP.skip ?_ | refine AWP.exit ?_ | refine AWP.label ?_ | refine andThen_n ?_ | refine andThen_e ?_ | refine andThen_r ?_ | refine inBlk_n ?_ | refine inBlk_r ?_ | refine inBlk_x ?_ | refine inBlk_e rfl ?_ | refine AWP.regionV tyok ?_ | refine regionD tyok (by kernel_rfl) (by kernel_rfl) ?_ | refine slex_nil ?_ | refine dlex_nil ?_ | (refine slex_step ?_; intro K hK; simp [hn]) | (refine dlex_step ?_; intro K hK; simp [hn]) | (refine slex_guard rfl rfl ?_; intro Y N hK hN; simp [guardS]) | (refine dlex_guard rfl rfl ?_; intro Y N hK hN; simp [guardS]) | (refine AWP.cond rfl (fun h => ?_) (fun h => ?_) <;> first | (simp at h; done) | (simp at h; try (have h0 : True := h; clear h h0)) | skip) | refine Exists.intro _ (And.intro (hset) ?_) | refine Or.inl (Exists.intro _ (And.intro (hset) ?_)) | refine Exists.intro _ (And.intro (hm) ?_) | refine Or.inl (Exists.intro _ (And.intro (hm) ?_)) | refine Exists.intro _ (And.intro (c_l1In _ _ _) ?_) | refine Or.inl (Exists.intro _ (And.intro (c_l1In _ _ _) ?_)) | refine Exists.intro _ (And.intro (hcnt) ?_) | refine Or.inl (Exists.intro _ (And.intro (hcnt) ?_)) | refine And.intro ?_ ?_ | intro h) | contradiction | (with_reducible first | refine Exists.intro _ (And.intro (NegI.ok (by unfold I64; constructor <;> omega)) ?_) | (refine hK _ ?_; clear hK K) | (refine hK _ ?_; clear hK hN Y N) | (refine hN _ ?_; clear hK hN Y N)) | omega | (unfold I64; constructor <;> omega) | (with_reducible refine atEnd_ret tyok rfl ?_; simp [finP, finR, normR, mkRes, hn]) | (with_reducible refine flat_tr ?_; simp) | (with_reducible refine noIdsLL_tr ?_; simp))
    · simp only [validCount, hv, hn, decide_false, Bool.and_false, Bool.false_eq_true, if_false]
      (refine Pure.of_walk D [3, 4] Try.func14 (by kernel_rfl) rfl ?_; simp only [frame0, Try.ntmps14, List.length_cons, List.length_nil, List.replicate, Nat.reduceAdd, Nat.reduceSub, List.cons_append, List.nil_append])
      repeat' (first | (with_reducible first | refine AWP.seq ?_ | refine AWP.block ?_ | refine AWP.ret ?_ | refine AWP.skip ?_ | refine AWP.exit ?_ | refine AWP.label ?_ | refine andThen_n ?_ | refine andThen_e ?_ | refine andThen_r ?_ | refine inBlk_n ?_ | refine inBlk_r ?_ | refine inBlk_x ?_ | refine inBlk_e rfl ?_ | refine AWP.regionV tyok ?_ | refine regionD tyok (by kernel_rfl) (by kernel_rfl) ?_ | refine slex_nil ?_ | refine dlex_nil ?_ | (refine slex_step ?_; intro K hK; simp [hn]) | (refine dlex_step ?_; intro K hK; simp [hn]) | (refine slex_guard rfl rfl ?_; intro Y N hK hN; simp [guardS]) | (refine dlex_guard rfl rfl ?_; intro Y N hK hN; simp [guardS]) | (refine AWP.cond rfl (fun h => ?_) (fun h => ?_) <;> first | (simp at h; done) | (simp at h; try (have h0 : True := h; clear h h0)) | skip) | refine Exists.intro _ (And.intro (hset) ?_) | refine Or.inl (Exists.intro _ (And.intro (hset) ?_)) | refine Exists.intro _ (And.intro (hm) ?_) | refine Or.inl (Exists.intro _ (And.intro (hm) ?_)) | refine Exists.intro _ (And.intro (c_l1In _ _ _) ?_) | refine Or.inl (Exists.intro _ (And.intro (c_l1In _ _ _) ?_)) | refine And.intro ?_ ?_ | intro h) | contradiction | (with_reducible first | refine Exists.intro _ (And.intro (NegI.ok (by unfold I64; constructor <;> omega)) ?_) | (refine hK _ ?_; clear hK K) | (refine hK _ ?_; clear hK hN Y N) | (refine hN _ ?_; clear hK hN Y N)) | omega | (unfold I64; constructor <;> omega) | (with_reducible refine atEnd_ret tyok rfl ?_; simp [finP, finR, normR, mkRes, hn]) | (with_reducible refine flat_tr ?_; simp) | (with_reducible refine noIdsLL_tr ?_; simp))
  · have hset := c_l15Set set hg
    rw [Bool.not_eq_true] at hv
    rw [hv] at hset
    simp only [validCount, hv, Bool.false_and, Bool.false_eq_true, if_false]
    (refine Pure.of_walk D [3, 4] Try.func14 (by kernel_rfl) rfl ?_; simp only [frame0, Try.ntmps14, List.length_cons, List.length_nil, List.replicate, Nat.reduceAdd, Nat.reduceSub, List.cons_append, List.nil_append])
    repeat' (first | (with_reducible first | refine AWP.seq ?_ | refine AWP.block ?_ | refine AWP.ret ?_ | refine AWP.skip ?_ | refine AWP.exit ?_ | refine AWP.label ?_ | refine andThen_n ?_ | refine andThen_e ?_ | refine andThen_r ?_ | refine inBlk_n ?_ | refine inBlk_r ?_ | refine inBlk_x ?_ | refine inBlk_e rfl ?_ | refine AWP.regionV tyok ?_ | refine regionD tyok (by kernel_rfl) (by kernel_rfl) ?_ | refine slex_nil ?_ | refine dlex_nil ?_ | (refine slex_step ?_; intro K hK; simp) | (refine dlex_step ?_; intro K hK; simp) | (refine slex_guard rfl rfl ?_; intro Y N hK hN; simp [guardS]) | (refine dlex_guard rfl rfl ?_; intro Y N hK hN; simp [guardS]) | (refine AWP.cond rfl (fun h => ?_) (fun h => ?_) <;> first | (simp at h; done) | (simp at h; try (have h0 : True := h; clear h h0)) | skip) | refine Exists.intro _ (And.intro (hset) ?_) | refine Or.inl (Exists.intro _ (And.intro (hset) ?_)) | refine And.intro ?_ ?_ | intro h) | contradiction | (with_reducible first | refine Exists.intro _ (And.intro (NegI.ok (by unfold I64; constructor <;> omega)) ?_) | (refine hK _ ?_; clear hK K) | (refine hK _ ?_; clear hK hN Y N) | (refine hN _ ?_; clear hK hN Y N)) | omega | (unfold I64; constructor <;> omega) | (with_reducible refine atEnd_ret tyok rfl ?_; simp [finP, finR, normR, mkRes]) | (with_reducible refine flat_tr ?_; simp) | (with_reducible refine noIdsLL_tr ?_; simp))

theorem c_CountModels (set : List (List Int)) (n : Int) (hg : GoodSet set) :
    Pure Try.prog 15 [intss set, vi n] (.tup [vi (if validCount set n then countM set n.toNat (2 ^ n.toNat) else 0), vb (validCount set n)]) := by
  have hlen : ∀ c ∈ set, c.length ≤ 1000000000 := fun c hc => (hg.1 c hc).1
  have hset := c_IsValidClauses set hlen (by have := hg.2; omega)
  by_cases hv : isClauses set = true
  · have hs := small_of_valid hv
    have hm := c_greatest set hg.2 (fun c hc => ⟨(hg.1 c hc).1, fun x hx => by have := hs c hc x hx; omega⟩)
    have hv0 := (greatestOf_le 0 set).1
    rw [hv] at hset
    by_cases hn : greatestOf 0 set ≤ n ∧ n ≤ 12
    · obtain ⟨m, rfl⟩ : ∃ m : Nat, n = (m : Int) := ⟨n.toNat, by omega⟩
      have hpow : 2 ^ m ≤ 2 ^ 12 := Nat.pow_le_pow_right (by decide) (by omega)
      have hsh := bit_shl m (by omega)
      simp only [validCount, hv, hn, and_self, decide_true, Bool.and_self, if_true, Int.toNat_natCast]
      obtain ⟨q, hq⟩ : ∃ q, q = 2 ^ m := ⟨_, rfl⟩
      rw [← hq] at hsh hpow ⊢
      (refine Pure.of_walk D [3, 4] Try.func15 (by kernel_rfl) rfl ?_; simp only [frame0, Try.ntmps15, List.length_cons, List.length_nil, List.replicate, Nat.reduceAdd, Nat.reduceSub, List.cons_append, List.nil_append])
      repeat' (first | (with_reducible first | refine AWP.seq ?_ | refine AWP.block ?_ | refine AWP.ret ?_ | refine AWP.skip ?_ | refine AWP.exit ?_ | refine AWP.label ?_ | refine andThen_n ?_ | refine andThen_e ?_ | refine andThen_r ?_ | refine inBlk_n ?_ | refine inBlk_r ?_ | refine inBlk_x ?_ | refine inBlk_e rfl ?_ | refine AWP.regionV tyok ?_ | refine regionD tyok (by kernel_rfl) (by kernel_rfl) ?_ | refine slex_nil ?_ | refine dlex_nil ?_ | (refine slex_step ?_; intro K hK; simp [hn, hsh]) | (refine dlex_step ?_; intro K hK; simp [hn, hsh]) | (refine slex_guard rfl rfl ?_; intro Y N hK hN; simp [guardS]) | (refine dlex_guard rfl rfl ?_; intro Y N hK hN; simp [guardS]) | (refine AWP.cond rfl (fun h => ?_) (fun h => ?_) <;> first | (simp at h; done) | (simp at h; try (have h0 : True := h; clear h h0)) | skip) | refine Exists.intro _ (And.intro (hset) ?_) | refine Or.inl (Exists.intro _ (And.intro (hset) ?_)) | refine Exists.intro _ (And.intro (hm) ?_) | refine Or.inl (Exists.intro _ (And.intro (hm) ?_)) | refine Exists.intro _ (And.intro (c_within _ _ _) ?_) | refine Or.inl (Exists.intro _ (And.intro (c_within _ _ _) ?_)) | refine And.intro ?_ ?_ | intro h) | contradiction | (with_reducible first | refine Exists.intro _ (And.intro (NegI.ok (by unfold I64; constructor <;> omega)) ?_) | (refine hK _ ?_; clear hK K) | (refine hK _ ?_; clear hK hN Y N) | (refine hN _ ?_; clear hK hN Y N)) | omega | (unfold I64; constructor <;> omega) | (with_reducible refine atEnd_ret tyok rfl ?_; simp [finP, finR, normR, mkRes, hn, hsh]) | (with_reducible refine flat_tr ?_; simp) | (with_reducible refine noIdsLL_tr ?_; simp))
      refine AWP.loopU (ι := { k : Nat // k ≤ q }) (fun k => [(6, vi (countM set m k.1)), (24, vi k.1)]) (fun k => q - k.1) ⟨0, by simp⟩ ?_ ?_
      · (refine Le.drop2 ?_ ?_ ?_ ?_ ?_ ?_ ?_ ?_ ?_ ?_ <;> simp [countM])
      · rintro ⟨k, hk⟩
        simp only [topAll, dsts, dstsOps, upd, List.set_cons_zero, List.set_cons_succ, List.cons_append, List.nil_append, List.append_nil]
        have hr := countM_range set m k
        by_cases hlt : k < q
        · have hb : ∀ b : Bool, (0 : Int) ≤ (if b = true then 1 else 0) ∧ (if b = true then (1 : Int) else 0) ≤ 1 := fun b => by cases b <;> simp
          have hb1 := hb (set.all (sat (assignGo m k [])))
          have hal : (assignGo m k []).length ≤ 1000000000 := by rw [assignGo_length, List.length_nil]; omega
          have hmod := c_isModel set _ hg.2 hlen hal
          repeat' (first | (with_reducible first | refine AWP.seq ?_ | refine AWP.block ?_ | refine AWP.ret ?_ | refine AWP.skip ?_ | refine AWP.exit ?_ | refine AWP.label ?_ | refine andThen_n ?_ | refine andThen_e ?_ | refine andThen_r ?_ | refine inBlk_n ?_ | refine inBlk_r ?_ | refine inBlk_x ?_ | refine inBlk_e rfl ?_ | refine AWP.regionV tyok ?_ | refine regionD tyok (by kernel_rfl) (by kernel_rfl) ?_ | refine slex_nil ?_ | refine dlex_nil ?_ | (refine slex_step ?_; intro K hK; simp [hlt]) | (refine dlex_step ?_; intro K hK; simp [hlt]) | (refine slex_guard rfl rfl ?_; intro Y N hK hN; simp [guardS]) | (refine dlex_guard rfl rfl ?_; intro Y N hK hN; simp [guardS]) | (refine AWP.cond rfl (fun h => ?_) (fun h => ?_) <;> first | (simp at h; done) | (simp at h; try (have h0 : True := h; clear h h0)) | skip) | refine Exists.intro _ (And.intro (c_assignmentOf k m (by omega)) ?_) | refine Or.inl (Exists.intro _ (And.intro (c_assignmentOf k m (by omega)) ?_)) | refine Exists.intro _ (And.intro (hmod) ?_) | refine Or.inl (Exists.intro _ (And.intro (hmod) ?_)) | refine Exists.intro _ (And.intro (c_flag _) ?_) | refine Or.inl (Exists.intro _ (And.intro (c_flag _) ?_)) | refine And.intro ?_ ?_ | intro h) | contradiction | (with_reducible first | refine Exists.intro _ (And.intro (NegI.ok (by unfold I64; constructor <;> omega)) ?_) | (refine hK _ ?_; clear hK K) | (refine hK _ ?_; clear hK hN Y N) | (refine hN _ ?_; clear hK hN Y N)) | omega | (unfold I64; constructor <;> omega) | (with_reducible refine atEnd_ret tyok rfl ?_; simp [finP, finR, normR, mkRes, hlt]) | (with_reducible refine flat_tr ?_; simp) | (with_reducible refine noIdsLL_tr ?_; simp))
          all_goals (try clear hK K); (try clear hK hN N Y)
          refine ⟨⟨k + 1, by omega⟩, by simp; omega, ?_⟩
          (refine Le.drop2 ?_ ?_ ?_ ?_ ?_ ?_ ?_ ?_ ?_ ?_ <;> simp [countM])
        · have e : k = q := by omega
          subst e
          repeat' (first | (with_reducible first | refine AWP.seq ?_ | refine AWP.block ?_ | refine AWP.ret ?_ | refine AWP.skip ?_ | refine AWP.exit ?_ | refine AWP.label ?_ | refine andThen_n ?_ | refine andThen_e ?_ | refine andThen_r ?_ | refine inBlk_n ?_ | refine inBlk_r ?_ | refine inBlk_x ?_ | refine inBlk_e rfl ?_ | refine AWP.regionV tyok ?_ | refine regionD tyok (by kernel_rfl) (by kernel_rfl) ?_ | refine slex_nil ?_ | refine dlex_nil ?_ | (refine slex_step ?_; intro K hK; simp [hlt]) | (refine dlex_step ?_; intro K hK; simp [hlt]) | (refine slex_guard rfl rfl ?_; intro Y N hK hN; simp [guardS]) | (refine dlex_guard rfl rfl ?_; intro Y N hK hN; simp [guardS]) | (refine AWP.cond rfl (fun h => ?_) (fun h => ?_) <;> first | (simp at h; done) | (simp at h; try (have h0 : True := h; clear h h0)) | skip) | refine And.intro ?_ ?_ | intro h) | contradiction | (with_reducible first | refine Exists.intro _ (And.intro (NegI.ok (by unfold I64; constructor <;> omega)) ?_) | (refine hK _ ?_; clear hK K) | (refine hK _ ?_; clear hK hN Y N) | (refine hN _ ?_; clear hK hN Y N)) | omega | (unfold I64; constructor <;> omega) | (with_reducible refine atEnd_ret tyok rfl ?_; simp [finP, finR, normR, mkRes, hlt]) | (with_reducible refine flat_tr ?_; simp) | (with_reducible refine noIdsLL_tr ?_; simp))
    · simp only [validCount, hv, hn, decide_false, Bool.and_false, Bool.false_eq_true, if_false]
      (refine Pure.of_walk D [3, 4] Try.func15 (by kernel_rfl) rfl ?_; simp only [frame0, Try.ntmps15, List.length_cons, List.length_nil, List.replicate, Nat.reduceAdd, Nat.reduceSub, List.cons_append, List.nil_append])
      repeat' (first | (with_reducible first | refine AWP.seq ?_ | refine AWP.block ?_ | refine AWP.ret ?_ | refine AWP.skip ?_ | refine AWP.exit ?_ | refine AWP.label ?_ | refine andThen_n ?_ | refine andThen_e ?_ | refine andThen_r ?_ | refine inBlk_n ?_ | refine inBlk_r ?_ | refine inBlk_x ?_ | refine inBlk_e rfl ?_ | refine AWP.regionV tyok ?_ | refine regionD tyok (by kernel_rfl) (by kernel_rfl) ?_ | refine slex_nil ?_ | refine dlex_nil ?_ | (refine slex_step ?_; intro K hK; simp [hn]) | (refine dlex_step ?_; intro K hK; simp [hn]) | (refine slex_guard rfl rfl ?_; intro Y N hK hN; simp [guardS]) | (refine dlex_guard rfl rfl ?_; intro Y N hK hN; simp [guardS]) | (refine AWP.cond rfl (fun h => ?_) (fun h => ?_) <;> first | (simp at h; done) | (simp at h; try (have h0 : True := h; clear h h0)) | skip) | refine Exists.intro _ (And.intro (hset) ?_) | refine Or.inl (Exists.intro _ (And.intro (hset) ?_)) | refine Exists.intro _ (And.intro (hm) ?_) | refine Or.inl (Exists.intro _ (And.intro (hm) ?_)) | refine Exists.intro _ (And.intro (c_within _ _ _) ?_) | refine Or.inl (Exists.intro _ (And.intro (c_within _ _ _) ?_)) | refine And.intro ?_ ?_ | intro h) | contradiction | (with_reducible first | refine Exists.intro _ (And.intro (NegI.ok (by unfold I64; constructor <;> omega)) ?_) | (refine hK _ ?_; clear hK K) | (refine hK _ ?_; clear hK hN Y N) | (refine hN _ ?_; clear hK hN Y N)) | omega | (unfold I64; constructor <;> omega) | (with_reducible refine atEnd_ret tyok rfl ?_; simp [finP, finR, normR, mkRes, hn]) | (with_reducible refine flat_tr ?_; simp) | (with_reducible refine noIdsLL_tr ?_; simp))
  · rw [Bool.not_eq_true] at hv
    rw [hv] at hset
    simp only [validCount, hv, Bool.false_and, Bool.false_eq_true, if_false]
    (refine Pure.of_walk D [3, 4] Try.func15 (by kernel_rfl) rfl ?_; simp only [frame0, Try.ntmps15, List.length_cons, List.length_nil, List.replicate, Nat.reduceAdd, Nat.reduceSub, List.cons_append, List.nil_append])
    repeat' (first | (with_reducible first | refine AWP.seq ?_ | refine AWP.block ?_ | refine AWP.ret ?_ | refine AWP.skip ?_ | refine AWP.exit ?_ | refine AWP.label ?_ | refine andThen_n ?_ | refine andThen_e ?_ | refine andThen_r ?_ | refine inBlk_n ?_ | refine inBlk_r ?_ | refine inBlk_x ?_ | refine inBlk_e rfl ?_ | refine AWP.regionV tyok ?_ | refine regionD tyok (by kernel_rfl) (by kernel_rfl) ?_ | refine slex_nil ?_ | refine dlex_nil ?_ | (refine slex_step ?_; intro K hK; simp) | (refine dlex_step ?_; intro K hK; simp) | (refine slex_guard rfl rfl ?_; intro Y N hK hN; simp [guardS]) | (refine dlex_guard rfl rfl ?_; intro Y N hK hN; simp [guardS]) | (refine AWP.cond rfl (fun h => ?_) (fun h => ?_) <;> first | (simp at h; done) | (simp at h; try (have h0 : True := h; clear h h0)) | skip) | refine Exists.intro _ (And.intro (hset) ?_) | refine Or.inl (Exists.intro _ (And.intro (hset) ?_)) | refine And.intro ?_ ?_ | intro h) | contradiction | (with_reducible first | refine Exists.intro _ (And.intro (NegI.ok (by unfold I64; constructor <;> omega)) ?_) | (refine hK _ ?_; clear hK K) | (refine hK _ ?_; clear hK hN Y N) | (refine hN _ ?_; clear hK hN Y N)) | omega | (unfold I64; constructor <;> omega) | (with_reducible refine atEnd_ret tyok rfl ?_; simp [finP, finR, normR, mkRes]) | (with_reducible refine flat_tr ?_; simp) | (with_reducible refine noIdsLL_tr ?_; simp))
end Go.Proofs.Ytgedhnhgkmhgcaa
