/- For every input the law FnExactMaximalLiterals of the program returns true, and its arguments read behind the call as before. Conditions: none. -/
import Derived.Test.YtjclanocnkankaaGreatMx
import Derived.Test.YtjclanocnkankaaGreatFe
namespace Go.Proofs.YtjclanocnkankaaGreat
open Go Go.ChangeShapes Go.WideShapes Go.ChangeAt Go.RowKit Go.Proofs.YtjclanocnkankaaGreat.Abs

theorem rd_clause : Rdr Tryz.prog 55 (fun ls : List Lit' => [lits ls]) lwf := fun _ _ _ _ _ _ fuel cs x h =>
  struct_of1 (k0 := 1) Tryz.underlying55 rfl (by kernel_rfl) (by kernel_rfl) (fun _ _ _ _ h => rd_lits _ _ _ _ _ _ _ _ _ h) h

set_option maxRecDepth 100000 in
theorem FnExactMaximalLiterals_lifted (os : Os) (started : os.Started) (H : Type) (enc : TypeId × Value → H) :
    ReturnsInHanded {} Tryz.checked os 6 .any (Rows.fnExactMaximalLiteralsSpec.pre6 enc Tryz.prog Tryz.f6 Rows.fnExactMaximalLiteralsRow.domain false) (Rows.fnExactMaximalLiteralsSpec.post enc Tryz.prog Tryz.f6 false true false false) := by
  refine returnsInHanded_of_change (C := Tryz.checked) Tryz.ownK started (by kernel_rfl) Tryz.func6
    (ChangeSpec.witness6 (enc := enc) (C := Tryz.checked) false ⟨#[], #[.agg #[.slice none 0 0, .slice none 0 0, .int .i64 0], .agg #[.slice none 0 0]], []⟩ 8 (by kernel_rfl) (by kernel_rfl) (by kernel_rfl) (by kernel_rfl)) ?_
  intro W base args ds gs before hval0 hW _ _
  have hval : ∀ (j : Nat) t v, Tryz.f6.params[j]? = some t → args[j]? = some v → Value.okWide Tryz.prog W .any base t v := hval0
  have hW' := hW
  obtain ⟨p, q, hA0, hV, rfl, _, _⟩ := hW
  have hA : DataW.TrodAll enc Tryz.prog W 0 (fun _ => true) true Tryz.f6.params.toList args.toList ds p := hA0
  rw [Tryz.params6] at hA hval
  obtain ⟨v0, v1, d0, d1, p0, p1, rfl, rfl, rfl, h0, h1⟩ := trodAll_two hA
  obtain ⟨rfl, rfl⟩ := trodVars_none hV
  obtain ⟨cs0, rfl, _⟩ := okWide_struct Tryz.underlying25 (hval 0 25 v0 rfl rfl)
  obtain ⟨cs1, rfl, _⟩ := okWide_struct Tryz.underlying55 (hval 1 55 v1 rfl rfl)
  have h0k := h0
  obtain ⟨fuel0, hf0⟩ := h0
  have h1k := h1
  obtain ⟨fuel1, hf1⟩ := h1
  clear hA0 hval0
  simp only [List.append_nil] at hW'
  have hlt0 : ∀ y ∈ p0, y.block < W.heap.size := fun y hy => by simpa using hW'.lt y (by simp [hy])
  have hlt1 : ∀ y ∈ p1, y.block < W.heap.size := fun y hy => by simpa using hW'.lt y (by simp [hy])
  obtain ⟨o, hp0, hr0, _⟩ := rd_ord H enc W 0 (fun _ => true) true fuel0 _ _ hf0
  have hr0 := rel_cellsA hr0
  obtain ⟨ls, hp1, hr1, _⟩ := rd_clause H enc W 0 (fun _ => true) true fuel1 _ _ hf1
  have hr1 := rel_cellsA hr1
  have hlaw := G_out (X := Xf) rfl (law_maximal o ls hp0 hp1)
  refine (hlaw.2 W (fun _ => False) [.agg cs0, .agg cs1] trivial (fun _ h => h.elim) (fun _ h => h.elim) (by simp only [relL]; exact ⟨_, _, rfl, hr0, _, _, rfl, hr1, rfl⟩)).mono ?_
  rintro e W' ⟨v, rfl, hn, hv⟩
  simp only [rel] at hv
  subst hv
  exact ⟨_, rfl, _, _, _, [], _, [], hW', trodAll_mk1 (shut_bool Tryz.underlying4 true), trodAll_mk2 (Below.trod Tryz.laid (by kernel_rfl) (of_decide_eq_true (by kernel_rfl)) h0k hn hlt0) (Below.trod Tryz.laid (by kernel_rfl) (of_decide_eq_true (by kernel_rfl)) h1k hn hlt1), rfl, hn.frame _, fun h => by cases h⟩

theorem FnExactMaximalLiterals_holds : Rows.FnExactMaximalLiteralsSaid :=
  OpenClaim.holds_of_wide 6 Tryz.f6 rfl rfl rfl rfl rfl rfl rfl ⟨rfl, rfl, rfl, rfl, rfl⟩ rfl rfl rfl rfl rfl (by kernel_rfl) Tryz.func6 (by kernel_rfl)
    (of_decide_eq_true (by kernel_rfl)) (by unfold Func.isWrapper; first | (rw [if_pos (by decide +kernel)]; kernel_rfl) | (rw [if_neg (by decide +kernel)]; exact ⟨rfl, rfl⟩))
    (fun os started H enc _ => FnExactMaximalLiterals_lifted os started H enc)

#print axioms FnExactMaximalLiterals_holds
end Go.Proofs.YtjclanocnkankaaGreat
