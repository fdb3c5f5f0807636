/- For every input the law FnExactCompareKBO of the program returns true, and its arguments read behind the call as before. Conditions: none. -/
import Derived.Test.YtheaeglaebimoaaKb
import Derived.Test.YtheaeglaebimoaaFe
namespace Go.Proofs.Ytheaeglaebimoaa
open Go Go.ChangeShapes Go.WideShapes Go.ChangeAt Go.RowKit Go.Proofs.Ytheaeglaebimoaa.Abs

set_option maxRecDepth 100000 in
theorem FnExactCompareKBO_lifted (os : Os) (started : os.Started) (H : Type) (enc : TypeId × Value → H) :
    ReturnsInHanded {} Try.checked os 8 .any (Rows.fnExactCompareKBOSpec.pre6 enc Try.prog Try.f8 Rows.fnExactCompareKBORow.domain false) (Rows.fnExactCompareKBOSpec.post enc Try.prog Try.f8 false true false false) := by
  refine returnsInHanded_of_change (C := Try.checked) Try.ownK started (by kernel_rfl) Try.func8
    (ChangeSpec.witness6 (enc := enc) (C := Try.checked) false ⟨#[], #[.agg #[.slice none 0 0, .slice none 0 0, .int .i64 0], .agg #[.string ⟨#[]⟩, .slice none 0 0], .agg #[.string ⟨#[]⟩, .slice none 0 0]], []⟩ 8 (by kernel_rfl) (by kernel_rfl) (by kernel_rfl) (by kernel_rfl)) ?_
  intro W base args ds gs before hval0 hW _ _
  have hval : ∀ (j : Nat) t v, Try.f8.params[j]? = some t → args[j]? = some v → Value.okWide Try.prog W .any base t v := hval0
  have hW' := hW
  obtain ⟨p, q, hA0, hV, rfl, _, _⟩ := hW
  have hA : DataW.TrodAll enc Try.prog W 0 (fun _ => true) true Try.f8.params.toList args.toList ds p := hA0
  rw [Try.params8] at hA hval
  obtain ⟨v0, v1, v2, d0, d1, d2, p0, p1, p2, rfl, rfl, rfl, h0, h1, h2⟩ := trodAll_three hA
  obtain ⟨rfl, rfl⟩ := trodVars_none hV
  obtain ⟨cs0, rfl, _⟩ := okWide_struct Try.underlying34 (hval 0 34 v0 rfl rfl)
  obtain ⟨cs1, rfl, _⟩ := okWide_struct Try.underlying37 (hval 1 37 v1 rfl rfl)
  obtain ⟨cs2, rfl, _⟩ := okWide_struct Try.underlying37 (hval 2 37 v2 rfl rfl)
  have h0k := h0
  obtain ⟨fuel0, hf0⟩ := h0
  have h1k := h1
  obtain ⟨fuel1, hf1⟩ := h1
  have h2k := h2
  obtain ⟨fuel2, hf2⟩ := h2
  clear hA0 hval0
  simp only [List.append_nil] at hW'
  have hlt0 : ∀ y ∈ p0, y.block < W.heap.size := fun y hy => by simpa using hW'.lt y (by simp [hy])
  have hlt1 : ∀ y ∈ p1, y.block < W.heap.size := fun y hy => by simpa using hW'.lt y (by simp [hy])
  have hlt2 : ∀ y ∈ p2, y.block < W.heap.size := fun y hy => by simpa using hW'.lt y (by simp [hy])
  obtain ⟨o, hp0, hr0, _⟩ := rd_ord H enc W 0 (fun _ => true) true fuel0 _ _ hf0
  have hr0 := rel_cellsA hr0
  obtain ⟨s, hp1, hr1, _⟩ := rd_term H enc W 0 (fun _ => true) true fuel1 _ _ hf1
  have hr1 := rel_cellsA hr1
  obtain ⟨t, hp2, hr2, _⟩ := rd_term H enc W 0 (fun _ => true) true fuel2 _ _ hf2
  have hr2 := rel_cellsA hr2
  have hlaw := G_out (X := Xf) rfl ((by have := law_compareKBO o s t hp0 hp1 hp2; rw [show tm s = .agg (tcells s) from by rw [tcells_eq], show tm t = .agg (tcells t) from by rw [tcells_eq]] at this; exact this))
  refine (hlaw.2 W (fun _ => False) [.agg cs0, .agg cs1, .agg cs2] trivial (fun _ h => h.elim) (fun _ h => h.elim) (by simp only [relL]; exact ⟨_, _, rfl, hr0, _, _, rfl, hr1, _, _, rfl, hr2, rfl⟩)).mono ?_
  rintro e W' ⟨v, rfl, hn, hv⟩
  simp only [rel] at hv
  subst hv
  exact ⟨_, rfl, _, _, _, [], _, [], hW', trodAll_mk1 (shut_bool Try.underlying4 true), trodAll_mk3 (Below.trod Try.laid (by kernel_rfl) (of_decide_eq_true (by kernel_rfl)) h0k hn hlt0) (Below.trod Try.laid (by kernel_rfl) (of_decide_eq_true (by kernel_rfl)) h1k hn hlt1) (Below.trod Try.laid (by kernel_rfl) (of_decide_eq_true (by kernel_rfl)) h2k hn hlt2), rfl, hn.frame _, fun h => by cases h⟩

theorem FnExactCompareKBO_holds : Rows.FnExactCompareKBOSaid :=
  OpenClaim.holds_of_wide 8 Try.f8 rfl rfl rfl rfl rfl rfl rfl ⟨rfl, rfl, rfl, rfl, rfl⟩ rfl rfl rfl rfl rfl (by kernel_rfl) Try.func8 (by kernel_rfl)
    (of_decide_eq_true (by kernel_rfl)) (by unfold Func.isWrapper; first | (rw [if_pos (by decide +kernel)]; kernel_rfl) | (rw [if_neg (by decide +kernel)]; exact ⟨rfl, rfl⟩))
    (fun os started H enc _ => FnExactCompareKBO_lifted os started H enc)

#print axioms FnExactCompareKBO_holds
end Go.Proofs.Ytheaeglaebimoaa
