/- For every input the law FnExactPropagateUnits of the program returns true, and its arguments read behind the call as before. Conditions: none. -/
import Derived.Test.YtjclanocnkankaaPv
import Derived.Test.YtjclanocnkankaaTr
import Derived.Test.YtjclanocnkankaaFy
namespace Go.Proofs.Ytjclanocnkankaa
open Go Go.ChangeShapes Go.WideShapes Go.ChangeAt Go.RowKit Go.Proofs.Ytjclanocnkankaa.Abs

theorem rd_intss : Rdr Try.prog 22 (fun xs : List (List Int) => [intss xs]) (fun xs => (∀ x ∈ xs, (∀ y ∈ x, I64 y) ∧ x.length ≤ 9223372036854775807) ∧ xs.length ≤ 9223372036854775807) :=
  Rdr.slice Try.underlying22 (by kernel_rfl) (by decide) (fun _ => rfl) rd_ints

set_option maxRecDepth 100000 in
theorem FnExactPropagateUnits_lifted (os : Os) (started : os.Started) (H : Type) (enc : TypeId × Value → H) :
    ReturnsInHanded {} Try.checked os 5 .any (Rows.fnExactPropagateUnitsSpec.pre6 enc Try.prog Try.f5 Rows.fnExactPropagateUnitsRow.domain false) (Rows.fnExactPropagateUnitsSpec.post enc Try.prog Try.f5 false true false false) := by
  refine returnsInHanded_of_change (C := Try.checked) Try.ownK started (by kernel_rfl) Try.func5
    (ChangeSpec.witness6 (enc := enc) (C := Try.checked) false ⟨#[], #[.slice none 0 0, .slice none 0 0], []⟩ 8 (by kernel_rfl) (by kernel_rfl) (by kernel_rfl) (by kernel_rfl)) ?_
  intro W base args ds gs before hval0 hW _ _
  have hval : ∀ (j : Nat) t v, Try.f5.params[j]? = some t → args[j]? = some v → Value.okWide Try.prog W .any base t v := hval0
  have hW' := hW
  obtain ⟨p, q, hA0, hV, rfl, _, _⟩ := hW
  have hA : DataW.TrodAll enc Try.prog W 0 (fun _ => true) true Try.f5.params.toList args.toList ds p := hA0
  rw [Try.params5] at hA hval
  obtain ⟨v0, v1, d0, d1, p0, p1, rfl, rfl, rfl, h0, h1⟩ := trodAll_two hA
  obtain ⟨rfl, rfl⟩ := trodVars_none hV
  obtain ⟨a0, l0, c0, rfl⟩ := okWide_slice Try.underlying22 (hval 0 22 v0 rfl rfl)
  obtain ⟨a1, l1, c1, rfl⟩ := okWide_slice Try.underlying24 (hval 1 24 v1 rfl rfl)
  have h0k := h0
  obtain ⟨fuel0, hf0⟩ := h0
  have h1k := h1
  obtain ⟨fuel1, hf1⟩ := h1
  clear hA0 hval0
  simp only [List.append_nil] at hW'
  have hlt0 : ∀ y ∈ p0, y.block < W.heap.size := fun y hy => by simpa using hW'.lt y (by simp [hy])
  have hlt1 : ∀ y ∈ p1, y.block < W.heap.size := fun y hy => by simpa using hW'.lt y (by simp [hy])
  obtain ⟨set, hp0, hr0, _⟩ := rd_intss H enc W 0 (fun _ => true) true fuel0 _ _ hf0
  have hr0 := rel_cells1 hr0 rfl
  obtain ⟨a, hp1, hr1, _⟩ := rd_ints H enc W 0 (fun _ => true) true fuel1 _ _ hf1
  have hr1 := rel_cells1 hr1 rfl
  have hlaw := G_out (X := Xf) rfl (law_propagateUnits set a hp0.2 (fun c h => ⟨(hp0.1 c h).2, (hp0.1 c h).1⟩) hp1)
  refine (hlaw.2 W (fun _ => False) [.slice a0 l0 c0, .slice a1 l1 c1] trivial (fun _ h => h.elim) (fun _ h => h.elim) (by simp only [relL]; exact ⟨_, _, rfl, hr0, _, _, rfl, hr1, rfl⟩)).mono ?_
  rintro e W' ⟨v, rfl, hn, hv⟩
  simp only [rel] at hv
  subst hv
  exact ⟨_, rfl, _, _, _, [], _, [], hW', trodAll_mk1 (shut_bool Try.underlying4 true), trodAll_mk2 (Below.trod Try.laid (by kernel_rfl) (of_decide_eq_true (by kernel_rfl)) h0k hn hlt0) (Below.trod Try.laid (by kernel_rfl) (of_decide_eq_true (by kernel_rfl)) h1k hn hlt1), rfl, hn.frame _, fun h => by cases h⟩

theorem FnExactPropagateUnits_holds : Rows.FnExactPropagateUnitsSaid :=
  OpenClaim.holds_of_wide 5 Try.f5 rfl rfl rfl rfl rfl rfl rfl ⟨rfl, rfl, rfl, rfl, rfl⟩ rfl rfl rfl rfl rfl (by kernel_rfl) Try.func5 (by kernel_rfl)
    (of_decide_eq_true (by kernel_rfl)) (by unfold Func.isWrapper; first | (rw [if_pos (by decide +kernel)]; kernel_rfl) | (rw [if_neg (by decide +kernel)]; exact ⟨rfl, rfl⟩))
    (fun os started H enc _ => FnExactPropagateUnits_lifted os started H enc)

#print axioms FnExactPropagateUnits_holds
end Go.Proofs.Ytjclanocnkankaa
