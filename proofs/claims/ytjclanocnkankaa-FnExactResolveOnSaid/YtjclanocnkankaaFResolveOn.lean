/- For every input the law FnExactResolveOn of the program returns true, and its arguments read behind the call as before. Conditions: none. -/
import Derived.Test.YtjclanocnkankaaPu
import Derived.Test.YtjclanocnkankaaTr
import Derived.Test.YtjclanocnkankaaFy
namespace Go.Proofs.Ytjclanocnkankaa
open Go Go.ChangeShapes Go.WideShapes Go.ChangeAt Go.RowKit Go.Proofs.Ytjclanocnkankaa.Abs

set_option maxRecDepth 100000 in
theorem FnExactResolveOn_lifted (os : Os) (started : os.Started) (H : Type) (enc : TypeId × Value → H) :
    ReturnsInHanded {} Try.checked os 4 .any (Rows.fnExactResolveOnSpec.pre6 enc Try.prog Try.f4 Rows.fnExactResolveOnRow.domain false) (Rows.fnExactResolveOnSpec.post enc Try.prog Try.f4 false true false false) := by
  refine returnsInHanded_of_change (C := Try.checked) Try.ownK started (by kernel_rfl) Try.func4
    (ChangeSpec.witness6 (enc := enc) (C := Try.checked) false ⟨#[], #[.slice none 0 0, .slice none 0 0, .int .i64 0], []⟩ 8 (by kernel_rfl) (by kernel_rfl) (by kernel_rfl) (by kernel_rfl)) ?_
  intro W base args ds gs before hval0 hW _ _
  have hval : ∀ (j : Nat) t v, Try.f4.params[j]? = some t → args[j]? = some v → Value.okWide Try.prog W .any base t v := hval0
  have hW' := hW
  obtain ⟨p, q, hA0, hV, rfl, _, _⟩ := hW
  have hA : DataW.TrodAll enc Try.prog W 0 (fun _ => true) true Try.f4.params.toList args.toList ds p := hA0
  rw [Try.params4] at hA hval
  obtain ⟨v0, v1, v2, d0, d1, d2, p0, p1, p2, rfl, rfl, rfl, h0, h1, h2⟩ := trodAll_three hA
  obtain ⟨rfl, rfl⟩ := trodVars_none hV
  obtain ⟨a0, l0, c0, rfl⟩ := okWide_slice Try.underlying24 (hval 0 24 v0 rfl rfl)
  obtain ⟨a1, l1, c1, rfl⟩ := okWide_slice Try.underlying24 (hval 1 24 v1 rfl rfl)
  obtain ⟨n2, rfl⟩ := okWide_int Try.underlying3 (hval 2 3 v2 rfl rfl)
  have h0k := h0
  obtain ⟨fuel0, hf0⟩ := h0
  have h1k := h1
  obtain ⟨fuel1, hf1⟩ := h1
  have h2k := h2
  obtain ⟨fuel2, hf2⟩ := h2
  clear hA0 hval0
  simp only [List.append_nil] at hW'
  have hlt0 : ∀ y ∈ p0, y.block < W.heap.size := fun y hy => by simpa using hW'.lt y (by simp [hy])
  have hlt1 : ∀ y ∈ p1, y.block < W.heap.size := fun y hy => by simpa using hW'.lt y (by simp [hy])
  have hlt2 : ∀ y ∈ p2, y.block < W.heap.size := fun y hy => by simpa using hW'.lt y (by simp [hy])
  obtain ⟨a, hp0, hr0, _⟩ := rd_ints H enc W 0 (fun _ => true) true fuel0 _ _ hf0
  have hr0 := rel_cells1 hr0 rfl
  obtain ⟨b, hp1, hr1, _⟩ := rd_ints H enc W 0 (fun _ => true) true fuel1 _ _ hf1
  have hr1 := rel_cells1 hr1 rfl
  obtain ⟨v, hp2, hr2, _⟩ := rd_int H enc W 0 (fun _ => true) true fuel2 _ _ hf2
  have hr2 := rel_cells1 hr2 rfl
  have hlaw := G_out (X := Xf) rfl (law_resolveOn a b v hp0 hp1)
  refine (hlaw.2 W (fun _ => False) [.slice a0 l0 c0, .slice a1 l1 c1, .int .i64 n2] trivial (fun _ h => h.elim) (fun _ h => h.elim) (by simp only [relL]; exact ⟨_, _, rfl, hr0, _, _, rfl, hr1, _, _, rfl, hr2, rfl⟩)).mono ?_
  rintro e W' ⟨v, rfl, hn, hv⟩
  simp only [rel] at hv
  subst hv
  exact ⟨_, rfl, _, _, _, [], _, [], hW', trodAll_mk1 (shut_bool Try.underlying4 true), trodAll_mk3 (Below.trod Try.laid (by kernel_rfl) (of_decide_eq_true (by kernel_rfl)) h0k hn hlt0) (Below.trod Try.laid (by kernel_rfl) (of_decide_eq_true (by kernel_rfl)) h1k hn hlt1) (Below.trod Try.laid (by kernel_rfl) (of_decide_eq_true (by kernel_rfl)) h2k hn hlt2), rfl, hn.frame _, fun h => by cases h⟩

theorem FnExactResolveOn_holds : Rows.FnExactResolveOnSaid :=
  OpenClaim.holds_of_wide 4 Try.f4 rfl rfl rfl rfl rfl rfl rfl ⟨rfl, rfl, rfl, rfl, rfl⟩ rfl rfl rfl rfl rfl (by kernel_rfl) Try.func4 (by kernel_rfl)
    (of_decide_eq_true (by kernel_rfl)) (by unfold Func.isWrapper; first | (rw [if_pos (by decide +kernel)]; kernel_rfl) | (rw [if_neg (by decide +kernel)]; exact ⟨rfl, rfl⟩))
    (fun os started H enc _ => FnExactResolveOn_lifted os started H enc)

#print axioms FnExactResolveOn_holds
end Go.Proofs.Ytjclanocnkankaa
