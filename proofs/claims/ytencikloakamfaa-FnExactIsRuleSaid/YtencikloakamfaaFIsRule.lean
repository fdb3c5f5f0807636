/- For every input the law FnExactIsRule of the program returns true, and its arguments read behind the call as before. Conditions: none. -/
import Derived.Test.YtencikloakamfaaRn
import Derived.Test.YtencikloakamfaaFe
namespace Go.Proofs.Ytencikloakamfaa
open Go Go.ChangeShapes Go.WideShapes Go.ChangeAt Go.RowKit Go.Proofs.Ytencikloakamfaa.Abs

set_option maxRecDepth 100000 in
theorem FnExactIsRule_lifted (os : Os) (started : os.Started) (H : Type) (enc : TypeId × Value → H) :
    ReturnsInHanded {} Try.checked os 6 .any (Rows.fnExactIsRuleSpec.pre6 enc Try.prog Try.f6 Rows.fnExactIsRuleRow.domain false) (Rows.fnExactIsRuleSpec.post enc Try.prog Try.f6 false true false false) := by
  refine returnsInHanded_of_change (C := Try.checked) Try.ownK started (by kernel_rfl) Try.func6
    (ChangeSpec.witness6 (enc := enc) (C := Try.checked) false ⟨#[], #[.agg #[.string ⟨#[]⟩, .slice none 0 0]], []⟩ 8 (by kernel_rfl) (by kernel_rfl) (by kernel_rfl) (by kernel_rfl)) ?_
  intro W base args ds gs before hval0 hW _ _
  have hval : ∀ (j : Nat) t v, Try.f6.params[j]? = some t → args[j]? = some v → Value.okWide Try.prog W .any base t v := hval0
  have hW' := hW
  obtain ⟨p, q, hA0, hV, rfl, _, _⟩ := hW
  have hA : DataW.TrodAll enc Try.prog W 0 (fun _ => true) true Try.f6.params.toList args.toList ds p := hA0
  rw [Try.params6] at hA hval
  obtain ⟨v0, d0, rfl, rfl, h0⟩ := trodAll_one hA
  obtain ⟨rfl, rfl⟩ := trodVars_none hV
  obtain ⟨cs0, rfl, _⟩ := okWide_struct Try.underlying41 (hval 0 41 v0 rfl rfl)
  have h0k := h0
  obtain ⟨fuel0, hf0⟩ := h0
  clear hA0 hval0
  simp only [List.append_nil] at hW'
  have hlt0 : ∀ y ∈ p, y.block < W.heap.size := fun y hy => by simpa using hW'.lt y (by simp [hy])
  obtain ⟨t, hp0, hr0, _⟩ := rd_term H enc W 0 (fun _ => true) true fuel0 _ _ hf0
  have hr0 := rel_cellsA hr0
  have hlaw := G_out (X := Xf) rfl ((by have := law_isRule t hp0; rw [show tm t = .agg (tcells t) from by rw [tcells_eq]] at this; exact this))
  refine (hlaw.2 W (fun _ => False) [.agg cs0] trivial (fun _ h => h.elim) (fun _ h => h.elim) (by simp only [relL]; exact ⟨_, _, rfl, hr0, rfl⟩)).mono ?_
  rintro e W' ⟨v, rfl, hn, hv⟩
  simp only [rel] at hv
  subst hv
  exact ⟨_, rfl, _, _, _, [], _, [], hW', trodAll_mk1 (shut_bool Try.underlying4 true), trodAll_mk1 (Below.trod Try.laid (by kernel_rfl) (of_decide_eq_true (by kernel_rfl)) h0k hn hlt0), rfl, hn.frame _, fun h => by cases h⟩

theorem FnExactIsRule_holds : Rows.FnExactIsRuleSaid :=
  OpenClaim.holds_of_wide 6 Try.f6 rfl rfl rfl rfl rfl rfl rfl ⟨rfl, rfl, rfl, rfl, rfl⟩ rfl rfl rfl rfl rfl (by kernel_rfl) Try.func6 (by kernel_rfl)
    (of_decide_eq_true (by kernel_rfl)) (by unfold Func.isWrapper; first | (rw [if_pos (by decide +kernel)]; kernel_rfl) | (rw [if_neg (by decide +kernel)]; exact ⟨rfl, rfl⟩))
    (fun os started H enc _ => FnExactIsRule_lifted os started H enc)

#print axioms FnExactIsRule_holds
end Go.Proofs.Ytencikloakamfaa
