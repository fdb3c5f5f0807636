/- For every input the law FnRewriting of the program returns true, and its argument reads behind the call as before. Conditions: none. -/
import Derived.Test.YtnbjmmldjggkfaaGreatPk2
import Derived.Test.YtnbjmmldjggkfaaGreatFe
namespace Go.Proofs.YtnbjmmldjggkfaaGreat
open Go Go.ChangeShapes Go.WideShapes Go.ChangeAt Go.RowKit Go.Deep Go.Proofs.YtnbjmmldjggkfaaGreat.Abs

theorem wf_U8 {n : Int} (h : (Lit.int .u8 n).wf = true) : 0 ≤ n ∧ n ≤ 255 := by
  have h1 : IntKind.u8.min = 0 := rfl
  have h2 : IntKind.u8.max = 255 := rfl
  simp [Lit.wf, h1, h2] at h
  exact h
theorem rd_byte : Rdr Tryz.prog 5 cy (fun n => 0 ≤ n ∧ n ≤ 255) := by
  intro H enc w base spare held fuel cs x h
  obtain ⟨n, rfl, _, hw⟩ := DataW.trod_int Tryz.underlying5 h
  exact ⟨n, wf_U8 hw, by simp [relL, rel], by simp [OneCells, Value.oneCell']⟩
theorem rd_bytes : Rdr Tryz.prog 53 (fun l : List Int => [bts l]) (fun l => (∀ n ∈ l, 0 ≤ n ∧ n ≤ 255) ∧ l.length ≤ 9223372036854775807) :=
  Rdr.slice Tryz.underlying53 (by kernel_rfl) (by decide) (fun _ => rfl) rd_byte

set_option maxRecDepth 100000 in
theorem FnRewriting_lifted (os : Os) (started : os.Started) (H : Type) (enc : TypeId × Value → H) :
    ReturnsInHanded {} Tryz.checked os 6 .any (Rows.fnRewritingSpec.pre6 enc Tryz.prog Tryz.f6 Rows.fnRewritingRow.domain false) (Rows.fnRewritingSpec.post enc Tryz.prog Tryz.f6 false true false false) := by
  refine returnsInHanded_of_change (C := Tryz.checked) Tryz.ownK started (by kernel_rfl) Tryz.func6
    (ChangeSpec.witness6 (enc := enc) (C := Tryz.checked) false ⟨#[], #[.slice none 0 0], []⟩ 8 (by kernel_rfl) (by kernel_rfl) (by kernel_rfl) (by kernel_rfl)) ?_
  intro W base args ds gs before hval0 hW _ _
  have hval : ∀ (j : Nat) t v, Tryz.f6.params[j]? = some t → args[j]? = some v → Value.okWide Tryz.prog W .any base t v := hval0
  have hW' := hW
  obtain ⟨p, q, hA0, hV, rfl, _, _⟩ := hW
  have hA : DataW.TrodAll enc Tryz.prog W 0 (fun _ => true) true Tryz.f6.params.toList args.toList ds p := hA0
  rw [Tryz.params6] at hA hval
  obtain ⟨v0, d0, rfl, rfl, h0⟩ := trodAll_one hA
  obtain ⟨rfl, rfl⟩ := trodVars_none hV
  obtain ⟨a0, l0, c0, rfl⟩ := okWide_slice Tryz.underlying53 (hval 0 53 v0 rfl rfl)
  have h0k := h0
  obtain ⟨fuel0, hf0⟩ := h0
  clear hA0 hval0
  simp only [List.append_nil] at hW'
  have hlt0 : ∀ y ∈ p, y.block < W.heap.size := fun y hy => by simpa using hW'.lt y (by simp [hy])
  obtain ⟨code, hp0, hr0, _⟩ := rd_bytes H enc W 0 (fun _ => true) true fuel0 _ _ hf0
  have hr0 := rel_cells1 hr0 rfl
  have hlaw := G_out (X := Xf) rfl (law_rewriting code hp0)
  refine (hlaw.2 W (fun _ => False) [.slice a0 l0 c0] trivial (fun _ h => h.elim) (fun _ h => h.elim) (by simp only [relL]; exact ⟨_, _, rfl, hr0, rfl⟩)).mono ?_
  rintro e W' ⟨v, rfl, hn0, hv⟩
  have hn := hn0.kit
  simp only [rel] at hv
  subst hv
  exact ⟨_, rfl, _, _, _, [], _, [], hW', trodAll_mk1 (shut_bool Tryz.underlying4 true), trodAll_mk1 (Below.trod Tryz.laid (by kernel_rfl) (of_decide_eq_true (by kernel_rfl)) h0k hn hlt0), rfl, hn.frame _, fun h => by cases h⟩

theorem FnRewriting_holds : Rows.FnRewritingSaid :=
  OpenClaim.holds_of_wide 6 Tryz.f6 rfl rfl rfl rfl rfl rfl rfl ⟨rfl, rfl, rfl, rfl, rfl⟩ rfl rfl rfl rfl rfl (by kernel_rfl) Tryz.func6 (by kernel_rfl)
    (of_decide_eq_true (by kernel_rfl)) (by unfold Func.isWrapper; first | (rw [if_pos (by decide +kernel)]; kernel_rfl) | (rw [if_neg (by decide +kernel)]; exact ⟨rfl, rfl⟩))
    (fun os started H enc _ => FnRewriting_lifted os started H enc)

#print axioms FnRewriting_holds
end Go.Proofs.YtnbjmmldjggkfaaGreat
