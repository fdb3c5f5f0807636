/- COMPARELPO: program and reference; the law. -/
import Derived.Test.YtbikhinddomhpaaGreatLp
namespace Go.Proofs.YtbikhinddomhpaaGreat
open Go Go.RowKit Go.Proofs.YtbikhinddomhpaaGreat.Abs

set_option linter.unusedSimpArgs false
set_option linter.unusedVariables false
set_option maxHeartbeats 1000000

def codeI (e g l : Bool) : Int := if e then 1 else if g then 2 else if l then 3 else 0

theorem l6Code_eq (e g l : Bool) : G 31 [vb e, vb g, vb l] = some (vi (codeI e g l), []) := by
  rw [g31]
  cases e <;> cases g <;> cases l <;> simp -implicitDefEqProofs only [evs, Nat.reduceAdd, reduceIte, codeI]

theorem ordered_eq {f g : FuncId} {caps caps' : List A} (hf : K.pureF f = true) (hg : K.pureF g = true) (e gr le : Bool) (h1 : G f caps = some (vb gr, [])) (h2 : G g caps' = some (vb le, [])) :
    G 24 [vb e, .fn f caps, .fn g caps'] = some (vi (codeI e gr le), []) := by
  rw [g24]
  cases e <;> cases gr <;> cases le <;> simp -implicitDefEqProofs only [evs, Nat.reduceAdd, reduceIte, callc_fn hf, callc_fn hg, List.nil_append, h1, h2, codeI]

noncomputable def cmpLPO (o : Ord') (s t : T) : Int := codeI (dq s t) (lpoN o (nodes s + nodes t) s t) (lpoN o (nodes s + nodes t) t s)
noncomputable def compareLPO (o : Ord') (s t : T) : A := if validO o && (good o s && good o t) then .tup [vi (cmpLPO o s t), vb true] else .tup [vi 0, vb false]

theorem isCovered2 (o : Ord') (s t : T) (ho : owf o) (hw : twf s) (hs : tsz s ≤ 1048576) (hw' : twf t) (hs' : tsz t ≤ 1048576) : G 22 [od o, .sl 2 [[sv s.name, .sl 2 (s.args.map tcells)], [sv t.name, .sl 2 (t.args.map tcells)]]] = some (vb (validO o && (good o s && good o t)), []) := by
  have e1 := isCovered_eq o [s, t] ho (by simp) (by simp [hw, hs, hw', hs'])
  have e0 : (tms [s, t] : A) = .sl 2 [[sv s.name, .sl 2 (s.args.map tcells)], [sv t.name, .sl 2 (t.args.map tcells)]] := by show A.sl 2 [tcells s, tcells t] = _; rw [tcells_eq, tcells_eq]
  rw [e0] at e1
  simp only [List.all_cons, List.all_nil, Bool.and_true] at e1
  exact e1

theorem impl_compareLPO (o : Ord') (s t : T) (ho : owf o) (hw : twf s) (hs : tsz s ≤ 1048576) (hw' : twf t) (hs' : tsz t ≤ 1048576) : G 10 [od o, tm s, tm t] = some (compareLPO o s t, []) := by
  have e1 := isCovered2 o s t ho hw hs hw' hs'
  rw [g10, compareLPO]
  cases h : (validO o && (good o s && good o t)) <;> rw [h] at e1
  · simp -implicitDefEqProofs only [evs, Nat.reduceAdd, reduceIte, e1]
  · simp only [Bool.and_eq_true] at h
    obtain ⟨_, h2, h3⟩ := h
    have g2 := good_spec h2
    have g3 := good_spec h3
    have e4 := equalTerms_eq s hw t hw'
    have e5 := lpo_eq o ho.1.2 (nodes s + nodes t) s t (Nat.le_refl _) hw hw' g2.1 g3.1 g2.2.1 g3.2.1
    have e6 := lpo_eq o ho.1.2 (nodes s + nodes t) t s (by omega) hw' hw g3.1 g2.1 g3.2.1 g2.2.1
    have c1 : G 26 [.elt (ocells o) 0, .elt [sv s.name, .sl 2 (s.args.map tcells)] 0, .elt [sv t.name, .sl 2 (t.args.map tcells)] 0] = some (vb (lpoN o (nodes s + nodes t) s t), []) := by
      rw [g26]
      simp -implicitDefEqProofs only [evs, Nat.reduceAdd, reduceIte, pLoadN_2, pLoadN_3, e5]
    have c2 : G 28 [.elt (ocells o) 0, .elt [sv t.name, .sl 2 (t.args.map tcells)] 0, .elt [sv s.name, .sl 2 (s.args.map tcells)] 0] = some (vb (lpoN o (nodes s + nodes t) t s), []) := by
      rw [g28]
      simp -implicitDefEqProofs only [evs, Nat.reduceAdd, reduceIte, pLoadN_2, pLoadN_3, e6]
    have e7 := ordered_eq (f := 26) (g := 28) rfl rfl (dq s t) _ _ c1 c2
    simp -implicitDefEqProofs only [evs, Nat.reduceAdd, reduceIte, e1, e4, e7, cmpLPO]

theorem compareLPO_shape (o : Ord') (s t : T) : ∃ (x : Int) (b : Bool), compareLPO o s t = .tup [vi x, vb b] := by
  unfold compareLPO
  split
  · exact ⟨_, _, rfl⟩
  · exact ⟨_, _, rfl⟩

theorem left1_sz {left : Int} {n : Nat} (h0 : 0 ≤ left) (h1 : left ≤ 1048576) (h : ¬ left1 left (n : Int) < 0) : 0 ≤ left1 left (n : Int) ∧ left1 left (n : Int) ≤ 1048576 ∧ n ≤ 1048576 := by
  unfold left1 at h ⊢
  split at h
  · rename_i hc
    rw [if_pos hc]
    omega
  · exact absurd neg1_lt h

end Go.Proofs.YtbikhinddomhpaaGreat
