/- READERS OF STRUCTS. -/
import Derived.Test.YtbikhinddomhpaaGreatU
import Derived.ChangeSame
namespace Go.Proofs.YtbikhinddomhpaaGreat
open Go Go.RowKit Go.ChangeShapes Go.Deep Go.Proofs.YtbikhinddomhpaaGreat.Abs

section
variable {P : Program} {t : Nat} {H : Type} {enc : TypeId × Value → H} {w : World} {base : Nat} {spare : Nat → Bool} {held : Bool} {fuel : Nat} {cs : List Value} {x : DataW H × List MemPlace}

theorem struct_of1 {α : Type} {g0 : α → List A} {p0 : α → Prop} {f0 : Field} {k0 : Nat} (ht : P.underlying t = some (.struct #[f0]))
    (o0 : f0.offset = 0) (c0 : P.cellsOf f0.type = k0) (c : P.cellsOf t = k0)
    (h0 : ∀ n cs x, n < fuel → DataW.trod enc P w base spare held n f0.type cs = some x → ∃ a, p0 a ∧ relL w (fun _ => False) (g0 a) cs ∧ OneCells cs)
    (h : DataW.trod enc P w base spare held fuel t cs = some x) : ∃ a, p0 a ∧ relL w (fun _ => False) (g0 a) cs ∧ OneCells cs := by
  obtain ⟨xs, n, hfn, rfl, hl, hlen, hf⟩ := DataW.trod_struct ht h
  have e0 := hf 0 f0 rfl
  rw [o0, c0] at e0
  have hlen : xs.length = 1 := hlen
  have hx0 : xs[0]? = some xs[0] := List.getElem?_eq_getElem (by omega)
  rw [hx0] at e0
  obtain ⟨a, q1, q2, q3⟩ := h0 n _ _ (by omega) e0
  rw [List.drop_zero, List.take_of_length_le (by omega)] at q2 q3
  exact ⟨a, q1, q2, q3⟩

theorem struct_of2 {α β : Type} {g0 : α → List A} {g1 : β → List A} {p0 : α → Prop} {p1 : β → Prop} {f0 f1 : Field} {k0 k1 : Nat} (ht : P.underlying t = some (.struct #[f0, f1]))
    (o0 : f0.offset = 0) (o1 : f1.offset = k0) (c0 : P.cellsOf f0.type = k0) (c1 : P.cellsOf f1.type = k1) (c : P.cellsOf t = k0 + k1)
    (h0 : ∀ n cs x, n < fuel → DataW.trod enc P w base spare held n f0.type cs = some x → ∃ a, p0 a ∧ relL w (fun _ => False) (g0 a) cs ∧ OneCells cs)
    (h1 : ∀ n cs x, n < fuel → DataW.trod enc P w base spare held n f1.type cs = some x → ∃ a, p1 a ∧ relL w (fun _ => False) (g1 a) cs ∧ OneCells cs)
    (h : DataW.trod enc P w base spare held fuel t cs = some x) : ∃ a b, p0 a ∧ p1 b ∧ relL w (fun _ => False) (g0 a ++ g1 b) cs ∧ OneCells cs := by
  obtain ⟨xs, n, hfn, rfl, hl, hlen, hf⟩ := DataW.trod_struct ht h
  have e0 := hf 0 f0 rfl
  have e1 := hf 1 f1 rfl
  rw [o0, c0] at e0
  rw [o1, c1] at e1
  have hlen : xs.length = 2 := hlen
  have hx0 : xs[0]? = some xs[0] := List.getElem?_eq_getElem (by omega)
  have hx1 : xs[1]? = some xs[1] := List.getElem?_eq_getElem (by omega)
  rw [hx0] at e0
  rw [hx1] at e1
  obtain ⟨a, q1, q2, q3⟩ := h0 n _ _ (by omega) e0
  obtain ⟨b, r1, r2, r3⟩ := h1 n _ _ (by omega) e1
  have e : cs = (cs.drop 0).take k0 ++ (cs.drop k0).take k1 := by
    rw [List.take_of_length_le (l := cs.drop k0) (by simp; omega), List.drop_zero, List.take_append_drop]
  rw [e]
  exact ⟨a, b, q1, r1, relL_append q2 r2, OneCells.append q3 r3⟩

theorem struct_of3 {α β γ : Type} {g0 : α → List A} {g1 : β → List A} {g2 : γ → List A} {p0 : α → Prop} {p1 : β → Prop} {p2 : γ → Prop} {f0 f1 f2 : Field} {k0 k1 k2 : Nat} (ht : P.underlying t = some (.struct #[f0, f1, f2]))
    (o0 : f0.offset = 0) (o1 : f1.offset = k0) (o2 : f2.offset = k0 + k1) (c0 : P.cellsOf f0.type = k0) (c1 : P.cellsOf f1.type = k1) (c2 : P.cellsOf f2.type = k2) (c : P.cellsOf t = k0 + k1 + k2)
    (h0 : ∀ n cs x, n < fuel → DataW.trod enc P w base spare held n f0.type cs = some x → ∃ a, p0 a ∧ relL w (fun _ => False) (g0 a) cs ∧ OneCells cs)
    (h1 : ∀ n cs x, n < fuel → DataW.trod enc P w base spare held n f1.type cs = some x → ∃ a, p1 a ∧ relL w (fun _ => False) (g1 a) cs ∧ OneCells cs)
    (h2 : ∀ n cs x, n < fuel → DataW.trod enc P w base spare held n f2.type cs = some x → ∃ a, p2 a ∧ relL w (fun _ => False) (g2 a) cs ∧ OneCells cs)
    (h : DataW.trod enc P w base spare held fuel t cs = some x) : ∃ a b d, p0 a ∧ p1 b ∧ p2 d ∧ relL w (fun _ => False) (g0 a ++ g1 b ++ g2 d) cs ∧ OneCells cs := by
  obtain ⟨xs, n, hfn, rfl, hl, hlen, hf⟩ := DataW.trod_struct ht h
  have e0 := hf 0 f0 rfl
  have e1 := hf 1 f1 rfl
  have e2 := hf 2 f2 rfl
  rw [o0, c0] at e0
  rw [o1, c1] at e1
  rw [o2, c2] at e2
  have hlen : xs.length = 3 := hlen
  have hx0 : xs[0]? = some xs[0] := List.getElem?_eq_getElem (by omega)
  have hx1 : xs[1]? = some xs[1] := List.getElem?_eq_getElem (by omega)
  have hx2 : xs[2]? = some xs[2] := List.getElem?_eq_getElem (by omega)
  rw [hx0] at e0
  rw [hx1] at e1
  rw [hx2] at e2
  obtain ⟨a, q1, q2, q3⟩ := h0 n _ _ (by omega) e0
  obtain ⟨b, r1, r2, r3⟩ := h1 n _ _ (by omega) e1
  obtain ⟨d, s1, s2, s3⟩ := h2 n _ _ (by omega) e2
  have e : cs = (cs.drop 0).take k0 ++ (cs.drop k0).take k1 ++ (cs.drop (k0 + k1)).take k2 := by
    rw [List.take_of_length_le (l := cs.drop (k0 + k1)) (by simp; omega), List.drop_zero, List.append_assoc, ← List.drop_drop, List.take_append_drop, List.take_append_drop]
  rw [e]
  exact ⟨a, b, d, q1, r1, s1, relL_append (relL_append q2 r2) s2, OneCells.append (OneCells.append q3 r3) s3⟩
end

theorem Rdr.strb {P : Program} {t : Nat} (ht : P.underlying t = some .string) : Rdr P t cs (fun s => s.length ≤ 9223372036854775807) := by
  intro H enc w base spare held fuel cs x h
  obtain ⟨s, h1, h2, h3⟩ := Rdr.str ht H enc w base spare held fuel cs x h
  exact ⟨bs s, by show (bs s).length ≤ _; rw [← size_bs]; exact h1, h2, h3⟩
end Go.Proofs.YtbikhinddomhpaaGreat
