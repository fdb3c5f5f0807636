/- WHAT CAME IN, READ: a value that reads as data stands for an abstract value. -/
import Derived.Test.YtnbjmmldjggkfaaGreatE19
import Derived.Deep.Slices
namespace Go.Proofs.YtnbjmmldjggkfaaGreat.Abs
open Go Go.RowKit Go.Deep

/-- Values of type t stand for elements of α. -/
def Rdr (P : Program) (t : Nat) {α : Type} (f : α → List A) (p : α → Prop) : Prop :=
  ∀ (H : Type) (enc : TypeId × Value → H) (w : World) (base : Nat) (spare : Nat → Bool) (held : Bool) (fuel : Nat) (cs : List Value) (x : DataW H × List MemPlace),
    DataW.trod enc P w base spare held fuel t cs = some x → ∃ a, p a ∧ relL w (fun _ => False) (f a) cs ∧ OneCells cs

section
variable {P : Program} {t e : Nat}

theorem wf_I64 {n : Int} (h : (Lit.int .i64 n).wf = true) : I64 n := by
  have h1 : IntKind.i64.min = -9223372036854775808 := rfl
  have h2 : IntKind.i64.max = 9223372036854775807 := rfl
  simp [Lit.wf, h1, h2] at h
  exact h

theorem Rdr.int (ht : P.underlying t = some (.int .i64)) : Rdr P t (fun n : Int => [A.val (.int .i64 n)]) I64 := by
  intro H enc w base spare held fuel cs x h
  obtain ⟨n, rfl, _, hw⟩ := DataW.trod_int ht h
  exact ⟨n, wf_I64 hw, by simp [relL, rel], by simp [OneCells, Value.oneCell']⟩

theorem Rdr.bool (ht : P.underlying t = some .bool) : Rdr P t (fun b : Bool => [A.val (.bool b)]) (fun _ => True) := by
  intro H enc w base spare held fuel cs x h
  obtain ⟨b, rfl, _⟩ := DataW.trod_bool ht h
  exact ⟨b, trivial, by simp [relL, rel], by simp [OneCells, Value.oneCell']⟩

theorem Rdr.str (ht : P.underlying t = some .string) : Rdr P t (fun s : ByteArray => [A.val (.string s)]) (fun s => s.size ≤ 9223372036854775807) := by
  intro H enc w base spare held fuel cs x h
  obtain ⟨s, rfl, _, hs⟩ := DataW.trod_string ht h
  exact ⟨s, by simpa [maxLen] using hs, by simp [relL, rel], by simp [OneCells, Value.oneCell']⟩

theorem cells?_reads {w : World} {base : Nat} {a : Addr} {n : Nat} {cs : List Value} (h : w.cells? base a n = some cs) : cs.length = n ∧ ∀ j v, cs[j]? = some v → w.cell? (a.add j) = some v := by
  unfold World.cells? at h
  split at h
  · refine ⟨by simpa using mapM_some_length h, fun j v hj => ?_⟩
    have hl : cs.length = n := by simpa using mapM_some_length h
    have hjn : j < n := by rw [← hl]; exact (List.getElem?_eq_some_iff.1 hj).1
    have := mapM_some_get h j j (by simp [hjn])
    rw [this, hj]
  · cases h

theorem build_rows {w : World} {α : Type} {f : α → List A} {p : α → Prop} {k : Nat} (hk : ∀ a, (f a).length = k) (b off : Nat) : ∀ (n : Nat),
    (∀ i, i < n → ∃ a, p a ∧ ∃ cs, relL w (fun _ => False) (f a) cs ∧ OneCells cs ∧ Reads w b (off + i * k) cs) →
    ∃ xs : List α, xs.length = n ∧ (∀ x ∈ xs, p x) ∧ relRows w (fun _ => False) k b off (xs.map f)
  | 0, _ => ⟨[], rfl, by simp, by simp [relRows]⟩
  | n + 1, h => by
    obtain ⟨a, pa, cs, h1, h1o, h2⟩ := h 0 (by omega)
    obtain ⟨xs, h3, h4, h5⟩ := build_rows hk b (off + k) n fun i hi => by
      obtain ⟨a, pa, cs, g1, g1o, g2⟩ := h (i + 1) (by omega)
      refine ⟨a, pa, cs, g1, g1o, ?_⟩
      rwa [show off + (i + 1) * k = off + k + i * k by rw [Nat.add_mul]; omega] at g2
    refine ⟨a :: xs, by simp [h3], ?_, ?_⟩
    · intro x hx
      rcases List.mem_cons.1 hx with rfl | hx
      · exact pa
      · exact h4 x hx
    · simp only [List.map_cons, relRows]
      exact ⟨hk a, cells_of_reads h1 (by simpa using h2) h1o, h5⟩

theorem slice_of {w : World} {α : Type} {f : α → List A} {p : α → Prop} {k : Nat} (hk : ∀ a, (f a).length = k) (h0 : 0 < k) {H : Type} {enc : TypeId × Value → H} {base : Nat} {spare : Nat → Bool} {held : Bool} {fuel : Nat} {cs : List Value} {x : DataW H × List MemPlace}
    (ht : P.underlying t = some (.slice e)) (hc : P.cellsOf e = k)
    (he : ∀ (n : Nat) (cs : List Value) (x : DataW H × List MemPlace), n < fuel → DataW.trod enc P w base spare held n e cs = some x → ∃ a, p a ∧ relL w (fun _ => False) (f a) cs ∧ OneCells cs)
    (h : DataW.trod enc P w base spare held fuel t cs = some x) :
    ∃ xs : List α, ((∀ x ∈ xs, p x) ∧ xs.length ≤ 9223372036854775807) ∧ relL w (fun _ => False) [A.sl k (xs.map f)] cs ∧ OneCells cs := by
  have hfuel : ∃ n, fuel = n + 1 := by cases fuel with | zero => simp [DataW.trod] at h | succ n => exact ⟨n, rfl⟩
  rcases DataW.trod_slice ht h with ⟨rfl, _⟩ | ⟨a, len, cap, elems, rest, n, hfn, rfl, rfl, hb, hl, hm, hlen, hel, _, _⟩
  · exact ⟨[], by simp, by simp only [relL, rel, List.map_nil]; exact ⟨_, [], rfl, ⟨none, 0, rfl, by simp, by omega, Or.inl trivial⟩, rfl⟩, by simp [OneCells, Value.oneCell']⟩
  · have hn : n < fuel := by omega
    have helem : ∀ i, i < len → ∃ cs', (w.cells? base (a.add (i * k)) k) = some cs' ∧ ∃ a', p a' ∧ relL w (fun _ => False) (f a') cs' ∧ OneCells cs' := by
      intro i hi
      have h1 := hel i hi
      rw [hc, List.getElem?_eq_getElem (by omega)] at h1
      obtain ⟨cs', h2, h3⟩ := Option.bind_eq_some_iff.1 h1
      exact ⟨cs', h2, he n cs' _ hn h3⟩
    by_cases h00 : len = 0
    · subst h00
      exact ⟨[], by simp, by simp only [relL, rel, List.map_nil]; exact ⟨_, [], rfl, ⟨some a, cap, rfl, by simp, by simpa [maxLen] using hm, Or.inl trivial⟩, rfl⟩, by simp [OneCells, Value.oneCell']⟩
    · have hspot : a.spot = none ∧ a.block < w.heap.size := by
        obtain ⟨cs', h2, a', _, h3⟩ := helem 0 (by omega)
        obtain ⟨g1, g2⟩ := cells?_reads h2
        obtain ⟨v, hv⟩ : ∃ v, cs'[0]? = some v := ⟨_, List.getElem?_eq_getElem (by omega)⟩
        have := g2 0 v hv
        have e1 : (a.add (0 * k)).add 0 = a := by simp [Addr.add]
        rw [e1] at this
        unfold World.cell? at this
        cases hb' : w.heap[a.block]? with
        | none => simp [hb'] at this
        | some o =>
          refine ⟨?_, (Array.getElem?_eq_some_iff.1 hb').1⟩
          cases o <;> simp [hb'] at this
          exact this.1
      obtain ⟨block, off, spot⟩ := a
      simp only at hspot
      obtain ⟨rfl, hblk⟩ := hspot
      obtain ⟨xs, h1, h2, h3⟩ := build_rows (w := w) (f := f) (p := p) hk block off len fun i hi => by
        obtain ⟨cs', g1, a', g2, g3, g4⟩ := helem i hi
        obtain ⟨q1, q2⟩ := cells?_reads g1
        refine ⟨a', g2, cs', g3, g4, fun j v hj => ?_⟩
        have := q2 j v hj
        rwa [add_eq, add_eq] at this
      have hm' : cap ≤ 9223372036854775807 := by simpa [maxLen] using hm
      refine ⟨xs, ⟨h2, by omega⟩, ?_, by simp [OneCells, Value.oneCell']⟩
      simp only [relL, rel, List.length_map]
      refine ⟨_, [], rfl, ⟨some ⟨block, off, none⟩, cap, by rw [h1], by omega, hm', Or.inr ⟨block, off, rfl, hblk, fun h => h, h3⟩⟩, rfl⟩

theorem Rdr.slice {α : Type} {f : α → List A} {p : α → Prop} {k : Nat} (ht : P.underlying t = some (.slice e)) (hc : P.cellsOf e = k) (h0 : 0 < k) (hk : ∀ a, (f a).length = k) (he : Rdr P e f p) :
    Rdr P t (fun xs : List α => [A.sl k (xs.map f)]) (fun xs => (∀ x ∈ xs, p x) ∧ xs.length ≤ 9223372036854775807) :=
  fun _ _ _ _ _ _ _ _ _ h => slice_of hk h0 ht hc (fun _ _ _ _ h' => he _ _ _ _ _ _ _ _ _ h') h

/-- A value by its cells. -/
theorem rel_cells1 {w : World} {O : Nat → Prop} {a : A} {v : Value} (h : relL w O [a] v.cells.toList) (hv : v.cells = #[v]) : rel w O a v := by
  rw [hv] at h
  simp only [relL, List.cons.injEq] at h
  obtain ⟨u, r, ⟨rfl, _⟩, h2, _⟩ := h
  exact h2
end
end Go.Proofs.YtnbjmmldjggkfaaGreat.Abs
