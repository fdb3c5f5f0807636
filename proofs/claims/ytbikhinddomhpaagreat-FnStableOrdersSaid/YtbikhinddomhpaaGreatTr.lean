/- TERMS: as data, as cells, and read. -/
import Derived.Test.YtbikhinddomhpaaGreatRd
namespace Go.Proofs.YtbikhinddomhpaaGreat
open Go Go.RowKit Go.ChangeShapes Go.Deep Go.Proofs.YtbikhinddomhpaaGreat.Abs

inductive T where
  | mk (name : List UInt8) (args : List T)

def T.name : T → List UInt8 | .mk n _ => n
def T.args : T → List T | .mk _ us => us
theorem T.eta (t : T) : T.mk t.name t.args = t := by cases t; rfl

mutual
def tcells : T → List A
  | .mk n us => [sv n, .sl 2 (tcellsL us)]
def tcellsL : List T → List (List A)
  | [] => []
  | t :: ts => tcells t :: tcellsL ts
end
theorem tcellsL_map : ∀ ts : List T, tcellsL ts = ts.map tcells
  | [] => rfl
  | t :: ts => by simp [tcellsL, tcellsL_map ts]
theorem tcells_eq (t : T) : tcells t = [sv t.name, .sl 2 (t.args.map tcells)] := by
  cases t; simp [tcells, T.name, T.args, tcellsL_map]
theorem tcells_length (t : T) : (tcells t).length = 2 := by rw [tcells_eq]; rfl

abbrev tm (t : T) : A := .agg [sv t.name, .sl 2 (t.args.map tcells)]
abbrev tms (ts : List T) : A := .sl 2 (ts.map tcells)

theorem pLoadN_tcells (t : T) : pLoadN 2 (.elt (tcells t) 0) = some (.agg [sv t.name, .sl 2 (t.args.map tcells)]) := by rw [tcells_eq]; rfl

mutual
/-- What a term holds: letters of names and arguments. -/
def tsz : T → Nat
  | .mk n us => n.length + us.length + tszL us
def tszL : List T → Nat
  | [] => 0
  | t :: ts => tsz t + tszL ts
end
theorem tsz_eq (t : T) : tsz t = t.name.length + t.args.length + tszL t.args := by cases t; simp [tsz, T.name, T.args]
theorem tsz_mem : ∀ {ts : List T} {t : T}, t ∈ ts → tsz t ≤ tszL ts
  | [], _, h => by cases h
  | u :: us, t, h => by
    simp only [tszL]
    rcases List.mem_cons.1 h with rfl | h
    · omega
    · have := tsz_mem h; omega

mutual
/-- Strings and slices have lengths that an int holds. -/
def twf : T → Prop
  | .mk n us => n.length ≤ 9223372036854775807 ∧ us.length ≤ 9223372036854775807 ∧ twfL us
def twfL : List T → Prop
  | [] => True
  | t :: ts => twf t ∧ twfL ts
end
theorem twf_eq (t : T) : twf t ↔ t.name.length ≤ 9223372036854775807 ∧ t.args.length ≤ 9223372036854775807 ∧ twfL t.args := by cases t; simp [twf, T.name, T.args]
theorem twfL_iff : ∀ ts : List T, twfL ts ↔ ∀ t ∈ ts, twf t
  | [] => by simp [twfL]
  | t :: ts => by simp [twfL, twfL_iff ts]

theorem T.ind {p : T → Prop} (h : ∀ t, (∀ u ∈ t.args, p u) → p t) : ∀ t, p t := by
  intro t
  induction hn : SizeOf.sizeOf t using Nat.strongRecOn generalizing t with
  | ind n ih =>
    subst hn
    refine h t fun u hu => ih (SizeOf.sizeOf u) ?_ u rfl
    cases t with
    | mk nm us =>
      have := List.sizeOf_lt_of_mem hu
      simp only [T.args] at this
      simp only [T.mk.sizeOf_spec]
      omega

section
variable {P : Program} {tT tS : Nat}

theorem read_term {H : Type} {enc : TypeId × Value → H} {w : World} {base : Nat} {spare : Nat → Bool} {held : Bool} {f0 f1 : Field} (ht : P.underlying tT = some (.struct #[f0, f1])) (h0 : P.underlying f0.type = some .string) (h1 : P.underlying f1.type = some (.slice tT))
    (o0 : f0.offset = 0) (o1 : f1.offset = 1) (c0 : P.cellsOf f0.type = 1) (c1 : P.cellsOf f1.type = 1) (c2 : P.cellsOf tT = 2) :
    ∀ (fuel : Nat) (cs : List Value) (x : DataW H × List MemPlace), DataW.trod enc P w base spare held fuel tT cs = some x → ∃ t, twf t ∧ relL w (fun _ => False) (tcells t) cs ∧ OneCells cs := by
  intro fuel
  induction fuel using Nat.strongRecOn with
  | ind fuel ih =>
    intro cs x h
    obtain ⟨xs, n, hfn, rfl, hl, hlen, hf⟩ := DataW.trod_struct ht h
    have e0 := hf 0 f0 rfl
    have e1 := hf 1 f1 rfl
    rw [o0, c0] at e0
    rw [o1, c1] at e1
    rw [c2] at hl
    match cs, hl with
    | [u, v], _ =>
      match xs, hlen with
      | [y0, y1], _ =>
        simp only [List.drop_zero, List.take_succ_cons, List.take_zero, List.getElem?_cons_zero] at e0
        simp only [List.drop_succ_cons, List.drop_zero, List.take_succ_cons, List.take_zero, List.getElem?_cons_succ, List.getElem?_cons_zero] at e1
        obtain ⟨s, hs, _, hsz⟩ := DataW.trod_string h0 e0
        obtain ⟨ts, ⟨hts, htl⟩, hr, ho⟩ := slice_of (P := P) (t := f1.type) (e := tT) (f := tcells) (p := twf) tcells_length (by decide) h1 c2 (fun m cs' x' hm hx' => ih m (by omega) cs' x' hx') e1
        have hbs : ∀ s : ByteArray, (⟨⟨bs s⟩⟩ : ByteArray) = s := fun s => rfl
        refine ⟨.mk (bs s) ts, by simp only [twf]; exact ⟨by show (bs s).length ≤ _; rw [← size_bs]; simpa [maxLen] using hsz, htl, (twfL_iff ts).2 hts⟩, ?_, ?_⟩
        · simp only [tcells, tcellsL_map]
          simp only [List.cons.injEq, and_true] at hs
          subst hs
          simp only [relL, List.cons.injEq] at hr
          obtain ⟨v', r', ⟨rfl, rfl⟩, h3, _⟩ := hr
          simp only [relL]
          exact ⟨_, _, rfl, by simp [rel, hbs], _, _, rfl, h3, rfl⟩
        · simp only [List.cons.injEq, and_true] at hs
          subst hs
          intro z hz
          rcases List.mem_cons.1 hz with rfl | hz
          · simp [Value.oneCell']
          · exact ho z hz
end

theorem rd_int : Rdr Tryz.prog 3 ci I64 := Rdr.int Tryz.underlying3
theorem rd_bool : Rdr Tryz.prog 4 (fun b => [vb b]) (fun _ => True) := Rdr.bool Tryz.underlying4
theorem rd_str : Rdr Tryz.prog 9 cs (fun s => s.length ≤ 9223372036854775807) := Rdr.strb Tryz.underlying9
theorem rd_ints : Rdr Tryz.prog 25 (fun xs : List Int => [ints xs]) (fun xs => (∀ x ∈ xs, I64 x) ∧ xs.length ≤ 9223372036854775807) :=
  Rdr.slice Tryz.underlying25 (by kernel_rfl) (by decide) (fun _ => rfl) rd_int
theorem rd_strs : Rdr Tryz.prog 24 (fun xs : List (List UInt8) => [strs xs]) (fun xs => (∀ x ∈ xs, x.length ≤ 9223372036854775807) ∧ xs.length ≤ 9223372036854775807) :=
  Rdr.slice Tryz.underlying24 (by kernel_rfl) (by decide) (fun _ => rfl) rd_str
end Go.Proofs.YtbikhinddomhpaaGreat
