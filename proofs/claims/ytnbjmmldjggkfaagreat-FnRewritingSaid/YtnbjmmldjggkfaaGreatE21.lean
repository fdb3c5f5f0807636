/- SORTED STRINGS: the library's sort as a call that is handed a row. -/
import Derived.Test.YtnbjmmldjggkfaaGreatE20
import Derived.Sort.Grow
import Derived.Sort.EncStr
namespace Go.Proofs.YtnbjmmldjggkfaaGreat.Abs
open Go Go.RowKit Go.Sort
noncomputable section

def strOf? : List A → Option (List UInt8)
  | [.val (.string s)] => some (bs s)
  | _ => none
def strsOf? : List (List A) → Option (List (List UInt8))
  | [] => some []
  | x :: xs => (match strOf? x, strsOf? xs with | some s, some l => some (s :: l) | _, _ => none)
def sortB (ss : List (List UInt8)) : List (List UInt8) := ss.mergeSort fun x y => decide (x ≤ y)
def sortX : List V → List Abs.Obj → Option Out
  | [.row 0], [.row 1 xs] => (match strsOf? xs with
    | some ss => if ss.length < 4611686018427387904 then some (.top, [.sl 1 ((sortB ss).map fun s => [sv s])]) else none
    | none => none)
  | _, _ => none

theorem strOf_eq {x : List A} {s : List UInt8} (h : strOf? x = some s) : x = [sv s] := by
  unfold strOf? at h
  split at h
  · cases h; rw [sv_bs]
  · cases h
theorem strsOf_eq : ∀ {xs : List (List A)} {ss : List (List UInt8)}, strsOf? xs = some ss → xs = ss.map fun s => [sv s]
  | [], ss, h => by simp only [strsOf?] at h; cases h; rfl
  | x :: xs, ss, h => by
    simp only [strsOf?] at h
    split at h
    · rename_i s l h1 h2
      cases h
      rw [strOf_eq h1, strsOf_eq h2]; rfl
    · cases h
theorem strsOf_map : ∀ ss : List (List UInt8), strsOf? (ss.map fun s => [sv s]) = some ss
  | [] => rfl
  | s :: ss => by simp [strsOf?, strOf?, strsOf_map ss]

/-- The same, as a library function. -/
def sortE : ExtV := ⟨fun _ _ => some [], fun args objs _ => sortX args objs⟩

/-- The signature of a call that turns a row of strings. -/
def sgSort : SigA := ⟨0, [1], [.io 0], [], .tup []⟩

theorem relL_strs {w : World} {O : Nat → Prop} : ∀ {ss : List (List UInt8)} {vs : List Value}, relL w O (ss.map fun s => [sv s]).flatten vs ↔ vs = ss.map encStr
  | [], vs => by simp [relL]
  | s :: ss, vs => by
    simp only [List.map_cons, List.flatten_cons, List.cons_append, List.nil_append, relL, rel]
    constructor
    · rintro ⟨v, r, rfl, rfl, h⟩
      rw [relL_strs] at h
      rw [h]
    · intro h
      exact ⟨_, _, h, rfl, relL_strs.2 rfl⟩

theorem stOf1_alive {o o' : Abs.Obj} (h : o.alive = o'.alive) (id : Nat) : (stOf [o] id).alive = (stOf [o'] id).alive := by
  cases id with
  | zero => exact h
  | succ n => rfl

theorem frozen_zero {w : World} {b j : Nat} {c : Array Value} {T : TypeId} (h : w.heap[b]? = some (.cells c T (0, 0))) : w.frozen? ⟨b, j, none⟩ = false := by
  simp [World.frozen?, h]

theorem sort_SOk {X : Ctx} {P : Program} {f : FuncId} (he : Enters P f)
    (h1 : ∀ (blk off cap : Nat) (ss : List (List UInt8)) (w : World), Holds encStr w blk off ss.toArray → blk < w.heap.size → ss.length < 4611686018427387904 →
      Calls P f #[.slice (some ⟨blk, off, none⟩) ss.length cap] w fun e w' => e = .returned (.tuple #[]) ∧ ∃ n os, w' = grow (putRow encStr (Sort.ahead w n) blk off (ss.mergeSort fun x y => decide (x ≤ y)).toArray) os)
    (h0 : ∀ (p : Option Addr) (cap : Nat) (w : World), Calls P f #[.slice p 0 cap] w fun e w' => e = .returned (.tuple #[]) ∧ w' = w)
    {args : List V} {objs : List Abs.Obj} {out : Out} (h : sortX args objs = some out) : SOk X P f args objs sgSort out := by
  unfold sortX at h
  split at h
  rotate_left
  · cases h
  rename_i xs
  split at h
  rotate_left
  · cases h
  rename_i ss hss
  split at h
  rotate_left
  · cases h
  rename_i hlen
  cases h
  have hxs := strsOf_eq hss
  refine ⟨he, fun w O m vs hsto hsome hrel => ?_⟩
  simp only [relVL, relV] at hrel
  obtain ⟨v, r, rfl, ⟨hd, hm, hv⟩, rfl⟩ := hrel
  have hob := hsto.obj 0
  have hst0 : stOf [Abs.Obj.row 1 xs] 0 = .row 1 xs := rfl
  rw [hst0, hm] at hob
  obtain ⟨hd', e1, hrow⟩ := hob
  cases e1
  have hholes : HolesOk sgSort (A.top, [A.sl 1 ((sortB ss).map fun s => [sv s])]) [] [(sortB ss).map fun s => [sv s]] := by
    refine ⟨rfl, fun i a h => by simp at h, rfl, fun j r k h1 h2 => ?_⟩
    cases j with
    | zero =>
      simp [sgSort] at h1 h2
      subst h1 h2
      simp [hR, sgSort]
    | succ j => simp at h1
  have hobjs : sgSort.objs [] [(sortB ss).map fun s => [sv s]] = [.row 1 ((sortB ss).map fun s => [sv s])] := rfl
  cases hd with
  | tre => exact hrow.elim
  | mp => exact hrow.elim
  | none =>
    simp only [rowOk] at hrow
    simp only [hdr] at hv
    obtain ⟨a, rfl⟩ := hv
    have hs0 : ss = [] := by
      rw [hrow] at hxs
      simpa using hxs.symm
    subst hs0
    refine (h0 a 0 w).mono ?_
    rintro e w' ⟨rfl, rfl⟩
    have hsb : sortB [] = [] := by simp [sortB]
    refine ⟨_, rfl, [], [(sortB []).map fun s => [sv s]], m, hholes, ⟨rfl, rfl, Quiet.refl _, Nat.le_refl _⟩, fun _ _ _ => rfl, ?_, fun _ _ => rfl, ?_, ?_⟩
    · rw [hobjs, hsb, hrow]; exact fun b hb => Or.inl hb
    · rw [hobjs, hsb]; rw [hrow] at hsto; exact hsto
    · simp only [sgSort, Sh.toV, relV]; exact ⟨[], rfl, by simp [Sh.toVL, relVL]⟩
  | blk b cap n =>
    obtain ⟨rfl, q1, q2, q3, c, T, q4, q5, q6, q7⟩ := hrow
    simp only [hdr] at hv
    subst hv
    have hxl : xs.length = ss.length := by rw [hxs]; simp
    have hcells : c.toList.take (xs.length * 1) = ss.map encStr := by
      have := q7
      rw [hxs] at this
      rw [relL_strs] at this
      rw [← hxs] at this
      exact this
    have hget : ∀ j, j < ss.length → c[j]? = some (encStr ss[j]!) := by
      intro j hj
      have := congrArg (fun l => l[j]?) hcells
      simp only [List.getElem?_take, List.getElem?_map] at this
      rw [if_pos (by omega), List.getElem?_eq_getElem hj] at this
      rw [← Array.getElem?_toList, this]
      simp [hj]
    have hb : b < w.heap.size := (Array.getElem?_eq_some_iff.1 q4).1
    have hH : Holds encStr w b 0 ss.toArray := by
      intro j hj
      have hj : j < ss.length := by simpa using hj
      refine ⟨?_, frozen_zero q4⟩
      have := hget j hj
      simp only [World.cell?, q4, Nat.zero_add]
      rw [this]
      simp [hj]
    have hcall := h1 b 0 cap ss w hH hb hlen
    rw [← hxl] at hcall
    refine hcall.mono ?_
    rintro e w' ⟨rfl, n, os, rfl⟩
    have hsl : (sortB ss).length = ss.length := by simp [sortB]
    generalize hW : grow (putRow encStr (Sort.ahead w n) b 0 (ss.mergeSort fun x y => decide (x ≤ y)).toArray) os = w'
    have hheap : w'.heap = (w.heap.modify b (onCells (putCells encStr 0 (ss.mergeSort fun x y => decide (x ≤ y)).toArray))) ++ os := by rw [← hW]; rfl
    have hother : ∀ b', b' < w.heap.size → b' ≠ b → w'.heap[b']? = w.heap[b']? := by
      intro b' hb' hne
      rw [hheap, Array.getElem?_append_left (by simpa using hb'), Array.getElem?_modify, if_neg (Ne.symm hne)]
    have hself : w'.heap[b]? = some (.cells (putCells encStr 0 (sortB ss).toArray c) T (0, 0)) := by
      rw [hheap, Array.getElem?_append_left (by simpa using hb), Array.getElem?_modify, if_pos rfl, q4]
      rfl
    have hst : ∀ id, (stOf [Abs.Obj.row 1 ((sortB ss).map fun s => [sv s])] id).alive = (stOf [Abs.Obj.row 1 xs] id).alive := stOf1_alive rfl
    have hmz : ∀ b', Mz m (stOf [Abs.Obj.row 1 ((sortB ss).map fun s => [sv s])]) b' → Mz m (stOf [Abs.Obj.row 1 xs]) b' := by
      rintro b' ⟨id, hd', ha, hm', hi'⟩
      exact ⟨id, hd', by rw [← hst id]; exact ha, hm', hi'⟩
    have hbm : Mz m (stOf [Abs.Obj.row 1 xs]) b := ⟨0, _, rfl, hm, mem_blk⟩
    have hsz : w.heap.size ≤ w'.heap.size := by rw [hheap]; simp
    have hchg : Chg w m (stOf [Abs.Obj.row 1 xs]) w' m (stOf [Abs.Obj.row 1 ((sortB ss).map fun s => [sv s])]) := by
      refine ⟨by rw [← hW]; rfl, by rw [← hW]; rfl, ⟨by rw [← hW]; rfl, by rw [← hW]; exact Nat.le_add_right _ _⟩, hsz, fun b' hb' hn => hother b' hb' fun e => hn (by rw [e]; exact hbm), MLe.refl m, fun b' h => Or.inl (hmz b' h)⟩
    have hcut : (putCells encStr 0 (sortB ss).toArray c).toList.take (xs.length * 1) = (sortB ss).map encStr := by
      refine List.ext_getElem? fun j => ?_
      rw [List.getElem?_take, List.getElem?_map]
      by_cases hj : j < ss.length
      · have hjc := hget j hj
        have hjs : j < c.size := (Array.getElem?_eq_some_iff.1 hjc).1
        have hjb : j < (sortB ss).length := by omega
        rw [if_pos (by omega), Array.getElem?_toList]
        unfold putCells
        rw [Array.getElem?_mapIdx, hjc]
        have : 0 ≤ j ∧ j < 0 + (sortB ss).toArray.size := ⟨Nat.zero_le _, by simpa using hjb⟩
        simp only [Option.map_some, this, and_self, if_true, Nat.sub_zero]
        rw [List.getElem?_eq_getElem hjb]
        simp [hjb]
      · rw [if_neg (by omega), List.getElem?_eq_none (show (sortB ss).length ≤ j by omega)]
        rfl
    refine ⟨_, rfl, [], [(sortB ss).map fun s => [sv s]], m, hholes, ⟨hchg.os, hchg.tape, hchg.output, hsz⟩, hchg.keep, fun b' h => Or.inl (hmz b' (by rw [hobjs] at h; exact h)), fun _ _ => rfl, ?_, ?_⟩
    · rw [hobjs]
      refine hsto.chg hchg ?_ (fun id hd' b' ha hm' _ => Or.inl ⟨by rw [← hst id]; exact ha, hm'⟩) (fun id id' hd1 hd2 b' ha ha' => hsto.inj id id' hd1 hd2 b' (by rw [← hst id]; exact ha) (by rw [← hst id']; exact ha')) ?_
      · intro id h
        refine hsto.fresh id ?_
        cases id with
        | zero => cases h
        | succ id => rfl
      · intro id
        cases id with
        | succ id => exact Or.inl ⟨rfl, rfl, fun hd' b' ha => by cases ha⟩
        | zero =>
          right
          rw [hm]
          refine ⟨_, rfl, by simp [hsl, hxl], by simp [hsl]; omega, q2, by simp, _, T, hself, ?_, ?_, ?_⟩
          · simp [putCells]; omega
          · have e : ((sortB ss).map fun s => [sv s]).length = xs.length := by simp [hsl, hxl]
            rw [e, hcut]
            intro u hu
            obtain ⟨s, _, rfl⟩ := List.mem_map.1 hu
            rfl
          · have e : ((sortB ss).map fun s => [sv s]).length = xs.length := by simp [hsl, hxl]
            rw [e, relL_strs]
            exact hcut
    · simp only [sgSort, Sh.toV, relV]; exact ⟨[], rfl, by simp [Sh.toVL, relVL]⟩
end
end Go.Proofs.YtnbjmmldjggkfaaGreat.Abs
