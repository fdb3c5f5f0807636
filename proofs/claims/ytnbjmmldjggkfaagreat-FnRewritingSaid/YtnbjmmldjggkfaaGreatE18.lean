/- CODE: that the evaluator's run of code is the program's. -/
import Derived.Test.YtnbjmmldjggkfaaGreatE17
namespace Go.Proofs.YtnbjmmldjggkfaaGreat.Abs
open Go Go.RowKit
noncomputable section

/-- The part of a code at a path. -/
def subAt : Code → List Nat → Option Code
  | c, [] => some c
  | .seq a _, 0 :: r => subAt a r
  | .seq _ b, 1 :: r => subAt b r
  | .cond _ x _, 0 :: r => subAt x r
  | .cond _ _ y, 1 :: r => subAt y r
  | .block _ b, 0 :: r => subAt b r
  | .loop b, 0 :: r => subAt b r
  | _, _ => none

/-- At a loop's head again. -/
def LoopAgain (P : Program) (c : Code) (Q : Exit → Act → World → Prop) (a : Act) (w : World) : Prop :=
  ∀ (b : Frame) (k : List Item) (cs : List Frame), ∃ e a' w', Q e a' w' ∧ Arrives P (lone (b.at a (.code c :: .inLoop c :: k)) cs w) b k cs e a' w'

theorem LoopAgain.mk {P : Program} {c : Code} {Q : Exit → Act → World → Prop} {a : Act} {w : World} (h : c.wp P (Exit.then (LoopAgain P c Q) Q) a w) : LoopAgain P c Q a w := by
  intro b k cs
  obtain ⟨e, a₁, w₁, hq, harr⟩ := h b (.inLoop c :: k) cs
  cases e with
  | normal =>
    obtain ⟨e₂, a₂, w₂, hq₂, harr₂⟩ := hq b k cs
    exact ⟨e₂, a₂, w₂, hq₂, .of_steps (Steps.trans harr (.one step_inLoop)) harr₂⟩
  | exit id => exact ⟨_, a₁, w₁, hq, .pass (x := .inLoop c) rfl (fun _ _ => .inl (by simp)) harr⟩
  | goto l => exact ⟨_, a₁, w₁, hq, .pass (x := .inLoop c) rfl (fun _ _ => .inl (by simp)) harr⟩
  | ret => exact ⟨_, a₁, w₁, hq, .pass (x := .inLoop c) rfl (fun _ _ => .inl (by simp)) harr⟩
  | panic ch => exact ⟨_, a₁, w₁, hq, .pass (x := .inLoop c) rfl (fun _ _ => .inl (by simp)) harr⟩
  | outgrown => exact ⟨_, a₁, w₁, hq, .pass (x := .inLoop c) rfl (fun _ _ => .inl (by simp)) harr⟩

theorem LoopAgain.wp {P : Program} {c : Code} {Q : Exit → Act → World → Prop} {a : Act} {w : World} (h : LoopAgain P c Q a w) : (Code.loop c).wp P Q a w := by
  intro b k cs
  obtain ⟨e, a', w', hq, harr⟩ := h b k cs
  exact ⟨e, a', w', hq, .of_steps (.one step_loop) harr⟩

/-- What is to hold after the part at a path, for the whole to end as it should. -/
def postAt (P : Program) : Code → List Nat → (Exit → Act → World → Prop) → Exit → Act → World → Prop
  | .seq a b, 0 :: r, Q => postAt P a r (Exit.then (b.wp P Q) Q)
  | .seq _ b, 1 :: r, Q => postAt P b r Q
  | .cond _ x _, 0 :: r, Q => postAt P x r Q
  | .cond _ _ y, 1 :: r, Q => postAt P y r Q
  | .block id b, 0 :: r, Q => postAt P b r (Exit.inBlock id Q)
  | .loop b, 0 :: r, Q => postAt P b r (Exit.then (LoopAgain P b Q) Q)
  | _, _, Q => Q

def Ex.to : Ex → Exit
  | .normal => .normal
  | .exit id => .exit id
  | .ret => .ret

section
variable {C : Cfg} {M : Node → Option Out} {f : FuncId} {r : Out} {X : Ctx} {w0 : World} {Z0 O0 : Nat → Prop} {shv : Option (List Hd)} {sn : Nat}

/-- The continuation keeps the promise. -/
def KOk (X : Ctx) (w0 : World) (Z0 O0 : Nat → Prop) (shv : Option (List Hd)) (sn : Nat) (r : Out) (κ : Ex → St → Option Out) (Q : Exit → Act → World → Prop) : Prop :=
  ∀ e s m a w, s.n = sn → κ e s = some r → Sim X w0 Z0 O0 shv m s a w → Q e.to a w

/-- The loops within keep theirs. -/
def LoopsOk (C : Cfg) (M : Node → Option Out) (f : FuncId) (X : Ctx) (w0 : World) (Z0 O0 : Nat → Prop) (shv : Option (List Hd)) (sn : Nat) (r : Out) (c : Code) (p : List Nat) (Q : Exit → Act → World → Prop) : Prop :=
  ∀ q b s m a w, subAt c q = some (.loop b) → s.n = sn → again M f (p ++ q) (C.kp f (p ++ q)) s = some r → Sim X w0 Z0 O0 shv m s a w → LoopAgain C.P b (postAt C.P c q Q) a w

theorem evC_ok (hD : TyOk C.P C.D) (hM : PureM X C M) (hS : StM X C M) (hm : C.P.follows .mixedOrders = true) : ∀ (c : Code) (p : List Nat) (s : St) (κ : Ex → St → Option Out) (Q : Exit → Act → World → Prop) (m : Asg) (a : Act) (w : World),
    lexC c = true → s.n = sn → evC C M f c p s κ = some r → Sim X w0 Z0 O0 shv m s a w → KOk X w0 Z0 O0 shv sn r κ Q → LoopsOk C M f X w0 Z0 O0 shv sn r c p Q → c.wp C.P Q a w
  | .skip, p, s, κ, Q, m, a, w, _, hn, h, hs, hκ, _ => wp_skip (hκ .normal s m a w hn h hs)
  | .region id ops draw, p, s, κ, Q, m, a, w, hx, hn, h, hs, hκ, _ => evReg_ok (C := C.at f) hD hM hS hm hx h hs fun s' m' a' w' hn' hk hs' => hκ .normal s' m' a' w' (hn'.trans hn) hk hs'
  | .seq x y, p, s, κ, Q, m, a, w, hx, hn, h, hs, hκ, hL => by
    simp only [lexC, Bool.and_eq_true] at hx
    refine wp_seq (evC_ok hD hM hS hm x (p ++ [0]) s _ _ m a w hx.1 hn h hs ?_ ?_)
    · intro e s' m' a' w' hn' hk hs'
      cases e with
      | normal =>
        refine evC_ok hD hM hS hm y (p ++ [1]) s' κ Q m' a' w' hx.2 hn' hk hs' hκ ?_
        intro q b s m a w hq hn hag hs
        rw [List.append_assoc] at hag
        exact hL (1 :: q) b s m a w hq hn hag hs
      | exit id => exact hκ (.exit id) s' m' a' w' hn' hk hs'
      | ret => exact hκ .ret s' m' a' w' hn' hk hs'
    · intro q b s m a w hq hn hag hs
      rw [List.append_assoc] at hag
      exact hL (0 :: q) b s m a w hq hn hag hs
  | .cond c x y, p, s, κ, Q, m, a, w, hx, hn, h, hs, hκ, hL => by
    simp only [lexC, Bool.and_eq_true] at hx
    simp only [evC] at h
    split at h
    · rename_i t ht
      rw [Option.bind_eq_some_iff] at h
      obtain ⟨b, h1, h2⟩ := h
      have hc : a.eval c = .bool b := by
        have := hs.ev c
        rw [ht] at this
        unfold pBool at h1
        split at h1
        · cases h1
          simpa [relV, rel] using this
        · cases h1
      refine wp_cond hc ?_
      cases b with
      | true =>
        refine evC_ok hD hM hS hm x (p ++ [0]) s κ Q m a w hx.1 hn h2 hs hκ ?_
        intro q b s m a w hq hn hag hs
        rw [List.append_assoc] at hag
        exact hL (0 :: q) b s m a w hq hn hag hs
      | false =>
        refine evC_ok hD hM hS hm y (p ++ [1]) s κ Q m a w hx.2 hn h2 hs hκ ?_
        intro q b s m a w hq hn hag hs
        rw [List.append_assoc] at hag
        exact hL (1 :: q) b s m a w hq hn hag hs
    · rename_i n neg ht
      have hc := hs.ev c
      rw [ht] at hc
      simp only [relV] at hc
      obtain ⟨b, hc, hb⟩ := hc
      refine wp_cond hc ?_
      have h : ((b != neg) = true → evC C M f x (p ++ [0]) s κ = some r) ∧ ((b != neg) = false → evC C M f y (p ++ [1]) s κ = some r) := by
        simp only [brn] at h
        split at h
        · rw [bth_some] at h
          exact ⟨fun _ => h.1, fun _ => h.2⟩
        · rename_i hnz
          have hb := hb (by simpa [nz] using hnz)
          subst hb
          cases neg
          · exact ⟨fun h0 => (by cases h0), fun _ => by simpa using h⟩
          · exact ⟨fun _ => by simpa using h, fun h0 => (by cases h0)⟩
      cases hbn : (b != neg) with
      | true =>
        have h := h.1 hbn
        refine evC_ok hD hM hS hm x (p ++ [0]) s κ Q m a w hx.1 hn h hs hκ ?_
        intro q b s m a w hq hn hag hs
        rw [List.append_assoc] at hag
        exact hL (0 :: q) b s m a w hq hn hag hs
      | false =>
        have h := h.2 hbn
        refine evC_ok hD hM hS hm y (p ++ [1]) s κ Q m a w hx.2 hn h hs hκ ?_
        intro q b s m a w hq hn hag hs
        rw [List.append_assoc] at hag
        exact hL (1 :: q) b s m a w hq hn hag hs
    · cases h
  | .block id b, p, s, κ, Q, m, a, w, hx, hn, h, hs, hκ, hL => by
    refine wp_block (evC_ok hD hM hS hm b (p ++ [0]) s _ _ m a w hx hn h hs ?_ ?_)
    · intro e s' m' a' w' hn' hk hs'
      cases e with
      | normal => exact hκ .normal s' m' a' w' hn' hk hs'
      | exit id' =>
        simp only [Ex.to, Exit.inBlock]
        dsimp only at hk
        split at hk
        · rename_i hb
          rw [if_pos (Nat.eq_of_beq_eq_true hb)]
          exact hκ .normal s' m' a' w' hn' hk hs'
        · rename_i hb
          rw [if_neg (fun e => hb (by simp [e]))]
          exact hκ (.exit id') s' m' a' w' hn' hk hs'
      | ret => exact hκ .ret s' m' a' w' hn' hk hs'
    · intro q b s m a w hq hn hag hs
      rw [List.append_assoc] at hag
      exact hL (0 :: q) b s m a w hq hn hag hs
  | .loop b, p, s, κ, Q, m, a, w, hx, hn, h, hs, hκ, hL => (hL [] b s m a w rfl hn (by rw [List.append_nil]; exact h) hs).wp
  | .exit id, p, s, κ, Q, m, a, w, _, hn, h, hs, hκ, _ => wp_exit (hκ (.exit id) s m a w hn h hs)
  | .ret, p, s, κ, Q, m, a, w, _, hn, h, hs, hκ, _ => wp_ret (hκ .ret s m a w hn h hs)
  | .label _, p, s, κ, Q, m, a, w, _, hn, h, hs, hκ, _ => wp_label (hκ .normal s m a w hn h hs)
  | .rangeFunc _ _ _ _, _, _, _, _, _, _, _, _, _, h, _, _, _ => by cases h
  | .scope _, _, _, _, _, _, _, _, _, _, h, _, _, _ => by cases h
  | .goto _, _, _, _, _, _, _, _, _, _, h, _, _, _ => by cases h
  | .refuse _, _, _, _, _, _, _, _, _, _, h, _, _, _ => by cases h

theorem evAt_ok (hD : TyOk C.P C.D) (hM : PureM X C M) (hS : StM X C M) (hm : C.P.follows .mixedOrders = true) : ∀ (c : Code) (q p : List Nat) (s : St) (κ : Ex → St → Option Out) (Q : Exit → Act → World → Prop) (m : Asg) (a : Act) (w : World) (b0 : Code),
    lexC c = true → s.n = sn → evAt C M f c q p s κ = some r → subAt c q = some (.loop b0) → Sim X w0 Z0 O0 shv m s a w → KOk X w0 Z0 O0 shv sn r κ Q → LoopsOk C M f X w0 Z0 O0 shv sn r c p Q → LoopAgain C.P b0 (postAt C.P c q Q) a w := by
  intro c
  induction c with
  | loop b ih =>
    intro q p s κ Q m a w b0 hx hn h hq hs hκ hL
    have hκ' : KOk X w0 Z0 O0 shv sn r (fun e s' => match e with | .normal => again M f p (C.kp f p) s' | e => κ e s') (Exit.then (LoopAgain C.P b Q) Q) := by
      intro e s' m' a' w' hn' hk hs'
      cases e with
      | normal => exact hL [] b s' m' a' w' rfl hn' (by rw [List.append_nil]; exact hk) hs'
      | exit id => exact hκ (.exit id) s' m' a' w' hn' hk hs'
      | ret => exact hκ .ret s' m' a' w' hn' hk hs'
    have hL' : LoopsOk C M f X w0 Z0 O0 shv sn r b (p ++ [0]) (Exit.then (LoopAgain C.P b Q) Q) := by
      intro q b s m a w hq hn hag hs
      rw [List.append_assoc] at hag
      exact hL (0 :: q) b s m a w hq hn hag hs
    rcases q with _ | ⟨_ | n, q⟩
    · cases hq
      exact LoopAgain.mk (evC_ok hD hM hS hm b (p ++ [0]) s _ _ m a w hx hn h hs hκ' hL')
    · exact ih q (p ++ [0]) s _ _ m a w b0 hx hn h hq hs hκ' hL'
    · cases h
  | seq x y ihx ihy =>
    intro q p s κ Q m a w b0 hx hn h hq hs hκ hL
    simp only [lexC, Bool.and_eq_true] at hx
    have hL1 : LoopsOk C M f X w0 Z0 O0 shv sn r y (p ++ [1]) Q := by
      intro q b s m a w hq hn hag hs
      rw [List.append_assoc] at hag
      exact hL (1 :: q) b s m a w hq hn hag hs
    rcases q with _ | ⟨_ | _ | n, q⟩
    · cases h
    · refine ihx q (p ++ [0]) s _ (Exit.then (y.wp C.P Q) Q) m a w b0 hx.1 hn h hq hs ?_ ?_
      · intro e s' m' a' w' hn' hk hs'
        cases e with
        | normal => exact evC_ok hD hM hS hm y (p ++ [1]) s' κ Q m' a' w' hx.2 hn' hk hs' hκ hL1
        | exit id => exact hκ (.exit id) s' m' a' w' hn' hk hs'
        | ret => exact hκ .ret s' m' a' w' hn' hk hs'
      · intro q b s m a w hq hn hag hs
        rw [List.append_assoc] at hag
        exact hL (0 :: q) b s m a w hq hn hag hs
    · exact ihy q (p ++ [1]) s κ Q m a w b0 hx.2 hn h hq hs hκ hL1
    · cases h
  | cond c x y ihx ihy =>
    intro q p s κ Q m a w b0 hx hn h hq hs hκ hL
    simp only [lexC, Bool.and_eq_true] at hx
    rcases q with _ | ⟨_ | _ | n, q⟩
    · cases h
    · refine ihx q (p ++ [0]) s κ Q m a w b0 hx.1 hn h hq hs hκ ?_
      intro q b s m a w hq hn hag hs
      rw [List.append_assoc] at hag
      exact hL (0 :: q) b s m a w hq hn hag hs
    · refine ihy q (p ++ [1]) s κ Q m a w b0 hx.2 hn h hq hs hκ ?_
      intro q b s m a w hq hn hag hs
      rw [List.append_assoc] at hag
      exact hL (1 :: q) b s m a w hq hn hag hs
    · cases h
  | block id b ih =>
    intro q p s κ Q m a w b0 hx hn h hq hs hκ hL
    rcases q with _ | ⟨_ | n, q⟩
    · cases h
    · refine ih q (p ++ [0]) s _ (Exit.inBlock id Q) m a w b0 hx hn h hq hs ?_ ?_
      · intro e s' m' a' w' hn' hk hs'
        cases e with
        | normal => exact hκ .normal s' m' a' w' hn' hk hs'
        | exit id' =>
          simp only [Ex.to, Exit.inBlock]
          dsimp only at hk
          split at hk
          · rename_i hb
            rw [if_pos (Nat.eq_of_beq_eq_true hb)]
            exact hκ .normal s' m' a' w' hn' hk hs'
          · rename_i hb
            rw [if_neg (fun e => hb (by simp [e]))]
            exact hκ (.exit id') s' m' a' w' hn' hk hs'
        | ret => exact hκ .ret s' m' a' w' hn' hk hs'
      · intro q b s m a w hq hn hag hs
        rw [List.append_assoc] at hag
        exact hL (0 :: q) b s m a w hq hn hag hs
    · cases h
  | _ => intro q p s κ Q m a w b0 hx hn h hq hs hκ hL; cases h
end
end
end Go.Proofs.YtnbjmmldjggkfaaGreat.Abs
