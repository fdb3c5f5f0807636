/- THE EVALUATOR: regions, code, functions; calls and loops' heads as nodes of one least fixpoint. -/
import Derived.Test.YtnbjmmldjggkfaaGreatE13
namespace Go.Proofs.YtnbjmmldjggkfaaGreat.Abs
open Go Go.RowKit
noncomputable section

/-- A table of types, checked row by row. -/
def AllTy (P : Program) : Nat → List (Option TI) → Prop
  | _, [] => True
  | n, none :: l => AllTy P (n + 1) l
  | n, some i :: l => TI.ok P n i ∧ AllTy P (n + 1) l

theorem AllTy.get {P : Program} : ∀ {l : List (Option TI)} {n k : Nat} {i : TI}, AllTy P n l → l[k]? = some (some i) → TI.ok P (n + k) i
  | [], _, _, _, _, h => by simp at h
  | none :: l, n, k, i, ha, h => by
    cases k with
    | zero => simp at h
    | succ k => have := AllTy.get (l := l) (n := n + 1) (k := k) ha (by simpa using h); rwa [show n + 1 + k = n + (k + 1) by omega] at this
  | some j :: l, n, k, i, ha, h => by
    cases k with
    | zero => simp at h; subst h; exact ha.1
    | succ k => have := AllTy.get (l := l) (n := n + 1) (k := k) ha.2 (by simpa using h); rwa [show n + 1 + k = n + (k + 1) by omega] at this

def tyD (l : List (Option TI)) (t : Nat) : Option TI := l.getD t none

theorem AllTy.ok {P : Program} {l : List (Option TI)} (h : AllTy P 0 l) : TyOk P (tyD l) := by
  intro t i hi
  unfold tyD at hi
  rw [List.getD_eq_getElem?_getD] at hi
  have : l[t]? = some (some i) := by
    cases hl : l[t]? with
    | none => rw [hl] at hi; cases hi
    | some x => rw [hl] at hi; simp at hi; rw [hi]
  simpa using h.get this

/-! ### Regions -/
def pG (t : A) (want : Bool) (x : Option A) : Option A :=
  match t with
  | .val (.bool b) => if b = want then x else some (.val undef)
  | .val (.tuple _) => some (.val undef)
  | _ => none

def pWant (t : A) (want : Bool) : Option Bool :=
  match t with
  | .val (.bool b) => some (decide (b = want))
  | .val (.tuple _) => some false
  | _ => none

abbrev Log := List Rd × List Wr

/-- What a slot holds if a guard's slot holds what is wanted: slot, guard's slot, wanted, value. -/
structure GE where
  dst : Nat
  gd : Nat
  want : Bool
  v : V

def lookG (i d : Nat) (w : Bool) : List GE → Option V
  | [] => none
  | g :: gs => bif Nat.beq g.dst i && (Nat.beq g.gd d && (g.want == w)) then some g.v else lookG i d w gs

def overG (gs : List GE) (d : Nat) (w : Bool) (fr : Nat → V) : Nat → V := fun i => match lookG i d w gs with | some v => v | none => fr i

/-- What still holds when a slot is written. -/
def dropG (gs : List GE) : Option Tmp → List GE
  | none => gs
  | some x => gs.filter fun g => !(Nat.beq g.dst x) && !(Nat.beq g.gd x)

def addG (gs : List GE) (dst : Option Tmp) (d : Nat) (want : Bool) (v : V) : List GE :=
  match dst with
  | none => gs
  | some x => bif Nat.beq x d then dropG gs dst else ⟨x, d, want, v⟩ :: dropG gs dst

section
variable (C : Cfg) (M : Node → Option Out)

def run1 (o : Oper) (n : Nat) (fr : Nat → V) (st : Stor) (nid : Nat) (k : V → List Rd → List Wr → Option Out) : Option Out :=
  match evD C o (evF n fr) st with
  | .val v rds => k v rds []
  | .opt x rds => (x.run C M).bind fun a => k (.d a) rds []
  | .no => (match st nid with
    | .dead => (evL C o (evF n fr) st nid).run M k
    | _ => none)

def dstOf (ops : Array Oper) (j : Nat) : Option Nat := match ops[j]? with | some o => o.dst | none => none

def stepOp (ops : Array Oper) (o : Oper) (n : Nat) (fr : Nat → V) (st : Stor) (nid : Nat) (gs : List GE) (k : V → List Rd → List Wr → List GE → Option Out) : Option Out :=
  match o.guard with
  | none => run1 C M o n fr st nid fun v rds wrs => k v rds wrs (dropG gs o.dst)
  | some (j, want) => (match dstOf ops j with
    | some d => if Nat.blt d n then (match fr d with
      | .d t => (match evD C o (evF n (overG gs d want fr)) st with
        | .val (.d a) rds => (pG t want (some a)).bind fun a => k (.d a) rds [] (dropG gs o.dst)
        | .val v rds => (pWant t want).bind fun _ => k .top rds [] (addG gs o.dst d want v)
        | .opt x rds => (pG t want (x.run C M)).bind fun a => k (.d a) rds [] (dropG gs o.dst)
        | .no => (pWant t want).bind fun b => brn b (run1 C M o n (overG gs d want fr) st nid fun v rds wrs => k v rds wrs (dropG gs o.dst)) (k (.d (.val undef)) [] [] (dropG gs o.dst)))
      | _ => none) else none
    | none => none)

def evOps (ops : Array Oper) (n : Nat) : List Oper → Nat → (Nat → V) → Stor → List GE → List Log → ((Nat → V) → Stor → List Log → Option Out) → Option Out
  | [], _, fr, st, _, logs, k => k fr st logs
  | o :: os, nid, fr, st, gs, logs, k => stepOp C M ops o n fr st nid gs fun v rds wrs gs' => evOps ops n os (nid + 8) (putV fr o.dst v) (apps st wrs) gs' (logs ++ [(rds, wrs)]) k
end

/-! Whether operations touch anything in common: what must be apart for them not to. -/
def cWR : Wr → Rd → Option (List (Nat × Nat))
  | .cell id off _, .cell id' off' _ => if Nat.beq id id' && Nat.beq off off' then none else some []
  | .elem id i _, .elem id' i' _ _ => if Nat.beq id id' then some [(i, i')] else some []
  | .elem id i _, .telem id' _ i' _ _ => if Nat.beq id id' then some [(i, i')] else some []
  | .elem _ _ _, .tlen _ _ _ _ => some []
  | .cell _ _ _, .blen _ _ => some []
  | .elem _ _ _, .len _ _ _ => some []
  | w, r => if Nat.beq w.id r.id then none else some []

def cWW : Wr → Wr → Option (List (Nat × Nat))
  | .cell id off _, .cell id' off' _ => if Nat.beq id id' && Nat.beq off off' then none else some []
  | .elem id i _, .elem id' i' _ => if Nat.beq id id' then some [(i, i')] else some []
  | w, r => if Nat.beq w.id r.id then none else some []

def cAll {α β : Type} (f : α → β → Option (List (Nat × Nat))) : List α → List β → Option (List (Nat × Nat))
  | [], _ => some []
  | a :: as, bs => match cOne (f a) bs, cAll f as bs with
    | some x, some y => some (x ++ y)
    | _, _ => none
where cOne (g : β → Option (List (Nat × Nat))) : List β → Option (List (Nat × Nat))
  | [] => some []
  | b :: bs => match g b, cOne g bs with
    | some x, some y => some (x ++ y)
    | _, _ => none

def cLog (a b : Log) : Option (List (Nat × Nat)) :=
  match cAll cWR a.2 b.1, cAll cWR b.2 a.1, cAll cWW a.2 b.2 with
  | some x, some y, some z => some (x ++ y ++ z)
  | _, _, _ => none

/-- The operations before number j that no edge orders before it. -/
def edgeTo (o : Oper) (i : Nat) : Bool := o.after.toList.any fun e => Region.binds .any e && Nat.beq e.on i

/-- The same, or by two edges one behind the other. -/
def edge2 (all : List Oper) (o : Oper) (i : Nat) : Bool := o.after.toList.any fun e => Region.binds .any e && (Nat.beq e.on i || (match all[e.on]? with | some ok => edgeTo ok i | none => false))

def cRow (all : List Oper) (o : Oper) (b : Log) : Nat → List Log → Option (List (Nat × Nat))
  | _, [] => some []
  | i, a :: as => match (if edge2 all o i then some [] else cLog a b), cRow all o b (i + 1) as with
    | some x, some y => some (x ++ y)
    | _, _ => none

def cReg (all : List Oper) : List Oper → List Log → List Log → Option (List (Nat × Nat))
  | [], _, _ => some []
  | _ :: _, _, [] => none
  | o :: os, done, b :: bs => match cRow all o b 0 done, cReg all os (done ++ [b]) bs with
    | some x, some y => some (x ++ y)
    | _, _ => none

def apart (ps : List (Nat × Nat)) : Bool := ps.all fun p => decide (p.1 ≠ p.2)

def idsBelow (nx : Nat) (logs : List Log) : Bool := logs.all fun l => l.2.all fun w => Nat.blt w.id nx

/-- All regions of a code that draw their order may run in the text's order. -/
def lexC : Code → Bool
  | .region _ ops draw => !draw || Region.lexB .any ops.toList.toArray
  | .seq a b => lexC a && lexC b
  | .cond _ a b => lexC a && lexC b
  | .block _ b => lexC b
  | .loop b => lexC b
  | _ => true

def regOk (ops : List Oper) (logs : List Log) : Bool := match cReg ops ops [] logs with | some ps => apart ps | none => false

def evReg (C : Cfg) (M : Node → Option Out) (ops : List Oper) (draw : Bool) (s : St) (κ : St → Option Out) : Option Out :=
  evOps C M ops.toArray s.n ops s.nx s.fr s.st [] [] fun fr st logs =>
    brn (idsBelow (s.nx + 8 * ops.length) logs) (brn (!draw || regOk ops logs) (κ ⟨s.n, fr, st, s.nx + 8 * ops.length, s.sh⟩) none) none

/-! ### Loops' heads: what is kept, under numbers of its own -/
def keptF (mask : Nat) (fr : Nat → V) : Nat → Nat → List V
  | 0, _ => []
  | n + 1, i => (if Nat.testBit mask i then fr i else .top) :: keptF mask fr n (i + 1)

def mapIdx (ids : List Nat) : List Nat → Option (List Nat)
  | [] => some []
  | x :: l => (match idxN x ids 0, mapIdx ids l with | some i, some r => some (i :: r) | _, _ => none)

def shIdx (ids : List Nat) : Option (List Nat) → Option (Option (List Nat))
  | none => some none
  | some l => (match mapIdx ids l with | some r => some (some r) | none => none)

def shL : Option (List Nat) → List Nat
  | none => []
  | some l => l

def again (M : Node → Option Out) (f : FuncId) (p : List Nat) (mask : Nat) (s : St) : Option Out :=
  let fr1 := keptF mask s.fr s.n 0
  let ids := reach s.st 400 (refsL fr1 ++ shL s.sh) []
  if nodupN ids then
    match shIdx ids s.sh with
    | some sh2 => (match promL (renL ids fr1) ids.length with
      | (fr2, os1) => match promO (ids.map fun id => renO ids (s.st id)) (ids.length + os1.length) with
        | (ob, os3) => M (.head f p fr2 (ob ++ os1 ++ os3) sh2))
    | none => none
  else none

def St.of (n : Nat) (fr : List V) (objs : List Obj) (sh : Option (List Nat)) : St := ⟨n, fun i => fr.getD i .top, fun i => objs.getD i .dead, objs.length, sh⟩

/-! ### Code -/
open Classical in
/-- Where either may be: both come to the same. -/
noncomputable def bth (x y : Option Out) : Option Out := if x = y then x else none
theorem bth_some {x y : Option Out} {r : Out} : bth x y = some r ↔ x = some r ∧ y = some r := by
  unfold bth
  split
  · rename_i h; subst h; simp
  · rename_i h
    constructor
    · intro h; cases h
    · rintro ⟨h1, h2⟩; exact absurd (h1.trans h2.symm) h
/-- Whether a length is none. -/
def nz (n : Nat) : Bool := decide (n = 0)
theorem bth_self (x : Option Out) : bth x x = x := if_pos rfl
inductive Ex where
  | normal
  | exit (id : Nat)
  | ret

section
variable (C : Cfg) (M : Node → Option Out) (f : FuncId)

def evC : Code → List Nat → St → (Ex → St → Option Out) → Option Out
  | .skip, _, s, κ => κ .normal s
  | .region _ ops draw, _, s, κ => evReg (C.at f) M ops.toList draw s (κ .normal)
  | .seq a b, p, s, κ => evC a (p ++ [0]) s fun e s' => match e with | .normal => evC b (p ++ [1]) s' κ | e => κ e s'
  | .cond c x y, p, s, κ => (match evF s.n s.fr c with
    | .d a => (pBool a).bind fun t => brn t (evC x (p ++ [0]) s κ) (evC y (p ++ [1]) s κ)
    | .ub n neg => brn (nz n) (bth (evC x (p ++ [0]) s κ) (evC y (p ++ [1]) s κ)) (if neg then evC x (p ++ [0]) s κ else evC y (p ++ [1]) s κ)
    | _ => none)
  | .block id b, p, s, κ => evC b (p ++ [0]) s fun e s' => match e with | .exit id' => if Nat.beq id' id then κ .normal s' else κ (.exit id') s' | e => κ e s'
  | .loop _, p, s, _ => again M f p (C.kp f p) s
  | .exit id, _, s, κ => κ (.exit id) s
  | .ret, _, s, κ => κ .ret s
  | .label _, _, s, κ => κ .normal s
  | _, _, _, _ => none

/-- From a loop's head on. -/
def evAt : Code → List Nat → List Nat → St → (Ex → St → Option Out) → Option Out
  | .loop b, [], p, s, κ => evC C M f b (p ++ [0]) s fun e s' => match e with | .normal => again M f p (C.kp f p) s' | e => κ e s'
  | .loop b, 0 :: r, p, s, κ => evAt b r (p ++ [0]) s fun e s' => match e with | .normal => again M f p (C.kp f p) s' | e => κ e s'
  | .seq a b, 0 :: r, p, s, κ => evAt a r (p ++ [0]) s fun e s' => match e with | .normal => evC C M f b (p ++ [1]) s' κ | e => κ e s'
  | .seq _ b, 1 :: r, p, s, κ => evAt b r (p ++ [1]) s κ
  | .cond _ x _, 0 :: r, p, s, κ => evAt x r (p ++ [0]) s κ
  | .cond _ _ y, 1 :: r, p, s, κ => evAt y r (p ++ [1]) s κ
  | .block id b, 0 :: r, p, s, κ => evAt b r (p ++ [0]) s fun e s' => match e with | .exit id' => if Nat.beq id' id then κ .normal s' else κ (.exit id') s' | e => κ e s'
  | _, _, _, _, _ => none
end

/-! ### Functions -/
def resV (C : Cfg) (s : St) : ResultVar → Option V
  | .tmp t => some (evF s.n s.fr (.tmp t))
  | .cell a t => (match evLoad C t (evF s.n s.fr (.tmp a)) s.st with
    | .val v _ => some v
    | _ => none)

def resL (C : Cfg) (s : St) : List ResultVar → List TypeId → Option (List V)
  | [], _ => some []
  | r :: rs, [] => (match resV C s r, resL C s rs [] with | some v, some vs => some (v :: vs) | _, _ => none)
  | r :: rs, t :: ts => (match resV C s r, resL C s rs ts with | some v, some vs => some (nilV C.D t v :: vs) | _, _ => none)

def mkRes : List V → V
  | [v] => v
  | vs => .tup vs

/-- What a function that only looks hands back. -/
def finishP (C : Cfg) (fn : Func) (s : St) : Option Out :=
  match resL C s fn.results.toList fn.resultTypes.toList with
  | some vs => (match toA s.st 60 (mkRes vs) with | some (a, _) => some (a, []) | none => none)
  | none => none

def endK (C : Cfg) (fn : Func) : Ex → St → Option Out
  | .normal, s => finishP C fn s
  | .ret, s => finishP C fn s
  | _, _ => none

def eqP : List Nat → List Nat → Bool
  | [], [] => true
  | x :: xs, y :: ys => Nat.beq x y && eqP xs ys
  | _, _ => false

/-! What a call that was handed objects hands back. -/
structure MAcc where
  as : List A
  ns : List (Option Nat)
  rds : List Rd

def pAgg (n : Nat) (a : A) : Option (List A) := match a with | .agg ds => if ds.length = n then some ds else none | _ => none

mutual
def mt (st : Stor) (sh : List Nat) : Sh → V → MAcc → Option MAcc
  | .d i, v, c => (match toA st 60 v with
    | some (a, r) => if Nat.beq i c.as.length then some ⟨c.as ++ [a], c.ns, c.rds ++ r⟩ else none
    | none => none)
  | .row o, .row id, c => (match sh[o]? with
    | some q => if Nat.beq q id then some c else none
    | none => if Nat.beq o (sh.length + c.ns.length) then some ⟨c.as, c.ns ++ [some id], c.rds⟩ else none)
  | .row o, .nil _, c => if Nat.beq o (sh.length + c.ns.length) then some ⟨c.as, c.ns ++ [none], c.rds⟩ else none
  | .ptr o off, .ptr id off', c => (match sh[o]? with
    | some q => if Nat.beq q id && Nat.beq off off' then some c else none
    | none => none)
  | .agg l, .agg cs, c => mtL st sh l cs c
  | .agg l, .d a, c => (pAgg l.length a).bind fun ds => mtL st sh l ((List.range l.length).map fun j => .d (cGet ds j)) c
  | .tup l, .tup cs, c => mtL st sh l cs c
  | _, _, _ => none
def mtL (st : Stor) (sh : List Nat) : List Sh → List V → MAcc → Option MAcc
  | [], [], c => some c
  | s :: l, v :: vs, c => (mt st sh s v c).bind fun c' => mtL st sh l vs c'
  | _, _, _ => none
end

/-- The boxes that were handed in. -/
def mtB (st : Stor) (sh : List Nat) : List OW → List Nat → MAcc → Option MAcc
  | [], [], c => some c
  | .box l :: ws, id :: ids, c => (match st id with
    | .box cs => (mtL st sh l cs c).bind fun c' => mtB st sh ws ids c'
    | _ => none)
  | _ :: ws, _ :: ids, c => mtB st sh ws ids c
  | _, _, _ => none

/-- The objects behind the rows: those handed in first. -/
def ioL : List OW → List Nat → List (Option Nat)
  | .io _ :: ws, id :: ids => some id :: ioL ws ids
  | _ :: ws, _ :: ids => ioL ws ids
  | _, _ => []

def ioOk : List OW → Nat → Bool
  | [], _ => true
  | .io j :: ws, n => Nat.beq j n && ioOk ws (n + 1)
  | _ :: ws, n => ioOk ws n

def ioN : List OW → Nat
  | [] => 0
  | .io _ :: ws => ioN ws + 1
  | _ :: ws => ioN ws

/-- What lives on, by its number. -/
def liveL : List OW → List Nat → List (Option Nat)
  | .cons :: ws, _ :: ids => none :: liveL ws ids
  | _ :: ws, id :: ids => some id :: liveL ws ids
  | _, _ => []

def hasO (x : Nat) : List (Option Nat) → Bool
  | [] => false
  | none :: l => hasO x l
  | some y :: l => Nat.beq x y || hasO x l
def nodupO : List (Option Nat) → Bool
  | [] => true
  | none :: l => nodupO l
  | some x :: l => !hasO x l && nodupO l

/-- The datum that says whether rows come back says no. -/
def pNo (a : A) : Option Unit := match a with | .val (.bool false) => some () | _ => none
def rowsAt (st : Stor) (a : A) : List Nat → List (Option Nat) → Option (List (List (List A)))
  | [], [] => some []
  | k :: ks, none :: l => (rowsAt st a ks l).bind fun r => if Nat.blt (kdK k) 128 then some ([] :: r) else none
  | k :: ks, some id :: l => (rowsAt st a ks l).bind fun r => (match st id with
    | .row k' xs => if Nat.beq k' (kdK k) && Nat.blt (kdK k) 64 then some (xs :: r) else none
    | .tre true k' xs => if Nat.beq (k' + 64) k && (!Nat.beq k 128 && Nat.blt k 256) then some (xs :: r) else none
    | .map xs => if Nat.beq k 128 then some (xs :: r) else none
    | .gone => if Nat.ble 256 k then (pNo a).bind fun _ => some ([] :: r) else none
    | _ => none)
  | _, _ => none

def slL : List Nat → List (List (List A)) → List A
  | k :: ks, r :: rs => .sl k r :: slL ks rs
  | _, _ => []

def rdsOk (live : List (Option Nat)) (rds : List Rd) : Bool := rds.all fun r => match r with | .obj id o => !o.alive || !hasO id live | _ => true

def finS (st : Stor) (sg : SigA) (sh : List Nat) (vs : List V) : Option Out :=
  (mtB st sh sg.ws sh ⟨[], [], []⟩).bind fun c1 => (mt st sh sg.r (mkRes vs) c1).bind fun c =>
    (if Nat.beq c.as.length sg.nd && Nat.beq c.ns.length sg.nw.length && ioOk sg.ws 0 && eqP sg.nw (ups (ioN sg.ws) sg.nw.length) && nodupO (liveL sg.ws sh ++ c.ns) && rdsOk (liveL sg.ws sh ++ c.ns) c.rds then
      (rowsAt st (condA sg.ks c.as) sg.ks (ioL sg.ws sh ++ c.ns)).bind fun rs => some (.top, c.as ++ slL sg.ks rs)
    else none)

def endS (C : Cfg) (fn : Func) (sg : SigA) (sh : List Nat) (s : St) : Option Out :=
  match resL C s fn.results.toList fn.resultTypes.toList with
  | some vs => finS s.st sg sh vs
  | none => none

/-! A window at a row's head, handed back, is a row of its own. -/
def resTmps : List ResultVar → List Nat
  | [] => []
  | .tmp t :: l => t :: resTmps l
  | _ :: l => resTmps l

def shrink1 (t : Nat) (s : St) : St :=
  match s.fr t with
  | .win id k off n => (match s.st id with
    | .row k' xs => bif Nat.beq k' k && (Nat.beq off 0 && isDead (s.st s.nx)) then { s with fr := upd s.fr t (.row s.nx), st := upd (upd s.st id .gone) s.nx (.row k (xs.take n)), nx := s.nx + 1 } else s
    | _ => s)
  | _ => s

/-- Trees in the making are done. -/
def frzO : Obj → Obj
  | .tre _ k xs => .tre true k xs
  | o => o
def frzS (s : St) : St := { s with st := fun i => frzO (s.st i) }

def shrinkS : List Nat → St → St
  | [], s => frzS s
  | t :: ts, s => shrinkS ts (shrink1 t s)

def endM (C : Cfg) (f : FuncId) (fn : Func) (s : St) : Option Out :=
  match s.sh with
  | none => finishP C fn s
  | some sh => (match C.sig f with
    | some sgs => (match altOf sh.length sgs with
      | some sg => endS C fn sg sh (shrinkS (resTmps fn.results.toList) s)
      | none => none)
    | none => none)

def endF (C : Cfg) (f : FuncId) (fn : Func) : Ex → St → Option Out
  | .normal, s => endM C f fn s
  | .ret, s => endM C f fn s
  | _, _ => none

def startP (fn : Func) (args : List A) : St := St.of fn.ntmps (args.map V.d) [] none
def startS (fn : Func) (args : List V) (objs : List Obj) : St := St.of fn.ntmps args objs (some (List.range objs.length))

def step (C : Cfg) (M : Node → Option Out) : Node → Option Out
  | .call f args => (match C.ext f with
    | some x => x args
    | none => (match C.pureF f with
      | false => none
      | true => (match C.P.funcs[f]? with
        | some fn => (match fn.body with
          | some c => brn (Nat.ble args.length fn.ntmps) (evC C M f c [] (startP fn args) (endF C f fn)) none
          | none => none)
        | none => none)))
  | .callv f args objs => (match C.extv f with
    | some x => extRun C M x args objs
    | none => (match C.P.funcs[f]? with
        | some fn => (match fn.body with
          | some c => brn (Nat.ble args.length fn.ntmps) (evC C M f c [] (startS fn args objs) (endF C f fn)) none
          | none => none)
        | none => none))
  | .head f p fr objs sh => (match C.P.funcs[f]? with
      | some fn => (match fn.body with
        | some c => evAt C M f c p [] (St.of fn.ntmps fr objs sh) (endF C f fn)
        | none => none)
      | none => none)

/-! ### The least fixpoint -/
def Mn (C : Cfg) : Nat → Node → Option Out
  | 0, _ => none
  | n + 1, x => step C (Mn C n) x

open Classical in
noncomputable def MM (C : Cfg) (x : Node) : Option Out := if h : ∃ r n, Mn C n x = some r then some h.choose else none

def LeM (M M' : Node → Option Out) : Prop := ∀ x r, M x = some r → M' x = some r

/-- Functionals that use finitely much of the fixpoint. -/
structure Nice (C : Cfg) {α : Type} (Φ : (Node → Option Out) → Option α) : Prop where
  mono : ∀ M M' r, LeM M M' → Φ M = some r → Φ M' = some r
  fin : (∀ n, LeM (Mn C n) (Mn C (n + 1))) → ∀ r, Φ (MM C) = some r → ∃ n, Φ (Mn C n) = some r

section
variable {C : Cfg} {α β : Type}

theorem Mn_le (h : ∀ n, LeM (Mn C n) (Mn C (n + 1))) {a b : Nat} (hab : a ≤ b) : LeM (Mn C a) (Mn C b) := by
  induction hab with
  | refl => exact fun _ _ h => h
  | step _ ih => exact fun x r hr => h _ x r (ih x r hr)

theorem Nice.const (x : Option α) : Nice C fun _ => x := ⟨fun _ _ _ _ h => h, fun _ _ h => ⟨0, h⟩⟩

theorem Nice.node (x : Node) : Nice C fun M => M x :=
  ⟨fun _ _ _ h hr => h _ _ hr, fun _ r h => by
    unfold MM at h
    split at h
    · rename_i hx
      cases h
      exact hx.choose_spec
    · cases h⟩

theorem Nice.bind {Φ : (Node → Option Out) → Option α} {Ψ : (Node → Option Out) → α → Option β} (h1 : Nice C Φ) (h2 : ∀ a, Nice C fun M => Ψ M a) : Nice C fun M => (Φ M).bind (Ψ M) where
  mono := fun M M' r hM h => by
    rw [Option.bind_eq_some_iff] at h ⊢
    obtain ⟨a, h3, h4⟩ := h
    exact ⟨a, h1.mono _ _ _ hM h3, (h2 a).mono _ _ _ hM h4⟩
  fin := fun hc r h => by
    rw [Option.bind_eq_some_iff] at h
    obtain ⟨a, h3, h4⟩ := h
    obtain ⟨n1, h5⟩ := h1.fin hc _ h3
    obtain ⟨n2, h6⟩ := (h2 a).fin hc _ h4
    refine ⟨max n1 n2, ?_⟩
    rw [Option.bind_eq_some_iff]
    exact ⟨a, h1.mono _ _ _ (Mn_le hc (Nat.le_max_left _ _)) h5, (h2 a).mono _ _ _ (Mn_le hc (Nat.le_max_right _ _)) h6⟩

theorem Nice.fin' (chk : Bool) {Φ : (Node → Option Out) → Option Out} (h : Nice C Φ) : Nice C fun M => (Φ M).bind (Abs.fin chk) := h.bind fun _ => Nice.const _

theorem Nice.dx {C' : Cfg} (x : DX) : Nice C fun M => x.run C' M := by
  cases x with
  | opt x => exact Nice.const x
  | call f args chk => exact (Nice.node _).fin' chk
  | callc fn args chk =>
    simp only [DX.run]
    split
    · split
      · exact (Nice.node _).fin' chk
      · exact Nice.const _
    · exact Nice.const _

theorem Nice.pG {t : A} {want : Bool} {Φ : (Node → Option Out) → Option A} (h : Nice C Φ) : Nice C fun M => pG t want (Φ M) := by
  unfold Abs.pG
  split
  · split
    · exact h
    · exact Nice.const _
  · exact Nice.const _
  · exact Nice.const _

theorem Nice.brn {α : Type} {b : Bool} {Φ Ψ : (Node → Option Out) → Option α} (h1 : Nice C Φ) (h2 : Nice C Ψ) : Nice C fun M => Abs.brn b (Φ M) (Ψ M) := by
  cases b
  · exact h2
  · exact h1

theorem Nice.bth {Φ Ψ : (Node → Option Out) → Option Out} (h1 : Nice C Φ) (h2 : Nice C Ψ) : Nice C fun M => Abs.bth (Φ M) (Ψ M) where
  mono := fun M M' r hM h => by
    rw [bth_some] at h ⊢
    exact ⟨h1.mono _ _ _ hM h.1, h2.mono _ _ _ hM h.2⟩
  fin := fun hc r h => by
    rw [bth_some] at h
    obtain ⟨n1, h5⟩ := h1.fin hc _ h.1
    obtain ⟨n2, h6⟩ := h2.fin hc _ h.2
    refine ⟨max n1 n2, ?_⟩
    rw [bth_some]
    exact ⟨h1.mono _ _ _ (Mn_le hc (Nat.le_max_left _ _)) h5, h2.mono _ _ _ (Mn_le hc (Nat.le_max_right _ _)) h6⟩

theorem Nice.lx {κ : (Node → Option Out) → V → List Rd → List Wr → Option Out} (hκ : ∀ v r w, Nice C fun M => κ M v r w) : ∀ x : LX, Nice C fun M => x.run M (κ M)
  | .fail => Nice.const _
  | .ret v r w => hκ v r w
  | .bnd x k => (Nice.const x).bind fun a => Nice.lx hκ (k a)
  | .nat x k => (Nice.const x).bind fun a => Nice.lx hκ (k a)
  | .rows x k => (Nice.const x).bind fun a => Nice.lx hκ (k a)
  | .cells x k => (Nice.const x).bind fun a => Nice.lx hκ (k a)
  | .chk b k => by
    simp only [LX.run]
    exact Nice.brn (Nice.lx hκ k) (Nice.const _)
  | .node x k => (Nice.node _).bind fun a => Nice.lx hκ (k a)
  | .cnd a x y => (Nice.const (pBool a)).bind fun _ => Nice.brn (Nice.lx hκ x) (Nice.lx hκ y)

theorem Nice.run1 {C' : Cfg} {o : Oper} {n : Nat} {fr : Nat → V} {st : Stor} {nid : Nat} {κ : (Node → Option Out) → V → List Rd → List Wr → Option Out} (hκ : ∀ v r w, Nice C fun M => κ M v r w) : Nice C fun M => Abs.run1 C' M o n fr st nid (κ M) := by
  unfold Abs.run1
  split
  · exact hκ _ _ _
  · exact (Nice.dx _).bind fun a => hκ _ _ _
  · split
    · exact Nice.lx hκ _
    · exact Nice.const _

theorem Nice.stepOp {C' : Cfg} {ops : Array Oper} {o : Oper} {n : Nat} {fr : Nat → V} {st : Stor} {nid : Nat} {gs : List GE} {κ : (Node → Option Out) → V → List Rd → List Wr → List GE → Option Out} (hκ : ∀ v r w g, Nice C fun M => κ M v r w g) : Nice C fun M => Abs.stepOp C' M ops o n fr st nid gs (κ M) := by
  unfold Abs.stepOp
  split
  · exact Nice.run1 (κ := fun M v r w => κ M v r w _) fun _ _ _ => hκ _ _ _ _
  · split
    · split
      · split
        · split
          · exact (Nice.const _).bind fun a => hκ _ _ _ _
          · exact (Nice.const _).bind fun a => hκ _ _ _ _
          · exact (Nice.pG (Nice.dx _)).bind fun a => hκ _ _ _ _
          · exact (Nice.const _).bind fun b => Nice.brn (Nice.run1 (κ := fun M v r w => κ M v r w _) fun _ _ _ => hκ _ _ _ _) (hκ _ _ _ _)
        · exact Nice.const _
      · exact Nice.const _
    · exact Nice.const _

theorem Nice.evOps {C' : Cfg} {ops : Array Oper} {n : Nat} {κ : (Node → Option Out) → (Nat → V) → Stor → List Log → Option Out} (hκ : ∀ f s l, Nice C fun M => κ M f s l) : ∀ (l : List Oper) (nid : Nat) (fr : Nat → V) (st : Stor) (gs : List GE) (logs : List Log),
    Nice C fun M => Abs.evOps C' M ops n l nid fr st gs logs (κ M)
  | [], _, fr, st, _, logs => hκ fr st logs
  | o :: os, nid, fr, st, gs, logs => Nice.stepOp (C' := C') (κ := fun M v rds wrs gs' => Abs.evOps C' M ops n os (nid + 8) (putV fr o.dst v) (apps st wrs) gs' (logs ++ [(rds, wrs)]) (κ M)) fun v rds wrs gs' => Nice.evOps hκ os _ _ _ _ _

theorem Nice.evReg {C' : Cfg} {ops : List Oper} {draw : Bool} {s : St} {κ : (Node → Option Out) → St → Option Out} (hκ : ∀ s, Nice C fun M => κ M s) : Nice C fun M => Abs.evReg C' M ops draw s (κ M) := by
  unfold Abs.evReg
  exact Nice.evOps (κ := fun M fr st logs => Abs.brn (idsBelow (s.nx + 8 * ops.length) logs) (Abs.brn (!draw || regOk ops logs) (κ M ⟨s.n, fr, st, s.nx + 8 * ops.length, s.sh⟩) none) none) (fun _ _ _ => Nice.brn (Nice.brn (hκ _) (Nice.const _)) (Nice.const _)) _ _ _ _ _ _

theorem Nice.again {f : FuncId} {p : List Nat} {mask : Nat} {s : St} : Nice C fun M => Abs.again M f p mask s := by
  unfold Abs.again
  dsimp only
  split
  · split
    · exact Nice.node _
    · exact Nice.const _
  · exact Nice.const _

theorem Nice.evC {f : FuncId} : ∀ (c : Code) (p : List Nat) (s : St) (κ : (Node → Option Out) → Ex → St → Option Out), (∀ e s, Nice C fun M => κ M e s) → Nice C fun M => Abs.evC C M f c p s (κ M)
  | .skip, _, s, κ, h => h _ _
  | .region _ ops draw, _, s, κ, h => Nice.evReg (κ := fun M => κ M .normal) fun s => h _ s
  | .seq a b, p, s, κ, h => Nice.evC a _ s (fun M e s' => match e with | .normal => Abs.evC C M f b (p ++ [1]) s' (κ M) | e => κ M e s') fun e s' => by
    cases e
    · exact Nice.evC b _ s' κ h
    · exact h _ _
    · exact h _ _
  | .cond c x y, p, s, κ, h => by
    simp only [Abs.evC]
    split
    · exact (Nice.const _).bind fun t => Nice.brn (Nice.evC x _ s κ h) (Nice.evC y _ s κ h)
    · rename_i n neg _
      refine Nice.brn (Nice.bth (Nice.evC x _ s κ h) (Nice.evC y _ s κ h)) ?_
      cases neg
      · exact Nice.evC y _ s κ h
      · exact Nice.evC x _ s κ h
    · exact Nice.const _
  | .block id b, p, s, κ, h => Nice.evC b _ s (fun M e s' => match e with | .exit id' => if Nat.beq id' id then κ M .normal s' else κ M (.exit id') s' | e => κ M e s') fun e s' => by
    cases e
    · exact h _ _
    · dsimp only
      split
      · exact h _ _
      · exact h _ _
    · exact h _ _
  | .loop _, p, s, _, _ => Nice.again
  | .exit id, _, s, κ, h => h _ _
  | .ret, _, s, κ, h => h _ _
  | .label _, _, s, κ, h => h _ _
  | .rangeFunc _ _ _ _, _, _, _, _ => Nice.const _
  | .scope _, _, _, _, _ => Nice.const _
  | .goto _, _, _, _, _ => Nice.const _
  | .refuse _, _, _, _, _ => Nice.const _

theorem Nice.evAt {f : FuncId} : ∀ (c : Code) (r p : List Nat) (s : St) (κ : (Node → Option Out) → Ex → St → Option Out), (∀ e s, Nice C fun M => κ M e s) → Nice C fun M => Abs.evAt C M f c r p s (κ M) := by
  intro c
  induction c with
  | loop b ih =>
    intro r p s κ h
    have hk : ∀ (e : Ex) (s' : St), Nice C fun M => (match e with | .normal => Abs.again M f p (C.kp f p) s' | e => κ M e s') := fun e s' => by
      cases e
      · exact Nice.again
      · exact h _ _
      · exact h _ _
    rcases r with _ | ⟨_ | q, r⟩
    · exact Nice.evC b _ s (fun M e s' => match e with | .normal => Abs.again M f p (C.kp f p) s' | e => κ M e s') hk
    · exact ih r _ s (fun M e s' => match e with | .normal => Abs.again M f p (C.kp f p) s' | e => κ M e s') hk
    · exact Nice.const _
  | seq a b iha ihb =>
    intro r p s κ h
    have hk : ∀ (e : Ex) (s' : St), Nice C fun M => (match e with | .normal => Abs.evC C M f b (p ++ [1]) s' (κ M) | e => κ M e s') := fun e s' => by
      cases e
      · exact Nice.evC b _ s' κ h
      · exact h _ _
      · exact h _ _
    rcases r with _ | ⟨_ | _ | q, r⟩
    · exact Nice.const _
    · exact iha r _ s (fun M e s' => match e with | .normal => Abs.evC C M f b (p ++ [1]) s' (κ M) | e => κ M e s') hk
    · exact ihb r _ s κ h
    · exact Nice.const _
  | cond c x y ihx ihy =>
    intro r p s κ h
    rcases r with _ | ⟨_ | _ | q, r⟩
    · exact Nice.const _
    · exact ihx r _ s κ h
    · exact ihy r _ s κ h
    · exact Nice.const _
  | block id b ih =>
    intro r p s κ h
    have hk : ∀ (e : Ex) (s' : St), Nice C fun M => (match e with | .exit id' => if Nat.beq id' id then κ M .normal s' else κ M (.exit id') s' | e => κ M e s') := fun e s' => by
      cases e
      · exact h _ _
      · dsimp only
        split
        · exact h _ _
        · exact h _ _
      · exact h _ _
    rcases r with _ | ⟨_ | q, r⟩
    · exact Nice.const _
    · exact ih r _ s (fun M e s' => match e with | .exit id' => if Nat.beq id' id then κ M .normal s' else κ M (.exit id') s' | e => κ M e s') hk
    · exact Nice.const _
  | _ => intro r p s κ h; exact Nice.const _

theorem Nice.askAll {C' : Cfg} : ∀ (qs : List (FuncId × List A)), Nice C fun M => Abs.askAll C' M qs
  | [] => Nice.const _
  | (f, as) :: l => by
    simp only [Abs.askAll]
    split
    · exact (Nice.node _).bind fun _ => (Nice.askAll l).bind fun _ => Nice.const _
    · exact Nice.const _
theorem Nice.extRun {C' : Cfg} (x : ExtV) (args : List V) (objs : List Obj) : Nice C fun M => Abs.extRun C' M x args objs :=
  (Nice.const _).bind fun _ => (Nice.askAll _).bind fun _ => Nice.const _

theorem Nice.step (x : Node) : Nice C fun M => Abs.step C M x := by
  cases x with
  | call f args =>
    simp only [Abs.step]
    split
    · exact Nice.const _
    · split
      · exact Nice.const _
      · split
        · split
          · exact Nice.brn (Nice.evC _ _ _ (fun _ => endF C _ _) fun e s => Nice.const _) (Nice.const _)
          · exact Nice.const _
        · exact Nice.const _
  | callv f args objs =>
    simp only [Abs.step]
    split
    · exact Nice.extRun _ _ _
    · split
      · split
        · exact Nice.brn (Nice.evC _ _ _ (fun _ => endF C _ _) fun e s => Nice.const _) (Nice.const _)
        · exact Nice.const _
      · exact Nice.const _
  | head f p fr objs sh =>
    simp only [Abs.step]
    split
    · split
      · exact Nice.evAt _ _ _ _ (fun _ => endF C _ _) fun e s => Nice.const _
      · exact Nice.const _
    · exact Nice.const _

theorem Mn_chain : ∀ n, LeM (Mn C n) (Mn C (n + 1))
  | 0, x, r, h => by simp [Mn] at h
  | n + 1, x, r, h => (Nice.step x).mono _ _ _ (Mn_chain n) h

theorem MM_of {n : Nat} {x : Node} {r : Out} (h : Mn C n x = some r) : MM C x = some r := by
  unfold MM
  have hx : ∃ r n, Mn C n x = some r := ⟨r, n, h⟩
  rw [dif_pos hx]
  obtain ⟨n', h'⟩ := hx.choose_spec
  have h1 := Mn_le Mn_chain (Nat.le_max_left n n') x r h
  have h2 := Mn_le Mn_chain (Nat.le_max_right n n') x _ h'
  rw [h1] at h2
  exact h2.symm

theorem MM_some {x : Node} {r : Out} (h : MM C x = some r) : ∃ n, Mn C n x = some r := (Nice.node x).fin Mn_chain r h

theorem le_MM (n : Nat) : LeM (Mn C n) (MM C) := fun _ _ h => MM_of h

/-- The fixpoint's equation. -/
theorem MM_eq (x : Node) : MM C x = step C (MM C) x := by
  apply Option.ext
  intro r
  constructor
  · intro h
    obtain ⟨n, hn⟩ := MM_some h
    cases n with
    | zero => simp [Mn] at hn
    | succ n => exact (Nice.step x).mono _ _ _ (le_MM n) hn
  · intro h
    obtain ⟨n, hn⟩ := (Nice.step x).fin Mn_chain r h
    exact MM_of (n := n + 1) hn
end
end
end Go.Proofs.YtnbjmmldjggkfaaGreat.Abs
