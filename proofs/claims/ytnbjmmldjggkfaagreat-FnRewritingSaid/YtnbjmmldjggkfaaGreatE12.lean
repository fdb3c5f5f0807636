/- OPERATIONS THAT TURN THE STORE (4): slices and structs that are written out; the whole, calls apart. -/
import Derived.Test.YtnbjmmldjggkfaaGreatE11c
namespace Go.Proofs.YtnbjmmldjggkfaaGreat.Abs
open Go Go.RowKit
noncomputable section

def FitM (bytes : Nat) (l c : Int) : Prop := 0 ≤ l ∧ l ≤ c ∧ (bytes : Int) * c ≤ 281474976710656 ∧ c ≤ 9223372036854775807
noncomputable instance (b : Nat) (l c : Int) : Decidable (FitM b l c) := Classical.propDecidable _
def pMake (bytes : Nat) (a b : A) : Option Nat :=
  match a, b with
  | .val (.int _ l), .val (.int _ c) => if FitM bytes l c then some l.toNat else none
  | _, _ => none

def rGet (xs : List (List A)) (i : Nat) : Option (List A) := xs[i]?
def cOver (cs : List A) (j : Nat) (ds : List A) : List A := over cs j ds
def rRep (n : Nat) (z : List A) : List (List A) := List.replicate n z
def rApp (us ys : List (List A)) : List (List A) := us ++ ys
def rLenN (xs : List (List A)) : Nat := xs.length
def pFit (n bytes : Nat) : Bool := decide (n * bytes ≤ 140737488355328 ∧ n ≤ 9223372036854775807)
def pRows (k : Nat) (a : A) : Option (List (List A)) := match a with | .sl k' xs => if k' = k then some xs else none | _ => none

/-- No row of this number is given up. -/
def noSeal (id : Nat) : List Wr → Bool
  | [] => true
  | w :: ws => !Nat.beq w.id id && noSeal id ws

/-- The parts of a slice that is written out, as data. -/
def partsL (C : Cfg) (e : Nat) (i : TI) (st : Stor) : List (Nat × V) → List (Nat × List A) → List Rd → List Wr → (List (Nat × List A) → List Rd → List Wr → LX) → LX
  | [], acc, r, ws, k => k acc r ws
  | (q, v) :: ps, acc, r, ws, k => cellsL i.kind.plain i.size (nilV C.D e v) fun vs => match sealC st vs with
    | some (ds, r', ws') => if Nat.beq ds.length i.size then partsL C e i st ps (acc ++ [(q, ds)]) (r ++ r') (ws ++ ws') k else .fail
    | none => .fail

/-- The parts of a struct that is written out, as cells. -/
def partsV (C : Cfg) (s : Nat) : List (Nat × V) → List V → (List V → LX) → LX
  | [], cs, k => k cs
  | (q, v) :: ps, cs, k => match fieldOf C s q with
    | some (off, j) => cellsL j.kind.plain j.size v fun ds => if Nat.beq ds.length j.size && Nat.ble (off + j.size) cs.length then partsV C s ps (over cs off ds) k else .fail
    | none => .fail

def setRows (rows : List (List A)) : List (Nat × List A) → List (List A)
  | [] => rows
  | (q, ds) :: ps => setRows (rows.set q ds) ps

def inRange (n : Nat) : List (Nat × List A) → Bool
  | [] => true
  | (q, _) :: ps => Nat.blt q n && inRange n ps

def srcV (st : Stor) (k : Nat) (v : V) (kk : List (List A) → List Rd → LX) : LX :=
  match v with
  | .nil _ => kk [] []
  | .d a => .rows (pRows k a) fun ys => kk ys []
  | .row id => (match st id with
    | .row k' ys => if Nat.beq k' k then kk ys [.obj id (.row k' ys)] else .fail
    | .fro k' ys => if Nat.beq k' k then kk ys [.obj id (.fro k' ys)] else .fail
    | _ => .fail)
  | .win _ _ _ _ => (match winP st v with
    | some p => if Nat.beq p.k k then kk (rWin p.xs p.off p.n) [.obj p.id (.row p.k p.xs)] else .fail
    | none => .fail)
  | _ => .fail

def isWin : V → Bool
  | .win _ _ _ _ => true
  | _ => false

/-- A part of a row, as a window. -/
def winL (st : Stor) (k : Nat) (v : V) (l h : Option A) : LX :=
  match winP st v with
  | some p => if Nat.beq p.k k then .nat (pB p.n (rRem p.xs p.off) h) fun h' => .nat (pLo h' l) fun l' => .ret (.win p.id p.k (nAdd p.off l') (nSub h' l')) [.len p.id p.k p.xs.length] [] else .fail
  | none => .fail

def isDead : Abs.Obj → Bool
  | .dead => true
  | _ => false

def bindD (o : Out) : Nat → Nat → (List A → LX) → LX
  | 0, _, k => k []
  | n + 1, i, k => .bnd (hD o i) fun a => bindD o n (i + 1) fun as => k (a :: as)
def bindR (o : Out) : List Nat → Nat → (List (List (List A)) → LX) → LX
  | [], _, k => k []
  | w :: ks, i, k => .rows (hR w o i) fun r => bindR o ks (i + 1) fun rs => k (r :: rs)

/-- What such a call comes to, once it is known whether rows come back. -/
def stRetB (b : Bool) (sg : SigA) (st : Stor) (nid : Nat) (ids : List Nat) (p : Nat) (as : List A) (rs : List (List (List A))) : LX :=
  .ret (bk (ids ++ ups nid (p + sg.nw.length)) (sg.r.toV as)) (idRds st ids ++ frRds (ups nid (p + sg.nw.length))) (zipW (ids ++ ups nid (p + sg.nw.length)) ((sg.objsB b as rs).map (bkO (ids ++ ups nid (p + sg.nw.length)))))
def stRet (sg : SigA) (st : Stor) (nid : Nat) (ids : List Nat) (p : Nat) (as : List A) (rs : List (List (List A))) : LX :=
  match condI sg.ks with
  | none => stRetB true sg st nid ids p as rs
  | some i => .cnd (as.getD i .top) (stRetB true sg st nid ids p as rs) (stRetB false sg st nid ids p as rs)
/-- A call that is handed objects. -/
def stCall (keep : Bool) (st : Stor) (nid : Nat) (g : FuncId) (sgs : Sig) (vs : List V) : LX :=
  match prepCall keep st vs with
  | some (ids, vs2, objs, p) => (match altOf objs.length sgs with
    | some sg => if objs.all liveO && (ups nid (p + sg.nw.length)).all (fun i => isDead (st i)) then
        .node (.callv g vs2 objs) fun out => bindD out sg.nd 0 fun as => bindR out sg.ks sg.nd fun rs =>
          stRet sg st nid ids p as rs
      else .fail
    | none => .fail)
  | none => .fail

def chkA : List A → LX → LX
  | [], k => k
  | a :: as, k => .chk (flatA a) (chkA as k)
def chkRs : List Nat → List (List (List A)) → LX → LX
  | kk :: ks, r :: rs, k => if Nat.ble 64 kk then chkRs ks rs k else .chk (flatR r) (chkRs ks rs k)
  | _, _, k => k
/-- A call that reads objects off as data. -/
def rdCall (th : Bool) (st : Stor) (nid : Nat) (g : FuncId) (sgs : Sig) (vs : List V) : LX :=
  match toAL st 60 vs, altOf 0 sgs with
  | some (as0, rds), some sg => if (ups nid sg.nw.length).all (fun i => isDead (st i)) && sg.ks.all (fun k => Nat.blt k 128) then
      .node (.callv g (as0.map V.d) []) fun out => bindD out sg.nd 0 fun as => bindR out sg.ks sg.nd fun rs =>
        chkA as (chkRs sg.ks rs <| .ret (bk (ups nid sg.nw.length) (sg.r.toV as)) (rds ++ frRds (ups nid sg.nw.length)) (zipW (ups nid sg.nw.length) ((sg.objs as rs).map fun o => thO th (bkO (ups nid sg.nw.length) o))))
    else .fail
  | _, _ => .fail

/-- Cells of a tree's element that are numbers and strings. -/
def tVals (cs : List A) (j n : Nat) : Bool := ((cs.drop j).take n).all isVal
/-- Data among the cells is numbers and strings. -/
def chkVals : List V → LX → LX
  | [], k => k
  | .d a :: vs, k => .chk (isVal a) (chkVals vs k)
  | _ :: vs, k => chkVals vs k
/-- A store into an element of a tree. -/
def treStore (st : Stor) (id ii k j n : Nat) (f : Bool) (xs : List (List A)) (vs : List V) : LX :=
  match f with
  | false => (match kidsA st vs with
    | some (as, is, rs) => if nodupN is && (!hasN id is && Nat.beq vs.length n) then chkVals vs (.cells (rGet xs ii) fun cs => .ret (.d (.val undef)) (.telem id false ii k cs :: rs) (goneW is ++ [.elem id ii (cOver cs j as)])) else .fail
    | none => .fail)
  | true => (match datL vs with
    | some ds => if Nat.beq ds.length n then chkVals (ds.map V.d) (.cells (rGet xs ii) fun cs => .chk (tVals cs j n) (.ret (.d (.val undef)) [.telem id true ii k cs] [.elem id ii (cOver cs j ds)])) else .fail
    | none => .fail)
def isSliceK : TK → Bool
  | .slice _ => true
  | _ => false
/-- How wide the elements of a struct's second field are, a slice. -/
def subW (D : Nat → Option TI) (i : TI) : Option Nat :=
  match i.kind with
  | .struct fs => (match fs[1]? with
    | some (_, t) => (match D t with
      | some j => (match j.kind with
        | .slice e => (match D e with | some je => some je.size | none => none)
        | _ => none)
      | none => none)
    | none => none)
  | _ => none
/-- A struct of a string and a slice, from an element of a tree in the making. -/
def treDet (D : Nat → Option TI) (st : Stor) (nid : Nat) (i : TI) (v : V) : LX :=
  match v, subW D i with
  | .rptr id ii k j, some l => (match st id with
    | .tre false k' xs => if (Nat.beq k' 2 && (Nat.beq k 2 && Nat.beq j 0)) && (i.kind.known && (Nat.beq i.size 2 && (isDead (st nid) && !Nat.beq nid id))) then (.cells (rGet xs ii) fun cs => .chk (isVal (cGet cs 0)) (.rows (pRows l (cGet cs 1)) fun ys => .ret (.agg [.d (cGet cs 0), .row nid]) [.telem id false ii 2 cs, .fresh nid] [.obj nid (.tre true l ys), .elem id ii (cOver cs 1 [.top])])) else .fail
    | _ => .fail)
  | _, _ => .fail
/-- A load from an element of a tree. -/
def treLoad (D : Nat → Option TI) (nid : Nat) (st : Stor) (i : TI) (v : V) : LX :=
  if i.kind.plain then (match v with
    | .rptr id ii k j => (match st id with
      | .tre f k' xs => if Nat.beq k' k then (.cells (rGet xs ii) fun cs => if isSliceK i.kind && f then .chk (isSlA (cGet cs j)) (.ret (.sub id ii k j) [.telem id true ii k cs] []) else .chk (isVal (cGet cs j)) (.ret (.d (cGet cs j)) [.telem id f ii k cs] [])) else .fail
      | _ => .fail)
    | _ => .fail) else treDet D st nid i v
/-- A tree's part among the arguments, all others data. -/
def allD : List V → Option (List V)
  | [] => some []
  | .d a :: vs => (allD vs).map (.d a :: ·)
  | _ => none
def substF : List V → Option (List V × (Nat × Nat × Nat × Nat))
  | [] => none
  | .d a :: vs => (substF vs).map fun p => (.d a :: p.1, p.2)
  | .sub id i k j :: vs => (allD vs).map fun vs' => (.row 0 :: vs', (id, i, k, j))
  | _ => none
/-- A call that is handed a tree's part. -/
def subCall (st : Stor) (g : FuncId) (sgs : Sig) (p : List V × (Nat × Nat × Nat × Nat)) : LX :=
  match p with
  | (vs2, id, i, k, j) => (match altOf 1 sgs, st id with
    | some sg, .tre true k' xs => (match sg.ws, sg.nw, sg.ks with
      | [.io 0], [], [kk] => if Nat.beq k' k && (Nat.beq (kk - 64 + 64) kk && Nat.blt kk 128) then
          .cells (rGet xs i) fun cs => .rows (pRows (kk - 64) (cGet cs j)) fun ys => .node (.callv g vs2 [.tre true (kk - 64) ys]) fun out => bindD out sg.nd 0 fun as => .rows (hR kk out sg.nd) fun r => .ret (bk [] (sg.r.toV as)) [.telem id true i k cs] [.elem id i (cOver cs j [.sl (kk - 64) r])]
        else .fail
      | _, _, _ => .fail)
    | _, _ => .fail)

/-- The one row among the arguments, all others data. -/
def substG : List V → Option (List V × Nat)
  | [] => none
  | .d a :: vs => (substG vs).map fun p => (.d a :: p.1, p.2)
  | .row id :: vs => (allD vs).map fun vs' => (.row 0 :: vs', id)
  | _ => none
def valR (xs : List (List A)) : Bool := xs.flatten.all isVal
/-- A row where a tree is asked for. -/
def flatSel (st : Stor) (sgs : Sig) (vs : List V) : Option (List V × Nat × Nat × List (List A)) :=
  match substG vs with
  | some (vs2, id) => (match st id, altOf 1 sgs with
    | .row k xs, some sg => (match sg.ks with
      | [kk] => if Nat.beq (k + 64) kk then some (vs2, id, k, xs) else none
      | _ => none)
    | _, _ => none)
  | none => none
def flatCall (g : FuncId) (sgs : Sig) (q : List V × Nat × Nat × List (List A)) : LX :=
  match q with
  | (vs2, id, k, xs) => (match altOf 1 sgs with
    | some sg => (match sg.ws, sg.nw, sg.ks with
      | [.io 0], [], [kk] => if Nat.beq (k + 64) kk && Nat.blt kk 128 then
          .chk (valR xs) (.node (.callv g vs2 [.tre true k xs]) fun out => bindD out sg.nd 0 fun as => .rows (hR kk out sg.nd) fun r => .ret (bk [] (sg.r.toV as)) [.obj id (.row k xs)] [.obj id (.row k r)])
        else .fail
      | _, _, _ => .fail)
    | none => .fail)

/-- A call that looks alone; rows among its argument's cells are given up. -/
def sealCall (C : Cfg) (st : Stor) (g : FuncId) (vs : List V) : LX :=
  match sealM st vs with
  | some (as, p) => if C.pureF g then .node (.call g as) fun out => .bnd (fin false out) fun x => .ret (.d x) (sealMr p) (sealMw p) else .fail
  | none => match vs with
  | [v] => (match sealV st v with
    | some (a, r, ws) => if C.pureF g then .node (.call g [a]) fun out => .bnd (fin false out) fun x => .ret (.d x) r ws else .fail
    | none => .fail)
  | _ => .fail

def isIntT (C : Cfg) (t : Nat) : Bool := match C.D t with | some i => (match i.kind with | .int _ => true | _ => false) | none => false

def pSlA (a : A) : Option (List (List A)) := match a with | .sl _ xs => some xs | _ => none

/-- A slice held against nil: either may be. -/
def nilL? (st : Stor) (v : V) (neg : Bool) : LX :=
  match v with
  | .d a => .rows (pSlA a) fun ys => .ret (.ub (rCnt ys) neg) [] []
  | .nil _ => .ret (.ub 0 neg) [] []
  | .row id => (match st id with
    | .row k xs => .ret (.ub (rCnt xs) neg) [.obj id (.row k xs)] []
    | .fro k xs => .ret (.ub (rCnt xs) neg) [.obj id (.fro k xs)] []
    | _ => .fail)
  | _ => .fail

def evL (C : Cfg) (o : Oper) (ρ : Operand → V) (st : Stor) (nid : Nat) : LX :=
  match o.op with
  | .box t x => (match C.D t with
    | some i => if i.kind.known then cellsL i.kind.plain i.size (nilV C.D t (ρ x)) fun ds => .ret (.ptr nid 0) [.fresh nid] [.obj nid (.box ds)] else .fail
    | none => .fail)
  | .alloc t => (match C.D t with
    | some i => chkCells (zeroV C t i) (.ret (.ptr nid 0) [.fresh nid] [.obj nid (.box (zeroV C t i))])
    | none => .fail)
  | .makeMap _ none => .ret (.row nid) [.fresh nid] [.obj nid (.map [])]
  | .mapUpdate t x k y => (match C.D t, dat (ρ k) with
    | some ti, some ka => (match ti.kind with
      | .map kt et => (match C.D kt with
        | some ki => (match keyK ki.kind, ρ x, datV (nilV C.D et (ρ y)) with
          | some ks, .row id, some va => (match st id with
            | .map xs => .rows (pPut ks xs ka va) fun ys => .ret (.d (.val undef)) [.obj id (.map xs)] [.obj id (.map ys)]
            | _ => .fail)
          | _, _, _ => .fail)
        | none => .fail)
      | _ => .fail)
    | _, _ => .fail)
  | .store t a x => (match C.D t with
    | some i => if i.kind.known then (match ρ a with
      | .ptr id off => (match st id with
        | .box cs => cellsL i.kind.plain i.size (nilV C.D t (ρ x)) fun ds => if Nat.beq ds.length i.size && Nat.ble (off + i.size) cs.length then .ret (.d (.val undef)) [.blen id cs.length] (cellWrs id off ds) else .fail
        | _ => .fail)
      | .rptr id ii k j => (match st id with
        | .row k' xs => if Nat.beq k' k && Nat.ble (j + i.size) k then cellsL i.kind.plain i.size (nilV C.D t (ρ x)) fun vs => (match sealC st vs with
            | some (ds, r, ws) => if Nat.beq ds.length i.size && noSeal id ws then .cells (rGet xs ii) fun cs => .ret (.d (.val undef)) (.elem id ii k cs :: r) (ws ++ [.elem id ii (cOver cs j ds)]) else .fail
            | none => .fail)
          else .fail
        | .tre f k' xs => if Nat.beq k' k && Nat.ble (j + i.size) k then cellsL i.kind.plain i.size (nilV C.D t (ρ x)) fun vs => treStore st id ii k j i.size f xs vs else .fail
        | _ => .fail)
      | _ => .fail) else .fail
    | none => .fail)
  | .load t x => (match C.D t with
    | some i => treLoad C.D nid st i (ρ x)
    | none => .fail)
  | .binOp op t x y _ => if isNilC y && isEq op then (match C.D t with
    | some ti => (match ti.kind with
      | .slice _ => nilL? st (ρ x) (isNeq op)
      | _ => .fail)
    | none => .fail) else .fail
  | .makeSlice t x y => (match C.D t with
    | some ti => (match ti.kind with
      | .slice e => (match C.D e, dat (ρ x), dat (ρ y) with
        | some i, some a, some b => if C.tr then (match treZ (zeroV C e i) with
          | some z => .nat (pMake i.bytes a b) fun l => .chk (z.all okA) (.ret (.row nid) [.fresh nid] [.obj nid (.tre false i.size (rRep l z))])
          | none => .fail) else (match datL (zeroV C e i) with
          | some z => .nat (pMake i.bytes a b) fun l => .chk (z.all okA) (.ret (.row nid) [.fresh nid] [.obj nid (.row i.size (rRep l z))])
          | none => .fail)
        | _, _, _ => .fail)
      | _ => .fail)
    | none => .fail)
  | .buildSlice t n ps => (match C.D t with
    | some ti => (match ti.kind with
      | .slice e => (match C.D e with
        | some i => if Nat.beq n 0 then (if ps.size = 0 then .ret (.nil i.size) [] [] else .fail) else
          if i.kind.known && Nat.blt 0 i.size && Nat.ble (n * i.size) 16777216 then (match datL (zeroV C e i) with
          | some z => .chk (z.all okA) (partsL C e i st (ps.toList.map fun p => (p.1, ρ p.2)) [] [] [] fun parts r ws =>
              if inRange n parts then .ret (.row nid) (.fresh nid :: r) (ws ++ [.obj nid (.row i.size (setRows (List.replicate n z) parts))]) else .fail)
          | none => .fail) else .fail
        | none => .fail)
      | _ => .fail)
    | none => .fail)
  | .indexAddr t x ix => (match C.D t with
    | some ti => (match ti.kind with
      | .slice e => (match C.D e, ρ x, dat (ρ ix) with
        | some i, .row id, some b => (match st id with
          | .row k xs => if Nat.beq k i.size then .nat (pIx (rLenN xs) b) fun n => .ret (.rptr id n i.size 0) [.len id i.size xs.length] [] else .fail
          | .tre f k xs => if Nat.beq k i.size then .nat (pIx (rLenN xs) b) fun n => .ret (.rptr id n i.size 0) [.tlen id f i.size xs.length] [] else .fail
          | _ => .fail)
        | some i, .win id k off n, some b => (match st id with
          | .row k' xs => if Nat.beq k' i.size && Nat.beq k i.size then .nat (pIx n b) fun j => .ret (.rptr id (nAdd off j) i.size 0) [.len id i.size xs.length] [] else .fail
          | _ => .fail)
        | _, _, _ => .fail)
      | _ => .fail)
    | none => .fail)
  | .slice t x lo hi none => (match C.D t with
    | some ti => (match ti.kind with
      | .slice e => (match C.D e, ρ x, (match lo with | none => some none | some y => (dat (ρ y)).map some), (match hi with | none => some none | some y => (dat (ρ y)).map some) with
        | some i, .win id k off n, some l, some h => winL st i.size (.win id k off n) l h
        | some i, .nil _, some l, some h => .nat (pB 0 0 h) fun h' => .nat (pLo h' l) fun _ => .ret (.nil i.size) [] []
        | some i, .row id, some l, some h => if C.win then winL st i.size (.row id) l h else (match st id with
          | .row k xs => if Nat.beq k i.size then .bnd (pSlice i.size (.sl i.size xs) l h) fun r => .ret (.d r) [.obj id (.row i.size xs)] [.obj id (.fro i.size xs)] else .fail
          | _ => .fail)
        | _, _, _, _ => .fail)
      | _ => .fail)
    | none => .fail)
  | .slice t x (some l) (some h) (some m) => if !isConst3 l h m then (match C.D t with
    | some ti => (match ti.kind with
      | .slice e => (match C.D e, winP st (ρ x), dat (ρ l), dat (ρ h), dat (ρ m) with
        | some i, some p, some l', some h', some m' => if Nat.beq p.k i.size then .nat (pB 0 (rRem p.xs p.off) (some m')) fun mm => .nat (pB 0 mm (some h')) fun hh => .nat (pB 0 hh (some l')) fun _ => .ret .top [.len p.id p.k p.xs.length] [] else .fail
        | _, _, _, _, _ => .fail)
      | _ => .fail)
    | none => .fail) else (match C.D t, ρ l, ρ h, ρ m with
    | some ti, .d (.val (.int _ 0)), .d (.val (.int _ 0)), .d (.val (.int _ 0)) => (match ti.kind with
      | .slice e => (match C.D e, ρ x with
        | some i, .d a => .rows (pRows i.size a) fun _ => .ret (.nil i.size) [] []
        | _, _ => .fail)
      | _ => .fail)
    | _, _, _, _ => .fail)
  | .build t ps => (match C.D t with
    | some i => (match i.kind with
      | .struct fs => if fieldsKnown C fs then partsV C t (partTys C fs (ps.toList.map fun p => (p.1, ρ p.2))) (zeroV C t i) fun cs => .ret (.agg cs) [] [] else .fail
      | _ => .fail)
    | none => .fail)
  | .call c => (match c.callee with
    | .builtin .append => (match c.args.toList, c.argTypes.toList with
      | [s, x], [t, t'] => if isIntT C t' then (match C.D t with
        | some ti => (match ti.kind with
          | .slice e => (match C.D e with
            | some i => (match ρ s, dat (ρ x), datL (zeroV C e i) with
              | .nil _, some a, some z => .nat (pMake i.bytes a a) fun l => .chk (pFit l i.bytes) (.chk (z.all okA) (.ret (.row nid) [.fresh nid] [.obj nid (.row i.size (rRep l z))]))
              | _, _, _ => .fail)
            | none => .fail)
          | _ => .fail)
        | none => .fail) else if Nat.beq t t' then (match C.D t with
        | some ti => (match ti.kind with
          | .slice e => (match C.D e with
            | some i => (match ρ s with
              | .nil _ => srcV st i.size (ρ x) fun ys r => .chk (pFit (rLenN ys) i.bytes) (.ret (.row nid) (.fresh nid :: r) [.obj nid (.row i.size ys)])
              | .row id => (match st id with
                | .row k us => if Nat.beq k i.size && !Nat.beq nid id then srcV st i.size (ρ x) fun ys r => .chk (pFit (rLenN us + rLenN ys) i.bytes) (.ret (.row nid) (.fresh nid :: .obj id (.row i.size us) :: r) [.obj id .gone, .obj nid (.row i.size (rApp us ys))]) else .fail
                | _ => .fail)
              | .win id k off n => (match winP st (.win id k off n) with
                | some p => if Nat.beq p.k i.size then srcV st i.size (ρ x) fun ys r => .chk (pRoom p.off p.n ys p.xs) (.ret (.win p.id p.k p.off (nAdd p.n (rCnt ys))) (.obj p.id (.row p.k p.xs) :: r) [.obj p.id (.row p.k (rOver p.xs (nAdd p.off p.n) ys))]) else .fail
                | none => .fail)
              | _ => .fail)
            | none => .fail)
          | _ => .fail)
        | none => .fail) else .fail
      | _, _ => .fail)
    | .builtin .cap => (match c.args.toList, c.argTypes.toList with
      | [x], [t] => (match C.D t with
        | some ti => (match ti.kind with
          | .slice _ => (match ρ x with
            | .nil _ => .ret (.d (vi 0)) [] []
            | _ => .fail)
          | _ => .fail)
        | none => .fail)
      | _, _ => .fail)
    | .builtin .copy => (match c.args.toList, c.argTypes.toList with
      | [s, x], [t, _] => (match C.D t with
        | some ti => (match ti.kind with
          | .slice e => (match C.D e, winP st (ρ s) with
            | some i, some p => if Nat.beq p.k i.size then srcV st i.size (ρ x) fun ys r => .ret (.d (rMin ys p.n)) (.obj p.id (.row p.k p.xs) :: r) [.obj p.id (.row p.k (rOver p.xs p.off (rTake ys p.n)))] else .fail
            | _, _ => .fail)
          | _ => .fail)
        | none => .fail)
      | _, _ => .fail)
    | .builtin .clear => (match c.args.toList, c.argTypes.toList with
      | [x], [t] => (match C.D t with
        | some ti => (match ti.kind with
          | .slice e => (match C.D e, winP st (ρ x) with
            | some i, some p => if Nat.beq p.k i.size then (match datL (zeroV C e i) with
              | some z => .chk (z.all okA) (.ret (.tup []) [.obj p.id (.row p.k p.xs)] [.obj p.id (.row p.k (rOver p.xs p.off (rRep p.n z)))])
              | none => .fail) else .fail
            | _, _ => .fail)
          | _ => .fail)
        | none => .fail)
      | _, _ => .fail)
    | .value f => (match ρ f with
      | .fn g caps => (match C.sig g with
        | some sgs => if C.sl g && !C.stf g then sealCall C st g (nilL C.D c.argTypes.toList (c.args.toList.map ρ) ++ caps) else if C.rd g then rdCall (C.th g) st nid g sgs (nilL C.D c.argTypes.toList (c.args.toList.map ρ) ++ caps) else match substF (nilL C.D c.argTypes.toList (c.args.toList.map ρ) ++ caps) with | some p => subCall st g sgs p | none => match flatSel st sgs (nilL C.D c.argTypes.toList (c.args.toList.map ρ) ++ caps) with | some q => flatCall g sgs q | none => stCall (C.kn g) st nid g sgs (nilL C.D c.argTypes.toList (c.args.toList.map ρ) ++ caps)
        | none => .fail)
      | _ => .fail)
    | _ => .fail)
  | _ => .fail

section
variable {P : Program} {X : Ctx} {o : Oper} {ρ : Operand → V} {C : Cfg} {M : Node → Option Out} {st : Stor}

/-- Parts laid into rows, in memory. -/
theorem fill_rows {w : World} {O : Nat → Prop} {k : Nat} : ∀ (parts : List (Nat × List A)) (vals : List (Nat × Value)) (rows : List (List A)) (cells : Array Value), parts.map Prod.fst = vals.map Prod.fst →
    (∀ (n : Nat) (p : Nat × List A) (v : Nat × Value), parts[n]? = some p → vals[n]? = some v → p.2.length = k ∧ p.1 < rows.length ∧ relL w O p.2 v.2.cells.toList ∧ OneCells v.2.cells.toList) → (∀ x ∈ rows, x.length = k) → relL w O rows.flatten cells.toList → OneCells cells.toList →
    ∃ cells', Instr.fill (fun q => some (q * k, k)) cells vals = some cells' ∧ relL w O (setRows rows parts).flatten cells'.toList ∧ OneCells cells'.toList ∧ (∀ x ∈ setRows rows parts, x.length = k) ∧ (setRows rows parts).length = rows.length
  | [], vals, rows, cells, h1, _, h3, h4, h5 => by
    have hv : vals = [] := by simpa using h1.symm
    subst hv
    exact ⟨cells, rfl, h4, h5, h3, rfl⟩
  | (q, ds) :: parts, [], rows, cells, h1, _, _, _, _ => by simp at h1
  | (q, ds) :: parts, (q', u) :: vals, rows, cells, h1, h2, h3, h4, h5 => by
    simp only [List.map_cons, List.cons.injEq] at h1
    obtain ⟨rfl, h1⟩ := h1
    obtain ⟨a1, a2, a3, a4⟩ := h2 0 (q, ds) (q, u) rfl rfl
    simp only at a1 a2 a3 a4
    have l1 := relL_length a3
    have l2 := relL_length h4
    rw [len_flat h3] at l2
    simp only [Array.length_toList] at l1 l2
    have hfit : q * k + k ≤ rows.length * k := by
      have : (q + 1) * k ≤ rows.length * k := Nat.mul_le_mul_right k a2
      rwa [Nat.add_mul, Nat.one_mul] at this
    simp only [Instr.fill]
    rw [if_neg (by simp; omega)]
    have hz : (u.cells.zipIdx.foldl (fun (cs : Array Value) (p : Value × Nat) => cs.setIfInBounds (q * k + p.2) p.1) cells).toList = over cells.toList (q * k) u.cells.toList := by
      have := foldl_set_over (off := q * k) u.cells.toList 0 cells (by simp; omega)
      rw [← Array.foldl_toList, Array.toList_zipIdx]
      simpa [over] using this
    have hx : ∃ x, rows[q]? = some x := ⟨_, List.getElem?_eq_getElem a2⟩
    obtain ⟨x, hx⟩ := hx
    have hxl := h3 x (List.mem_of_getElem? hx)
    have hov : over x 0 ds = ds := by
      unfold over
      rw [List.drop_of_length_le (by omega)]
      simp
    have hfl : (rows.set q ds).flatten = over rows.flatten (q * k) ds := by
      have := flatten_set_over rows q 0 x ds h3 hx (by omega)
      rw [hov] at this
      simpa using this
    obtain ⟨cells', g1, g2, g3, g4, g5⟩ := fill_rows parts vals (rows.set q ds) (u.cells.zipIdx.foldl (fun (cs : Array Value) (p : Value × Nat) => cs.setIfInBounds (q * k + p.2) p.1) cells) h1
      (fun n p v hp hv => by
        have := h2 (n + 1) p v (by simpa using hp) (by simpa using hv)
        simpa using this)
      (fun y hy => by rcases List.mem_or_eq_of_mem_set hy with hy | rfl; exact h3 y hy; exact a1) (by rw [hz, hfl]; exact relL_over h4 a3) (by rw [hz]; exact OneCells.over h5 a4 _)
    exact ⟨cells', g1, g2, g3, g4, by simpa [setRows] using g5⟩

/-- What the reckoning of parts has found out. -/
def PartsOk (ps : List (Nat × V)) (st : Stor) (i : TI) (acc : List (Nat × List A)) (r : List Rd) (ws : List Wr) : Prop :=
  ps.map Prod.fst = acc.map Prod.fst ∧ (∀ x ∈ r, agr st x) ∧ (∀ (n : Nat) p q, ps[n]? = some p → acc[n]? = some q → ∃ vs r' ws', CellsOk p.2 vs ∧ DatOk vs ∧ sealC st vs = some (q.2, r', ws') ∧ (∀ x ∈ r', x ∈ r) ∧ (∀ x ∈ ws', x ∈ ws) ∧ q.2.length = i.size) ∧
    (∀ st' : Stor, (∀ x ∈ r, agr st' x) → Sealable st' ws)

theorem CellsOk.nilV {t : Nat} {v : V} {ds : List V} (h : CellsOk (nilV C.D t v) ds) : CellsOk v ds := fun w O m u hu => h w O m u (rel_nilV hu)

theorem partsL_ok {e : Nat} {i : TI} {k : List (Nat × List A) → List Rd → List Wr → LX} : ∀ (ps : List (Nat × V)) (done : List (Nat × V)) (acc : List (Nat × List A)) (r : List Rd) (ws : List Wr), PartsOk done st i acc r ws →
    (∀ acc r ws, PartsOk (done ++ ps) st i acc r ws → LXok P X M o ρ st (k acc r ws)) → LXok P X M o ρ st (partsL C e i st ps acc r ws k)
  | [], done, acc, r, ws, hd, hk => by simpa [partsL] using hk acc r ws (by simpa using hd)
  | (q, v) :: ps, done, acc, r, ws, hd, hk => by
    simp only [partsL]
    refine cellsL_ok fun vs h1 h2 h3 => ?_
    cases hs : sealC st vs with
    | none => trivial
    | some x =>
      obtain ⟨ds, r', ws'⟩ := x
      simp only
      split
      · rename_i hl
        refine partsL_ok ps (done ++ [(q, v)]) _ _ _ ?_ (by simpa using hk)
        obtain ⟨d1, d2, d3, d4⟩ := hd
        have hlen : done.length = acc.length := by simpa using congrArg List.length d1
        refine ⟨by simp [d1], fun x hx => ?_, fun n p qq hp hq => ?_, fun st' hg => ?_⟩
        · rcases List.mem_append.1 hx with hx | hx
          · exact d2 x hx
          · exact sealC_rds hs x hx
        · by_cases hn : n < done.length
          · rw [List.getElem?_append_left hn] at hp
            rw [List.getElem?_append_left (by omega)] at hq
            obtain ⟨vs', r2, ws2, e1, e2, e3, e4, e5, e6⟩ := d3 n p qq hp hq
            exact ⟨vs', r2, ws2, e1, e2, e3, fun x hx => by simp [e4 x hx], fun x hx => by simp [e5 x hx], e6⟩
          · rw [List.getElem?_append_right (by omega)] at hp hq
            have hn0 : n - done.length = 0 := by
              have := (List.getElem?_eq_some_iff.1 hp).1
              simp at this; omega
            rw [hn0] at hp
            rw [show n - acc.length = 0 by omega] at hq
            simp only [List.getElem?_cons_zero, Option.some.injEq] at hp hq
            subst hp hq
            exact ⟨vs, r', ws', h1.nilV, h2, hs, fun x hx => by simp [hx], fun x hx => by simp [hx], Nat.eq_of_beq_eq_true hl⟩
        · intro y hy
          rcases List.mem_append.1 hy with hy | hy
          · exact d4 st' (fun x hx => hg x (by simp [hx])) y hy
          · exact sealC_able hs (fun x hx => hg x (by simp [hx])) y hy
      · trivial

theorem partsV_ok (hD : TyOk C.P C.D) {s : Nat} {k : List V → LX} : ∀ (ps : List (Nat × V)) (cs : List V), (∀ cs', (∀ (w : World) (O : Nat → Prop) (m : Asg) (vals : List (Nat × Value)) (cells : Array Value), relVL w O m cs cells.toList → ps.map Prod.fst = vals.map Prod.fst → relVL w O m (ps.map Prod.snd) (vals.map Prod.snd) →
      ∃ cells', Instr.fill (fun q => (fieldOf C s q).map fun x => (x.1, x.2.size)) cells vals = some cells' ∧ relVL w O m cs' cells'.toList) → LXok P X M o ρ st (k cs')) → LXok P X M o ρ st (partsV C s ps cs k)
  | [], cs, hk => by
    simp only [partsV]
    refine hk cs fun w O m vals cells h1 h2 _ => ?_
    have hv : vals = [] := by simpa using h2.symm
    subst hv
    exact ⟨cells, rfl, h1⟩
  | (q, v) :: ps, cs, hk => by
    simp only [partsV]
    cases hf : fieldOf C s q with
    | none => trivial
    | some x =>
      obtain ⟨off, j⟩ := x
      simp only
      refine cellsL_ok fun ds h1 h2 h3 => ?_
      split
      · rename_i hl
        simp only [Bool.and_eq_true, Nat.ble_eq] at hl
        have hl1 := Nat.eq_of_beq_eq_true hl.1
        refine partsV_ok hD ps (over cs off ds) fun cs' hcs => hk cs' fun w O m vals cells g1 g2 g3 => ?_
        cases vals with
        | nil => simp at g2
        | cons y vals =>
          obtain ⟨q', u⟩ := y
          simp only [List.map_cons, List.cons.injEq] at g2
          obtain ⟨rfl, g2⟩ := g2
          simp only [List.map_cons, relVL, List.cons.injEq] at g3
          obtain ⟨u', rr, ⟨rfl, rfl⟩, g4, g5⟩ := g3
          obtain ⟨k1, k2⟩ := h1 w O m u g4
          have l1 := relVL_length k1
          have l2 := relVL_length g1
          simp only [Array.length_toList] at l1 l2
          simp only [Instr.fill, hf, Option.map_some]
          rw [if_neg (by simp; omega)]
          have hz : (u.cells.zipIdx.foldl (fun (cs : Array Value) (p : Value × Nat) => cs.setIfInBounds (off + p.2) p.1) cells).toList = over cells.toList off u.cells.toList := by
            have := foldl_set_over (off := off) u.cells.toList 0 cells (by simp; omega)
            rw [← Array.foldl_toList, Array.toList_zipIdx]
            simpa [over] using this
          refine hcs w O m vals (u.cells.zipIdx.foldl (fun (cs : Array Value) (p : Value × Nat) => cs.setIfInBounds (off + p.2) p.1) cells) ?_ g2 g5
          rw [hz]
          exact relVL_over g1 k1
      · trivial

theorem ones_of {w : World} {O : Nat → Prop} : ∀ {as : List A} {us : List Value}, relL w O as us → as.all okA = true → OneCells us
  | [], us, h, _ => by simp only [relL] at h; subst h; intro v hv; cases hv
  | a :: as, us, h, hk => by
    simp only [relL, List.all_cons, Bool.and_eq_true] at h hk
    obtain ⟨v, t, rfl, e1, e2⟩ := h
    intro y hy
    rcases List.mem_cons.1 hy with rfl | hy
    · exact rel_okA e1 hk.1
    · exact ones_of e2 hk.2 y hy

theorem run_buildSlice (hD : TyOk P C.D) {t : TypeId} {n : Nat} {ps : Array (Nat × Operand)} {ev : Operand → Value} (ho : o.op = .buildSlice t n ps) {e : Nat} (ht : P.underlying t = some (.slice e)) {i : TI} (hi : C.D e = some i) (hpos : 0 < i.size) (hn : 0 < n) (hb : n * i.size ≤ 16777216)
    {cells' : Array Value} (hf : Instr.fill (fun q => some (q * i.size, i.size)) ((Array.range (n * i.size)).map (fun q => i.zero.cells[q % i.zero.cells.size]!)) (ps.toList.map fun p => (p.1, ev p.2)) = some cells') (w : World) :
    (execOp ev o).run P w = .ok (.value (.slice (some ⟨w.heap.size, 0, none⟩) n n)) (w.alloc (.cells cells' e)) := by
  have hok := hD e i hi
  have hnb : ¬ (n * i.size > 2 ^ 24) := by omega
  have h0 : ¬ n * i.size = 0 := by
    have := Nat.mul_pos hn hpos
    omega
  have hparts : (ps.map fun (p : Nat × Operand) => (p.1, ev p.2)).toList = ps.toList.map fun p => (p.1, ev p.2) := by simp
  have hrun : (Instr.buildSlice t n (ps.map fun (p : Nat × Operand) => (p.1, ev p.2))).run P w = .ok (.slice (some ⟨w.heap.size, 0, none⟩) n n) (w.alloc (.cells cells' e)) := by
    simp only [Instr.buildSlice, Sem.run_bind, run_underlying ht, Result.andThen_ok, hok.run_sizeOf w, if_neg hnb, if_neg h0, hok.run_zero w, hparts, Sem.run_pure, hf, newRow, run_newObj_alloc]
  simp only [execOp, ho]
  show ((do pure (.value (← Instr.buildSlice t n (ps.map fun (p : Nat × Operand) => (p.1, ev p.2)))) : Sem Next)).run P w = _
  simp only [Sem.run_bind, hrun, Result.andThen_ok, Sem.run_pure]

theorem run_buildSlice0 (hD : TyOk P C.D) {t : TypeId} {ps : Array (Nat × Operand)} {ev : Operand → Value} (ho : o.op = .buildSlice t 0 ps) (hps : ps = #[]) {e : Nat} (ht : P.underlying t = some (.slice e)) {i : TI} (hi : C.D e = some i) (w : World) :
    (execOp ev o).run P w = .ok (.value (.slice (some ⟨w.heap.size, 0, none⟩) 0 0)) (w.alloc (.cells #[] e)) := by
  subst hps
  have hok := hD e i hi
  have hrun : (Instr.buildSlice t 0 #[]).run P w = .ok (.slice (some ⟨w.heap.size, 0, none⟩) 0 0) (w.alloc (.cells #[] e)) := by
    simp [Instr.buildSlice, run_underlying ht, hok.run_sizeOf w, Instr.fill, newRow, Array.range_zero']
  simp only [execOp, ho]
  have e0 : (#[] : Array (Nat × Operand)).map (fun x => (x.1, ev x.2)) = #[] := by simp
  rw [e0]
  simp only [Sem.run_bind, hrun, Result.andThen_ok, Sem.run_pure]

/-- The zeroes of a slice that is written out. -/
theorem zero_rows {w : World} {O : Nat → Prop} {i : TI} {z : List A} (hz : relL w O z i.zero.cells.toList) (hsz : i.zero.cells.size = i.size) (hpos : 0 < i.size) : ∀ n, relL w O (List.replicate n z).flatten ((Array.range (n * i.size)).map (fun q => i.zero.cells[q % i.zero.cells.size]!)).toList := by
  intro n
  have key : ((Array.range (n * i.size)).map (fun q => i.zero.cells[q % i.zero.cells.size]!)).toList = (List.replicate n i.zero.cells.toList).flatten := by
    apply List.ext_getElem?
    intro q
    simp only [Array.toList_map, Array.toList_range, List.getElem?_map]
    by_cases hq : q < n * i.size
    · rw [List.getElem?_range hq]
      have hzl : i.zero.cells.toList.length = i.size := by simpa using hsz
      have h1 : (List.replicate n i.zero.cells.toList).flatten[q]? = i.zero.cells.toList[q % i.size]? := by
        clear hz
        induction n generalizing q with
        | zero => simp at hq
        | succ n ih =>
          rw [List.replicate_succ, List.flatten_cons]
          by_cases hq2 : q < i.size
          · rw [List.getElem?_append_left (by omega), Nat.mod_eq_of_lt hq2]
          · have hq3 : q - i.size < n * i.size := by
              rw [Nat.add_mul, Nat.one_mul] at hq; omega
            have hm2 := Nat.mod_eq_sub_mod (a := q) (b := i.size) (by omega)
            rw [List.getElem?_append_right (by omega), hzl, ih (q - i.size) hq3, ← hm2]
      have hm : q % i.size < i.zero.cells.size := by rw [hsz]; exact Nat.mod_lt _ hpos
      rw [h1, hsz]
      simp only [Option.map_some]
      rw [getElem!_pos i.zero.cells (q % i.size) hm]
      simp [Array.getElem?_toList, Array.getElem?_eq_getElem hm]
    · rw [List.getElem?_eq_none (by simp; omega), List.getElem?_eq_none (by simp [List.sum_replicate_nat, hsz]; omega)]
      rfl
  rw [key]
  induction n with
  | zero => simp [relL]
  | succ n ih => simp only [List.replicate_succ, List.flatten_cons]; exact relL_append hz (ih (by
      apply List.ext_getElem?
      intro q
      simp only [Array.toList_map, Array.toList_range, List.getElem?_map]
      by_cases hq : q < n * i.size
      · have := congrArg (fun l => l[q]?) key
        simp only [Array.toList_map, Array.toList_range, List.getElem?_map] at this
        rw [List.getElem?_range (by rw [Nat.add_mul]; omega)] at this
        rw [List.getElem?_range hq, this]
        have e : (List.replicate (n + 1) i.zero.cells.toList).flatten = (List.replicate n i.zero.cells.toList).flatten ++ i.zero.cells.toList := by
          rw [List.replicate_succ', List.flatten_append]; simp
        rw [e, List.getElem?_append_left (by simp [List.sum_replicate_nat, hsz]; omega)]
      · rw [List.getElem?_eq_none (by simp; omega), List.getElem?_eq_none (by simp [List.sum_replicate_nat, hsz]; omega)]
        rfl))
end
end
end Go.Proofs.YtnbjmmldjggkfaaGreat.Abs
