/- Ec -/
import Derived.Test.YtbgikpffkgjecaaGreatDoorEb
namespace Go.Proofs.YtbgikpffkgjecaaGreatDoor.Abs
open Go Go.RowKit
set_option linter.unusedSimpArgs false
set_option linter.unusedVariables false
noncomputable section
def jBZ (bytes:Nat) (l c:Int):Prop:=0<=l/\l<=c/\(bytes:Int) * c<=281474976710656/\c<=9223372036854775807
noncomputable instance (b:Nat) (l c:Int):Decidable (jBZ b l c):=Classical.propDecidable _
def jjt (bytes:Nat) (a b:A):Option Nat:=
 match a,b with
 | .val (.int _ l),.val (.int _ c)=>if jBZ bytes l c then some l.toNat else none
 | _,_=>none
def jac (xs:List (List A)) (i:Nat):Option (List A):=xs[i]?
def yO (cs:List A) (j:Nat) (ds:List A):List A:=over cs j ds
def Zw (n:Nat) (z:List A):List (List A):=List.replicate n z
def jW (us ys:List (List A)):List (List A):=us++ys
def jm (xs:List (List A)):Nat:=xs.length
def jA (n bytes:Nat):Bool:=decide (n * bytes<=140737488355328/\n<=9223372036854775807)
def jjw (k:Nat) (a:A):Option (List (List A)):=match a with | .sl k' xs=>if k'=k then some xs else none|_=>none
def jnP (id:Nat):List Wr->Bool
 | []=>true
 | w::ws=> !Nat.beq w.id id && jnP id ws
def jjx (C:Cfg) (e:Nat) (i:TI) (st:jB):List (Nat × V)->List (Nat × List A)->List Rd->List Wr->(List (Nat × List A)->List Rd->List Wr->LX)->LX
 | [],acc,r,ws,k=>k acc r ws
 | (q,v)::ps,acc,r,ws,k=>jbE i.kind.plain i.size (nilV C.D e v) λvs=>match JM st vs with
  | some (ds,r',ws')=>if Nat.beq ds.length i.size then jjx C e i st ps (acc++[(q,ds)]) (r++r') (ws++ws') k else .fail
  | none=> .fail
def jjy (C:Cfg) (s:Nat):List (Nat × V)->List V->(List V->LX)->LX
 | [],cs,k=>k cs
 | (q,v)::ps,cs,k=>match zC C s q with
  | some (off,j)=>jbE j.kind.plain j.size v λds=>if Nat.beq ds.length j.size && Nat.ble (off+j.size) cs.length then jjy C s ps (over cs off ds) k else .fail
  | none=> .fail
def setRows (rows:List (List A)):List (Nat × List A)->List (List A)
 | []=>rows
 | (q,ds)::ps=>setRows (rows.set q ds) ps
def jeP (n:Nat):List (Nat × List A)->Bool
 | []=>true
 | (q,_)::ps=>Nat.blt q n && jeP n ps
def jxd (st:jB) (k:Nat) (v:V) (kk:List (List A)->List Rd->LX):LX:=
 match v with
 | .nil _=>kk [] []
 | .d a=> .rows (jjw k a) λys=>kk ys []
 | .row id=>(match st id with
  | .row k' ys=>if Nat.beq k' k then kk ys [.obj id (.row k' ys)] else .fail
  | .fro k' ys=>if Nat.beq k' k then kk ys [.obj id (.fro k' ys)] else .fail
  | _=> .fail)
 | .win _ _ _ _=>(match jgh st v with
  | some p=>if Nat.beq p.k k then kk (yW p.xs p.off p.n) [.obj p.id (.row p.k p.xs)] else .fail
  | none=> .fail)
 | _=> .fail
def jMH:V->Bool
 | .win _ _ _ _=>true
 | _=>false
def jEn (st:jB) (k:Nat) (v:V) (l h:Option A):LX:=
 match jgh st v with
 | some p=>if Nat.beq p.k k then .nat (pB p.n (yi p.xs p.off) h) λh'=> .nat (pLo h' l) λl'=> .ret (.win p.id p.k (jDA p.off l') (kP h' l')) [.len p.id p.k p.xs.length] [] else .fail
 | none=> .fail
def jnu:Abs.Obj->Bool
 | .dead=>true
 | _=>false
def juB (o:Out):Nat->Nat->(List A->LX)->LX
 | 0,_,k=>k []
 | n+1,i,k=> .bnd (hD o i) λa=>juB o n (i+1) λas=>k (a::as)
def juC (o:Out):List Nat->Nat->(List (List (List A))->LX)->LX
 | [],_,k=>k []
 | w::ks,i,k=> .rows (hR w o i) λr=>juC o ks (i+1) λrs=>k (r::rs)
def joe (b:Bool) (sg:SigA) (st:jB) (nid:Nat) (ids:List Nat) (p:Nat) (as:List A) (rs:List (List (List A))):LX:=
 .ret (bk (ids++ups nid (p+sg.nw.length)) (sg.r.toV as)) (jeO st ids++jeM (ups nid (p+sg.nw.length))) (jgi (ids++ups nid (p+sg.nw.length)) ((sg.objsB b as rs).map (bkO (ids++ups nid (p+sg.nw.length)))))
def jFr (sg:SigA) (st:jB) (nid:Nat) (ids:List Nat) (p:Nat) (as:List A) (rs:List (List (List A))):LX:=
 match jyk sg.ks with
 | none=>joe true sg st nid ids p as rs
 | some i=> .cnd (as.getD i .top) (joe true sg st nid ids p as rs) (joe false sg st nid ids p as rs)
def jtF (keep:Bool) (st:jB) (nid:Nat) (g:FuncId) (sgs:Sig) (vs:List V):LX:=
 match jb9 keep st vs with
 | some (ids,vs2,objs,p)=>(match ja6 objs.length sgs with
  | some sg=>if objs.all ji1 && (ups nid (p+sg.nw.length)).all (λi=>jnu (st i)) then
    .node (.callv g vs2 objs) λout=>juB out sg.nd 0 λas=>juC out sg.ks sg.nd λrs=>
     jFr sg st nid ids p as rs
   else .fail
  | none=> .fail)
 | none=> .fail
def Z1 (a b:A):Bool:=@decide (a=b) (Classical.propDecidable _)
def jpa:List V->List V->LX->LX
 | [],[],k=>k
 | .d a::xs,.d b::ys,k=> .chk (Z1 a b) (jpa xs ys k)
 | _,_,_=> .fail
def jCe (st:jB):List Wr->LX->LX
 | [],k=>k
 | .obj i (.box ys)::ws,k=>(match st i with
  | .box xs=>jpa xs ys (jCe st ws k)
  | _=> .fail)
 | _::_,_=> .fail
def ji2 (keep:Bool) (st:jB) (nid:Nat) (g:FuncId) (sgs:Sig) (vs:List V):LX:=
 match jb9 keep st vs with
 | some (ids,vs2,objs,p)=>(match ja6 objs.length sgs with
  | some sg=>if objs.all ji1 && (ups nid (p+sg.nw.length)).all (λi=>jnu (st i)) then
    .node (.callv g vs2 objs) λout=>juB out sg.nd 0 λas=>juC out sg.ks sg.nd λrs=>
     jCe st (jgi (ids++ups nid (p+sg.nw.length)) ((sg.objs as rs).map (bkO (ids++ups nid (p+sg.nw.length)))))
      (.ret (bk (ids++ups nid (p+sg.nw.length)) (sg.r.toV as)) (jeO st ids++jeM (ups nid (p+sg.nw.length))) [])
   else .fail
  | none=> .fail)
 | none=> .fail
def jAX (_th:Bool) (_st:jB) (_nid:Nat) (_g:FuncId) (_sgs:Sig) (_vs:List V):LX:= .fail
def jru (_st:jB) (_id _ii _k _j _n:Nat) (_f:Bool) (_xs:List (List A)) (_vs:List V):LX:= .fail
def jvF (_D:Nat->Option TI) (_nid:Nat) (_st:jB) (_i:TI) (_v:V):LX:= .fail
def jBv (_vs:List V):Option (List V × (Nat × Nat × Nat × Nat)):=none
def jvC (_st:jB) (_g:FuncId) (_sgs:Sig) (_p:List V × (Nat × Nat × Nat × Nat)):LX:= .fail
def juR (_st:jB) (_sgs:Sig) (_vs:List V):Option (List V × Nat × Nat × List (List A)):=none
def jpr (_g:FuncId) (_sgs:Sig) (_q:List V × Nat × Nat × List (List A)):LX:= .fail
def jjS (C:Cfg) (st:jB) (g:FuncId) (vs:List V):LX:=
 match jch st vs with
 | some (as,p)=>if C.pureF g then .node (.call g as) λout=> .bnd (fin false out) λx=> .ret (.d x) (Z8 p) (Z9 p) else .fail
 | none=>match vs with
 | [v]=>(match jrb st v with
  | some (a,r,ws)=>if C.pureF g then .node (.call g [a]) λout=> .bnd (fin false out) λx=> .ret (.d x) r ws else .fail
  | none=> .fail)
 | _=> .fail
def jsP (C:Cfg) (t:Nat):Bool:=match C.D t with|some i=>(match i.kind with | .int _=>true|_=>false)|none=>false
def jAN (a:A):Option (List (List A)):=match a with | .sl _ xs=>some xs|_=>none
def jFh (st:jB) (v:V) (neg:Bool):LX:=
 match v with
 | .d a=> .rows (jAN a) λys=> .ret (.ub (yM ys) neg) [] []
 | .nil _=> .ret (.ub 0 neg) [] []
 | .row id=>(match st id with
  | .row k xs=> .ret (.ub (yM xs) neg) [.obj id (.row k xs)] []
  | .fro k xs=> .ret (.ub (yM xs) neg) [.obj id (.fro k xs)] []
  | _=> .fail)
 | _=> .fail
def evL (C:Cfg) (o:Oper) (ρ:Operand->V) (st:jB) (nid:Nat):LX:=
 match o.op with
 | .box t x=>(match C.D t with
  | some i=>if i.kind.known then jbE i.kind.plain i.size (nilV C.D t (ρ x)) λds=> .ret (.ptr nid 0) [.fresh nid] [.obj nid (.box ds)] else .fail
  | none=> .fail)
 | .alloc t=>(match C.D t with
  | some i=>YH (zeroV C t i) (.ret (.ptr nid 0) [.fresh nid] [.obj nid (.box (zeroV C t i))])
  | none=> .fail)
 | .makeMap _ none=> .ret (.row nid) [.fresh nid] [.obj nid (.map [])]
 | .mapUpdate t x k y=>(match C.D t,dat (ρ k) with
  | some ti,some ka=>(match ti.kind with
   | .map kt et=>(match C.D kt with
    | some ki=>(match jDp ki.kind,ρ x,jpj (nilV C.D et (ρ y)) with
     | some ks,.row id,some va=>(match st id with
      | .map xs=> .rows (jkD ks xs ka va) λys=> .ret (.d (.val undef)) [.obj id (.map xs)] [.obj id (.map ys)]
      | _=> .fail)
     | _,_,_=> .fail)
    | none=> .fail)
   | _=> .fail)
  | _,_=> .fail)
 | .store t a x=>(match C.D t with
  | some i=>if i.kind.known then (match ρ a with
   | .ptr id off=>(match st id with
    | .box cs=>jbE i.kind.plain i.size (nilV C.D t (ρ x)) λds=>if Nat.beq ds.length i.size && Nat.ble (off+i.size) cs.length then .ret (.d (.val undef)) [.blen id cs.length] (jcN id off ds) else .fail
    | _=> .fail)
   | .rptr id ii k j=>(match st id with
    | .row k' xs=>if Nat.beq k' k && Nat.ble (j+i.size) k then jbE i.kind.plain i.size (nilV C.D t (ρ x)) λvs=>(match JM st vs with
      | some (ds,r,ws)=>if Nat.beq ds.length i.size && jnP id ws then .cells (jac xs ii) λcs=> .ret (.d (.val undef)) (.elem id ii k cs::r) (ws++[.elem id ii (yO cs j ds)]) else .fail
      | none=> .fail)
     else .fail
    | .tre f k' xs=>if Nat.beq k' k && Nat.ble (j+i.size) k then jbE i.kind.plain i.size (nilV C.D t (ρ x)) λvs=>jru st id ii k j i.size f xs vs else .fail
    | _=> .fail)
   | _=> .fail) else .fail
  | none=> .fail)
 | .load t x=>(match C.D t with
  | some i=>jvF C.D nid st i (ρ x)
  | none=> .fail)
 | .binOp op t x y _=>if jnv y && jGs op then (match C.D t with
  | some ti=>(match ti.kind with
   | .slice _=>jFh st (ρ x) (jpH op)
   | _=> .fail)
  | none=> .fail) else .fail
 | .makeSlice t x y=>(match C.D t with
  | some ti=>(match ti.kind with
   | .slice e=>(match C.D e,dat (ρ x),dat (ρ y) with
    | some i,some a,some b=>if C.tr then .fail else (match jc5 (zeroV C e i) with
     | some z=> .nat (jjt i.bytes a b) λl=> .chk (z.all jI) (.ret (.row nid) [.fresh nid] [.obj nid (.row i.size (Zw l z))])
     | none=> .fail)
    | _,_,_=> .fail)
   | _=> .fail)
  | none=> .fail)
 | .buildSlice t n ps=>(match C.D t with
  | some ti=>(match ti.kind with
   | .slice e=>(match C.D e with
    | some i=>if Nat.beq n 0 then (if ps.size=0 then .ret (.nil i.size) [] [] else .fail) else
     if i.kind.known && Nat.blt 0 i.size && Nat.ble (n * i.size) 16777216 then (match jc5 (zeroV C e i) with
     | some z=> .chk (z.all jI) (jjx C e i st (ps.toList.map λp=>(p.1,ρ p.2)) [] [] [] λparts r ws=>
       if jeP n parts then .ret (.row nid) (.fresh nid::r) (ws++[.obj nid (.row i.size (setRows (List.replicate n z) parts))]) else .fail)
     | none=> .fail) else .fail
    | none=> .fail)
   | _=> .fail)
  | none=> .fail)
 | .indexAddr t x ix=>(match C.D t with
  | some ti=>(match ti.kind with
   | .slice e=>(match C.D e,ρ x,dat (ρ ix) with
    | some i,.row id,some b=>(match st id with
     | .row k xs=>if Nat.beq k i.size then .nat (Zf (jm xs) b) λn=> .ret (.rptr id n i.size 0) [.len id i.size xs.length] [] else .fail
     | _=> .fail)
    | some i,.win id k off n,some b=>(match st id with
     | .row k' xs=>if Nat.beq k' i.size && Nat.beq k i.size then .nat (Zf n b) λj=> .ret (.rptr id (jDA off j) i.size 0) [.len id i.size xs.length] [] else .fail
     | _=> .fail)
    | _,_,_=> .fail)
   | _=> .fail)
  | none=> .fail)
 | .slice t x lo hi none=>(match C.D t with
  | some ti=>(match ti.kind with
   | .slice e=>(match C.D e,ρ x,(match lo with|none=>some none|some y=>(dat (ρ y)).map some),(match hi with|none=>some none|some y=>(dat (ρ y)).map some) with
    | some i,.win id k off n,some l,some h=>jEn st i.size (.win id k off n) l h
    | some i,.nil _,some l,some h=> .nat (pB 0 0 h) λh'=> .nat (pLo h' l) λ_=> .ret (.nil i.size) [] []
    | some i,.row id,some l,some h=>if C.win then jEn st i.size (.row id) l h else (match st id with
     | .row k xs=>if Nat.beq k i.size then .bnd (yq i.size (.sl i.size xs) l h) λr=> .ret (.d r) [.obj id (.row i.size xs)] [.obj id (.fro i.size xs)] else .fail
     | _=> .fail)
    | _,_,_,_=> .fail)
   | _=> .fail)
  | none=> .fail)
 | .slice t x (some l) (some h) (some m)=>if !jiF l h m then (match C.D t with
  | some ti=>(match ti.kind with
   | .slice e=>(match C.D e,jgh st (ρ x),dat (ρ l),dat (ρ h),dat (ρ m) with
    | some i,some p,some l',some h',some m'=>if Nat.beq p.k i.size then .nat (pB 0 (yi p.xs p.off) (some m')) λmm=> .nat (pB 0 mm (some h')) λhh=> .nat (pB 0 hh (some l')) λ_=> .ret .top [.len p.id p.k p.xs.length] [] else .fail
    | _,_,_,_,_=> .fail)
   | _=> .fail)
  | none=> .fail) else (match C.D t,ρ l,ρ h,ρ m with
  | some ti,.d (.val (.int _ 0)),.d (.val (.int _ 0)),.d (.val (.int _ 0))=>(match ti.kind with
   | .slice e=>(match C.D e,ρ x with
    | some i,.d a=> .rows (jjw i.size a) λ_=> .ret (.nil i.size) [] []
    | _,_=> .fail)
   | _=> .fail)
  | _,_,_,_=> .fail)
 | .build t ps=>(match C.D t with
  | some i=>(match i.kind with
   | .struct fs=>if Qn C fs then jjy C t (ZI C fs (ps.toList.map λp=>(p.1,ρ p.2))) (zeroV C t i) λcs=> .ret (.agg cs) [] [] else .fail
   | _=> .fail)
  | none=> .fail)
 | .call c=>(match c.callee with
  | .builtin .append=>(match c.args.toList,c.argTypes.toList with
   | [s,x],[t,t']=>if jsP C t' then (match C.D t with
    | some ti=>(match ti.kind with
     | .slice e=>(match C.D e with
      | some i=>(match ρ s,dat (ρ x),jc5 (zeroV C e i) with
       | .nil _,some a,some z=> .nat (jjt i.bytes a a) λl=> .chk (jA l i.bytes) (.chk (z.all jI) (.ret (.row nid) [.fresh nid] [.obj nid (.row i.size (Zw l z))]))
       | _,_,_=> .fail)
      | none=> .fail)
     | _=> .fail)
    | none=> .fail) else if Nat.beq t t' then (match C.D t with
    | some ti=>(match ti.kind with
     | .slice e=>(match C.D e with
      | some i=>(match ρ s with
       | .nil _=>jxd st i.size (ρ x) λys r=> .chk (jA (jm ys) i.bytes) (.ret (.row nid) (.fresh nid::r) [.obj nid (.row i.size ys)])
       | .row id=>(match st id with
        | .row k us=>if Nat.beq k i.size && !Nat.beq nid id then jxd st i.size (ρ x) λys r=> .chk (jA (jm us+jm ys) i.bytes) (.ret (.row nid) (.fresh nid:: .obj id (.row i.size us)::r) [.obj id .gone,.obj nid (.row i.size (jW us ys))]) else .fail
        | _=> .fail)
       | .win id k off n=>(match jgh st (.win id k off n) with
        | some p=>if Nat.beq p.k i.size then jxd st i.size (ρ x) λys r=> .chk (jly p.off p.n ys p.xs) (.ret (.win p.id p.k p.off (jDA p.n (yM ys))) (.obj p.id (.row p.k p.xs)::r) [.obj p.id (.row p.k (qj p.xs (jDA p.off p.n) ys))]) else .fail
        | none=> .fail)
       | _=> .fail)
      | none=> .fail)
     | _=> .fail)
    | none=> .fail) else .fail
   | _,_=> .fail)
  | .builtin .cap=>(match c.args.toList,c.argTypes.toList with
   | [x],[t]=>(match C.D t with
    | some ti=>(match ti.kind with
     | .slice _=>(match ρ x with
      | .nil _=> .ret (.d (vi 0)) [] []
      | _=> .fail)
     | _=> .fail)
    | none=> .fail)
   | _,_=> .fail)
  | .builtin .copy=>(match c.args.toList,c.argTypes.toList with
   | [s,x],[t,_]=>(match C.D t with
    | some ti=>(match ti.kind with
     | .slice e=>(match C.D e,jgh st (ρ s) with
      | some i,some p=>if Nat.beq p.k i.size then jxd st i.size (ρ x) λys r=> .ret (.d (jwX ys p.n)) (.obj p.id (.row p.k p.xs)::r) [.obj p.id (.row p.k (qj p.xs p.off (jlD ys p.n)))] else .fail
      | _,_=> .fail)
     | _=> .fail)
    | none=> .fail)
   | _,_=> .fail)
  | .builtin .clear=>(match c.args.toList,c.argTypes.toList with
   | [x],[t]=>(match C.D t with
    | some ti=>(match ti.kind with
     | .slice e=>(match C.D e,jgh st (ρ x) with
      | some i,some p=>if Nat.beq p.k i.size then (match jc5 (zeroV C e i) with
       | some z=> .chk (z.all jI) (.ret (.tup []) [.obj p.id (.row p.k p.xs)] [.obj p.id (.row p.k (qj p.xs p.off (Zw p.n z)))])
       | none=> .fail) else .fail
      | _,_=> .fail)
     | _=> .fail)
    | none=> .fail)
   | _,_=> .fail)
  | .value f=>(match ρ f with
   | .fn g caps=>(match C.sig g with
    | some sgs=>if C.sl g && !C.stf g then jjS C st g (Yj C.D c.argTypes.toList (c.args.toList.map ρ)++caps) else if C.rd g then jAX (C.th g) st nid g sgs (Yj C.D c.argTypes.toList (c.args.toList.map ρ)++caps) else match jBv (Yj C.D c.argTypes.toList (c.args.toList.map ρ)++caps) with|some p=>jvC st g sgs p|none=>match juR st sgs (Yj C.D c.argTypes.toList (c.args.toList.map ρ)++caps) with|some q=>jpr g sgs q|none=>if C.th g then ji2 (C.kn g) st nid g sgs (Yj C.D c.argTypes.toList (c.args.toList.map ρ)++caps) else jtF (C.kn g) st nid g sgs (Yj C.D c.argTypes.toList (c.args.toList.map ρ)++caps)
    | none=> .fail)
   | _=> .fail)
  | _=> .fail)
 | _=> .fail
section
variable {P:Program} {X:Ctx} {o:Oper} {ρ:Operand->V} {C:Cfg} {M:Node->Option Out} {st:jB}
theorem jk5 {w:World} {O:Nat->Prop} {k:Nat} :∀(parts:List (Nat × List A)) (vals:List (Nat × Value)) (rows:List (List A)) (cells:Array Value),parts.map Prod.fst=vals.map Prod.fst->
  (∀(n:Nat) (p:Nat × List A) (v:Nat × Value),parts[n]? = some p->vals[n]? = some v->p.2.length=k/\p.1 < rows.length/\jS w O p.2 v.2.cells.toList/\jJ v.2.cells.toList)->(∀x∈rows,x.length=k)->jS w O rows.flatten cells.toList->jJ cells.toList->
  ∃cells',Instr.fill (λq=>some (q * k,k)) cells vals=some cells'/\jS w O (setRows rows parts).flatten cells'.toList/\jJ cells'.toList/\(∀x∈setRows rows parts,x.length=k)/\(setRows rows parts).length=rows.length
 | [],vals,rows,cells,h1,_,h3,h4,h5=>by
  have hv:vals = []:=by simpa using h1.symm
  subst hv;exact ⟨cells,rfl,h4,h5,h3,rfl⟩
 | (q,ds)::parts,[],rows,cells,h1,_,_,_,_=>by simp at h1
 | (q,ds)::parts,(q',u)::vals,rows,cells,h1,h2,h3,h4,h5=>by
  simp only [zf,Qd] at h1;obtain ⟨rfl,h1⟩:=h1;obtain ⟨a1,a2,a3,a4⟩:=h2 0 (q,ds) (q,u) rfl rfl;simp only at a1 a2 a3 a4;have l1:=kC a3;have l2:=kC h4;rw [qA h3] at l2;simp only [jao] at l1 l2;have hfit:q * k+k<=rows.length * k:=by
   have:(q+1) * k<=rows.length * k:=jbg k a2;rwa [yF,Nat.one_mul] at this
  simp only [Instr.fill];rw [jf (by simp;omega)];have hz:(u.cells.zipIdx.foldl (λ(cs:Array Value) (p:Value × Nat)=>cs.setIfInBounds (q * k+p.2) p.1) cells).toList=over cells.toList (q * k) u.cells.toList:=by
   have:=KS (off:=q * k) u.cells.toList 0 cells (by simp;omega)
   rw [<-Array.foldl_toList,Array.toList_zipIdx];simpa [over] using this
  have hx:∃x,rows[q]? = some x:=⟨_,kO a2⟩;obtain ⟨x,hx⟩:=hx;have hxl:=h3 x (Yd hx);have hov:over x 0 ds=ds:=by
   unfold over;rw [jmi (by omega)];simp
  have hfl:(rows.set q ds).flatten=over rows.flatten (q * k) ds:=by
   have:=Zo rows q 0 x ds h3 hx (by omega);rw [hov] at this;simpa using this
  obtain ⟨cells',g1,g2,g3,g4,g5⟩:=jk5 parts vals (rows.set q ds) (u.cells.zipIdx.foldl (λ(cs:Array Value) (p:Value × Nat)=>cs.setIfInBounds (q * k+p.2) p.1) cells) h1
   (λn p v hp hv=>by
    have:=h2 (n+1) p v (by simpa using hp) (by simpa using hv);simpa using this)
   (λy hy=>by rcases jmh hy with hy|rfl;exact h3 y hy;exact a1) (by rw [hz,hfl];exact jcU h4 a3) (by rw [hz];exact jJ.over h5 a4 _)
  exact ⟨cells',g1,g2,g3,g4,by simpa [setRows] using g5⟩
def jm8 (ps:List (Nat × V)) (st:jB) (i:TI) (acc:List (Nat × List A)) (r:List Rd) (ws:List Wr):Prop:=
 ps.map Prod.fst=acc.map Prod.fst/\(∀x∈r,yV st x)/\(∀(n:Nat) p q,ps[n]? = some p->acc[n]? = some q-> ∃vs r' ws',jcE p.2 vs/\jkM vs/\JM st vs=some (q.2,r',ws')/\(∀x∈r',x∈r)/\(∀x∈ws',x∈ws)/\q.2.length=i.size)/\
  (∀st':jB,(∀x∈r,yV st' x)->jer st' ws)
theorem jcE.nilV {t:Nat} {v:V} {ds:List V} (h:jcE (nilV C.D t v) ds):jcE v ds:=λw O m u hu=>h w O m u (qY hu)
theorem jlA {e:Nat} {i:TI} {k:List (Nat × List A)->List Rd->List Wr->LX} :∀(ps:List (Nat × V)) (done:List (Nat × V)) (acc:List (Nat × List A)) (r:List Rd) (ws:List Wr),jm8 done st i acc r ws->
  (∀acc r ws,jm8 (done++ps) st i acc r ws->yY P X M o ρ st (k acc r ws))->yY P X M o ρ st (jjx C e i st ps acc r ws k)
 | [],done,acc,r,ws,hd,hk=>by simpa [jjx] using hk acc r ws (by simpa using hd)
 | (q,v)::ps,done,acc,r,ws,hd,hk=>by
  simp only [jjx];refine Yu λvs h1 h2 h3=> ?_;cases hs:JM st vs with
  | none=>trivial
  | some x=>
   obtain ⟨ds,r',ws'⟩:=x;simp only;split
   ·rename_i hl;refine jlA ps (done++[(q,v)]) _ _ _ ?_ (by simpa using hk);obtain ⟨d1,d2,d3,d4⟩:=hd;have hlen:done.length=acc.length:=by simpa using congrArg List.length d1
    refine ⟨by simp [d1],λx hx=> ?_,λn p qq hp hq=> ?_,λst' hg=> ?_⟩
    ·rcases kZ.1 hx with hx|hx
     ·exact d2 x hx
     ·exact Zz hs x hx
    ·by_cases hn:n < done.length
     ·rw [K7 hn] at hp;rw [K7 (by omega)] at hq;obtain ⟨vs',r2,ws2,e1,e2,e3,e4,e5,e6⟩:=d3 n p qq hp hq;exact ⟨vs',r2,ws2,e1,e2,e3,λx hx=>by simp [e4 x hx],λx hx=>by simp [e5 x hx],e6⟩
     ·rw [Qe (by omega)] at hp hq;have hn0:n - done.length=0:=by
       have:=(ZW.1 hp).1;simp at this;omega
      rw [hn0] at hp;rw [show n - acc.length=0 by omega] at hq;simp only [jM,zg] at hp hq;subst hp hq;exact ⟨vs,r',ws',h1.nilV,h2,hs,λx hx=>by simp [hx],λx hx=>by simp [hx],zw hl⟩
    ·intro y hy;rcases kZ.1 hy with hy|hy
     ·exact d4 st' (λx hx=>hg x (by simp [hx])) y hy
     ·exact Kx hs (λx hx=>hg x (by simp [hx])) y hy
   ·trivial
theorem jlB (hD:J7 C.P C.D) {s:Nat} {k:List V->LX} :∀(ps:List (Nat × V)) (cs:List V),(∀cs',(∀(w:World) (O:Nat->Prop) (m:zV) (vals:List (Nat × Value)) (cells:Array Value),jx w O m cs cells.toList->ps.map Prod.fst=vals.map Prod.fst->jx w O m (ps.map Prod.snd) (vals.map Prod.snd)->
   ∃cells',Instr.fill (λq=>(zC C s q).map λx=>(x.1,x.2.size)) cells vals=some cells'/\jx w O m cs' cells'.toList)->yY P X M o ρ st (k cs'))->yY P X M o ρ st (jjy C s ps cs k)
 | [],cs,hk=>by
  simp only [jjy];refine hk cs λw O m vals cells h1 h2 _=> ?_;have hv:vals = []:=by simpa using h2.symm
  subst hv;exact ⟨cells,rfl,h1⟩
 | (q,v)::ps,cs,hk=>by
  simp only [jjy];cases hf:zC C s q with
  | none=>trivial
  | some x=>
   obtain ⟨off,j⟩:=x;simp only;refine Yu λds h1 h2 h3=> ?_;split
   ·rename_i hl;simp only [jy,jdt] at hl;have hl1:=zw hl.1;refine jlB hD ps (over cs off ds) λcs' hcs=>hk cs' λw O m vals cells g1 g2 g3=> ?_;cases vals with
    | nil=>simp at g2
    | cons y vals=>
     obtain ⟨q',u⟩:=y;simp only [zf,Qd] at g2;obtain ⟨rfl,g2⟩:=g2;simp only [zf,jx,Qd] at g3;obtain ⟨u',rr,⟨rfl,rfl⟩,g4,g5⟩:=g3;obtain ⟨k1,k2⟩:=h1 w O m u g4;have l1:=yf k1;have l2:=yf g1;simp only [jao] at l1 l2;simp only [Instr.fill,hf,JS];rw [jf (by simp;omega)];have hz:(u.cells.zipIdx.foldl (λ(cs:Array Value) (p:Value × Nat)=>cs.setIfInBounds (off+p.2) p.1) cells).toList=over cells.toList off u.cells.toList:=by
      have:=KS (off:=off) u.cells.toList 0 cells (by simp;omega)
      rw [<-Array.foldl_toList,Array.toList_zipIdx];simpa [over] using this
     refine hcs w O m vals (u.cells.zipIdx.foldl (λ(cs:Array Value) (p:Value × Nat)=>cs.setIfInBounds (off+p.2) p.1) cells) ?_ g2 g5;rw [hz];exact jjI g1 k1
   ·trivial
theorem jhD {w:World} {O:Nat->Prop} :∀ {as:List A} {us:List Value},jS w O as us->as.all jI=true->jJ us
 | [],us,h,_=>by simp only [jS] at h;subst h;intro v hv;cases hv
 | a::as,us,h,hk=>by
  simp only [jS,yU,jy] at h hk;obtain ⟨v,t,rfl,e1,e2⟩:=h;intro y hy;rcases jZ.1 hy with rfl|hy
  ·exact je7 e1 hk.1
  ·exact jhD e2 hk.2 y hy
theorem run_buildSlice (hD:J7 P C.D) {t:TypeId} {n:Nat} {ps:Array (Nat × Operand)} {ev:Operand->Value} (ho:o.op = .buildSlice t n ps) {e:Nat} (ht:P.underlying t=some (.slice e)) {i:TI} (hi:C.D e=some i) (hpos:0 < i.size) (hn:0 < n) (hb:n * i.size<=16777216)
  {cells':Array Value} (hf:Instr.fill (λq=>some (q * i.size,i.size)) ((Array.range (n * i.size)).map (λq=>i.zero.cells[q % i.zero.cells.size]!)) (ps.toList.map λp=>(p.1,ev p.2))=some cells') (w:World) :
  (execOp ev o).run P w = .ok (.value (.slice (some ⟨w.heap.size,0,none⟩) n n)) (w.alloc (.cells cells' e)):=by
 have hok:=hD e i hi;have hnb:¬(n * i.size > 2 ^ 24):=by omega
 have h0:¬n * i.size=0:=by
  have:=Nat.mul_pos hn hpos;omega
 have hparts:(ps.map λ(p:Nat × Operand)=>(p.1,ev p.2)).toList=ps.toList.map λp=>(p.1,ev p.2):=by simp
 have hrun:(Instr.buildSlice t n (ps.map λ(p:Nat × Operand)=>(p.1,ev p.2))).run P w = .ok (.slice (some ⟨w.heap.size,0,none⟩) n n) (w.alloc (.cells cells' e)):=by
  simp only [Instr.buildSlice,yz,zP ht,ym,hok.run_sizeOf w,jf hnb,jf h0,hok.run_zero w,hparts,yG,hf,newRow,run_newObj_alloc]
 simp only [execOp,ho];show ((do pure (.value (<-Instr.buildSlice t n (ps.map λ(p:Nat × Operand)=>(p.1,ev p.2)))):Sem Next)).run P w=_;simp only [yz,hrun,ym,yG]
theorem jhj (hD:J7 P C.D) {t:TypeId} {ps:Array (Nat × Operand)} {ev:Operand->Value} (ho:o.op = .buildSlice t 0 ps) (hps:ps = #[]) {e:Nat} (ht:P.underlying t=some (.slice e)) {i:TI} (hi:C.D e=some i) (w:World) :
  (execOp ev o).run P w = .ok (.value (.slice (some ⟨w.heap.size,0,none⟩) 0 0)) (w.alloc (.cells #[] e)):=by
 subst hps;have hok:=hD e i hi;have hrun:(Instr.buildSlice t 0 #[]).run P w = .ok (.slice (some ⟨w.heap.size,0,none⟩) 0 0) (w.alloc (.cells #[] e)):=by
  simp [Instr.buildSlice,zP ht,hok.run_sizeOf w,Instr.fill,newRow,Array.range_zero']
 simp only [execOp,ho];have e0:(#[]:Array (Nat × Operand)).map (λx=>(x.1,ev x.2)) = #[]:=by simp
 rw [e0];simp only [yz,hrun,ym,yG]
theorem jme {w:World} {O:Nat->Prop} {i:TI} {z:List A} (hz:jS w O z i.zero.cells.toList) (hsz:i.zero.cells.size=i.size) (hpos:0 < i.size):∀n,jS w O (List.replicate n z).flatten ((Array.range (n * i.size)).map (λq=>i.zero.cells[q % i.zero.cells.size]!)).toList:=by
 intro n;have key:((Array.range (n * i.size)).map (λq=>i.zero.cells[q % i.zero.cells.size]!)).toList=(List.replicate n i.zero.cells.toList).flatten:=by
  apply jbh;intro q;simp only [jkn,jrQ,Jv];by_cases hq:q < n * i.size
  ·rw [jfs hq];have hzl:i.zero.cells.toList.length=i.size:=by simpa using hsz
   have h1:(List.replicate n i.zero.cells.toList).flatten[q]? = i.zero.cells.toList[q % i.size]? :=by
    clear hz;induction n generalizing q with
    | zero=>simp at hq
    | succ n ih=>
     rw [jcB,J6];by_cases hq2:q < i.size
     ·rw [K7 (by omega),Nat.mod_eq_of_lt hq2]
     ·have hq3:q - i.size < n * i.size:=by
       rw [yF,Nat.one_mul] at hq;omega
      have hm2:=Nat.mod_eq_sub_mod (a:=q) (b:=i.size) (by omega);rw [Qe (by omega),hzl,ih (q - i.size) hq3,<-hm2]
   have hm:q % i.size < i.zero.cells.size:=by rw [hsz];exact Nat.mod_lt _ hpos
   rw [h1,hsz];simp only [JS];rw [jcC i.zero.cells (q % i.size) hm];simp [jft,jcD hm]
  ·rw [y9 (by simp;omega),y9 (by simp [jor,hsz];omega)]
   rfl
 rw [key];induction n with
 | zero=>simp [jS]
 | succ n ih=>simp only [jcB,J6];exact yu hz (ih (by
   apply jbh;intro q;simp only [jkn,jrQ,Jv];by_cases hq:q < n * i.size
   ·have:=congrArg (λl=>l[q]?) key;simp only [jkn,jrQ,Jv] at this;rw [jfs (by rw [yF];omega)] at this;rw [jfs hq,this];have e:(List.replicate (n+1) i.zero.cells.toList).flatten=(List.replicate n i.zero.cells.toList).flatten++i.zero.cells.toList:=by
     rw [List.replicate_succ',List.flatten_append];simp
    rw [e,K7 (by simp [jor,hsz];omega)]
   ·rw [y9 (by simp;omega),y9 (by simp [jor,hsz];omega)]
    rfl))
end
end
noncomputable section
section
variable {X:Ctx} {o:Oper} {ρ:Operand->V} {C:Cfg} {M:Node->Option Out} {st:jB}
theorem jhI {P:Program} {k:Nat} {v:V} {kk:List (List A)->List Rd->LX}
  (h:∀ys r,(∀x∈r,yV st x)->(∀(w:World) (O0:Nat->Prop) (m:zV) (st':jB) (u:Value),Sto X w O0 m st'->(∀x∈r,yV st' x)->relV w (Ow O0 m st') m v u->jdd w (Ow O0 m st') k ys u)->yY P X M o ρ st (kk ys r)) :
  yY P X M o ρ st (jxd st k v kk):=by
 unfold jxd;split
 ·refine h [] [] (by simp) λw O0 m st' u hs _ hr=> ?_;simp only [relV] at hr;exact jD7 hr
 ·rename_i a;intro ys hys;unfold jjw at hys;split at hys
  ·split at hys
   ·rename_i hk;subst hk;cases hys;refine h _ [] (by simp) λw O0 m st' u hs _ hr=> ?_;simp only [relV] at hr;exact jrh hr
   ·cases hys
  ·cases hys
 ·rename_i id;split
  ·rename_i k' ys hst;split
   ·rename_i hk;have hk:=zw hk;subst hk;refine h ys _ (by simpa [yV] using hst) λw O0 m st' u hs hg hr=> ?_;obtain ⟨hd,q1,q2,q3⟩:=jjN hs (hg _ (ku.2 rfl)) hr;exact jD8 q3 q2
   ·trivial
  ·rename_i k' ys hst;split
   ·rename_i hk;have hk:=zw hk;subst hk;refine h ys _ (by simpa [yV] using hst) λw O0 m st' u hs hg hr=> ?_;exact jrh (ZG hs (hg _ (ku.2 rfl)) hr)
   ·trivial
  ·trivial
 ·split
  ·rename_i p hp;split
   ·rename_i hk;have hk:=zw hk;subst hk;have hok:=K0 (X:=X) hp;refine h _ _ (by simpa [yV] using hok.1) λw O0 m st' u hs hg hr=> ?_;have hid:st' p.id = .row p.k p.xs:=hg _ (ku.2 rfl);obtain ⟨hd,xs',e1,e2,e3,e4,e5⟩:=hok.2 w O0 m st' u hs ⟨p.xs,hid,rfl⟩ hr;rw [hid] at e2;cases e2;exact jD9 e5 e4
   ·trivial
  ·trivial
 ·trivial
theorem jvO {P:Program} {t:TypeId} {x:Operand} {lo hi:Option Operand} (ho:o.op = .slice t x lo hi none) {e:Nat} (ht:P.underlying t=some (.slice e)) {i:TI} (hi':TI.ok P e i)
  {alo ahi:Option A} (hlo:∀y,lo=some y-> ∃a,alo=some a/\dat (ρ y)=some a) (hlo0:lo=none->alo=none) (hhi:∀y,hi=some y-> ∃a,ahi=some a/\dat (ρ y)=some a) (hhi0:hi=none->ahi=none) :
  yY P X M o ρ st (jEn st i.size (ρ x) alo ahi):=by
 unfold jEn;split
 ·rename_i p hp;split
  ·rename_i hk;have hk:=zw hk;intro h' hh' l' hl';rw [jAJ] at hl';exact ⟨zB.winSlice ho ht hi' hp hk hlo hlo0 hhi hhi0 hh' hl',by simpa [yV] using ⟨_,(K0 (X:=X) hp).1,rfl⟩⟩
  ·trivial
 ·trivial
theorem jgT {id:Nat} :∀ {ws:List Wr},jnP id ws=true-> ∀k xs,Wr.obj id (.fro k xs) ∉ ws
 | [],_,_,_,h=>by cases h
 | w::ws,hn,k,xs,h=>by
  simp only [jnP,jy,jan] at hn;rcases jZ.1 h with rfl|h
  ·simp [Wr.id] at hn
  ·exact jgT hn.2 k xs h
theorem jeQ {n:Nat} :∀ {ps:List (Nat × List A)},jeP n ps=true-> ∀p∈ps,p.1 < n
 | [],_,_,h=>by cases h
 | (q,ds)::ps,hn,p,h=>by
  simp only [jeP,jy,jcy] at hn;rcases jZ.1 h with rfl|h
  ·exact hn.1
  ·exact jeQ hn.2 p h
theorem jf5 {n b:Nat} (h:jA n b=true):n * b<=140737488355328/\n<=9223372036854775807:=by
 unfold jA at h;simpa using h
theorem zB.buildSlice (hD:J7 C.P C.D) {t:TypeId} {n:Nat} {ps:Array (Nat × Operand)} (ho:o.op = .buildSlice t n ps) {e:Nat} (ht:C.P.underlying t=some (.slice e)) {i:TI} (hi:C.D e=some i) (hpos:0 < i.size) (hn:0 < n) (hb:n * i.size<=16777216)
  {z:List A} (hz:jc5 (zeroV C e i)=some z) (hzo:z.all jI=true) {parts:List (Nat × List A)} {r:List Rd} {ws:List Wr} {st0:jB} (hp:jm8 (ps.toList.map λp=>(p.1,ρ p.2)) st0 i parts r ws) (hr:jeP n parts=true) {nid:Nat} :
  zB C.P X o ρ ⟨.row nid,.fresh nid::r,ws++[.obj nid (.row i.size (setRows (List.replicate n z) parts))]⟩:=by
 intro w O0 m st ev hs hg hrel _hc;obtain ⟨d1,d2,d3,d4⟩:=hp;have hgr:∀x∈r,yV st x:=λx hx=>hg x (by simp [hx]);have hab:=d4 st hgr;obtain ⟨a1,a2,a3,a4,a5⟩:=jvx ws st hs hab;have hfr:st nid = .dead:=hg (.fresh nid) (by simp);have hfr':zi st ws nid = .dead:=by
  rw [a5 nid λk xs h=> ?_]
  ·exact hfr
  ·obtain ⟨id,k',xs',e1,e2⟩:=hab _ h;cases e1;rw [hfr] at e2;rcases e2 with e2|e2<;>cases e2
 have hkeep:∀id k xs,st id = .fro k xs->zi st ws id = .fro k xs:=by
  intro id k xs h;by_cases hin:∃k' xs',Wr.obj id (.fro k' xs')∈ws
  ·obtain ⟨k',xs',hin⟩:=hin;rw [a4 id k' xs' hin];obtain ⟨id2,k2,xs2,e1,e2⟩:=hab _ hin;cases e1;rw [h] at e2;rcases e2 with e2|e2<;>cases e2<;>rfl
  ·rw [a5 id λk' xs' h'=>hin ⟨k',xs',h'⟩,h]
 have hok:=hD e i hi;have hzr:jS w (Ow O0 m (zi st ws)) z i.zero.cells.toList:=J0 (m:=m) hz (Ji e i);have hlen:ps.toList.length=parts.length:=by simpa using congrArg List.length d1
 have hfill:=jk5 (w:=w) (O:=Ow O0 m (zi st ws)) (k:=i.size) parts (ps.toList.map λp=>(p.1,ev p.2)) (List.replicate n z) ((Array.range (n * i.size)).map (λq=>i.zero.cells[q % i.zero.cells.size]!))
  (by rw [<-d1,qa,qa];rfl)
  (λq p v hq hv=>by
   have hv':∃pp,ps.toList[q]? = some pp/\v=(pp.1,ev pp.2):=by
    rw [Jv,yB] at hv;obtain ⟨pp,h1,h2⟩:=hv;exact ⟨pp,h1,h2.symm⟩
   obtain ⟨pp,hpp,rfl⟩:=hv';obtain ⟨vs,r',ws',e1,e2,e3,e4,e5,e6⟩:=d3 q (pp.1,ρ pp.2) p (by rw [Jv,hpp];rfl) hq;have hmem:pp.2∈o.op.operands:=by
    rw [ho];simp only [Op.operands];have:=Yd hpp;simpa using ⟨pp.1,by simpa using this⟩
   obtain ⟨k1,k2⟩:=e1 _ _ _ _ (hrel _ hmem);have k3:=YB (st0:=st0) (st:=st) (st1:=zi st ws) a1 a3 e3 (λx hx=>hgr x (e4 x hx)) (λid k xs hm=>a4 id k xs (e5 _ hm)) hkeep k1;exact ⟨e6,by have:=jeQ hr p (Yd hq);simpa using this,k3,k2⟩)
  (λx hx=>by rw [(joA.1 hx).2,<-kC hzr];simpa using hok.zsize)
  (jme hzr hok.zsize hpos n)
  (by
   have h1:=jme hzr hok.zsize hpos n;refine jhD h1 ?_;rw [qn];intro x hx;obtain ⟨y,hy,hxy⟩:=jox.1 hx;rw [(joA.1 hy).2] at hxy;exact qn.1 hzo x hxy)
 obtain ⟨cells',f1,f2,f3,f4,f5⟩:=hfill;rw [run_buildSlice hD ho ht hi hpos hn hb f1 w];have hn63:n<=16777216:=K2 (Nat.le_mul_of_pos_right n hpos) hb;have hcs:cells'.toList.length=n * i.size:=by
  rw [kC f2,qA f4,f5];simp
 have hl:(setRows (List.replicate n z) parts).length=n:=by rw [f5];simp
 have htk:cells'.toList.take (n * i.size)=cells'.toList:=Zd (by omega);refine Qf.after (X:=X) a2 (JK a1 (Kz w _) hfr' (hd:= .blk w.heap.size n n) rfl (Or.inr ⟨n,cells',e,by rw [hl],by rw [JN];omega,by rw [hl];exact kz _,by omega,f4,heap_alloc_new w _,?_,?_,?_⟩))
 ·simpa using hcs
 ·rw [hl,htk];exact f3
 ·rw [hl,htk];exact f2
theorem jim {P:Program} {o':Out} :∀(n i:Nat) (k:List A->LX),(∀as,as.length=n->(∀j a,as[j]? = some a->hD o' (i+j)=some a)->yY P X M o ρ st (k as))->yY P X M o ρ st (juB o' n i k)
 | 0,i,k,h=>h [] rfl (by simp)
 | n+1,i,k,h=>by
  intro a ha;refine jim n (i+1) _ λas hl has=>h (a::as) (by simp [hl]) λj b hb=> ?_;cases j with
  | zero=>simp at hb;subst hb;exact ha
  | succ j=>have:=has j b (by simpa using hb);rwa [show i+1+j=i+(j+1) by omega] at this
theorem jin {P:Program} {o':Out} :∀(ks:List Nat) (i:Nat) (k:List (List (List A))->LX),(∀rs,rs.length=ks.length->(∀(j:Nat) (r:List (List A)) (w:Nat),rs[j]? = some r->ks[j]? = some w->hR w o' (i+j)=some r)->yY P X M o ρ st (k rs))->yY P X M o ρ st (juC o' ks i k)
 | [],i,k,h=>h [] rfl (by simp)
 | w::ks,i,k,h=>by
  intro a ha;refine jin ks (i+1) _ λas hl has=>h (a::as) (by simp [hl]) λj b v hb hv=> ?_;cases j with
  | zero=>simp at hb hv;subst hb hv;exact ha
  | succ j=>have:=has j b v (by simpa using hb) (by simpa using hv);rwa [show i+1+j=i+(j+1) by omega] at this
theorem jdz {n:Nat} {sg:SigA} :∀ {l:Sig},ja6 n l=some sg->sg.ws.length=n
 | [],h=>by cases h
 | s::l,h=>by
  simp only [ja6] at h;split at h
  ·rename_i hb;cases h;exact zw hb
  ·exact jdz h
theorem jxf (hS:StM X C M) {nid:Nat} {f:Operand} {xs:Array Operand} {ts:Array TypeId} (ho:o.op = .call { callee:= .value f,args:=xs,argTypes:=ts }) {g:FuncId} {caps:List V} (hf:ρ f = .fn g caps) {sgs:Sig} (hsig:C.sig g=some sgs) :
    yY C.P X M o ρ st (jtF (C.kn g) st nid g sgs (Yj C.D ts.toList (xs.toList.map ρ)++caps)):=by
  have mf:f∈o.op.operands:=by simp [ho,Op.operands,Call.operands]
  have mx:∀x∈xs.toList,x∈o.op.operands:=λx hx=>by simp [ho,Op.operands,Call.operands];exact Or.inr (by simpa using hx)
  unfold jtF;split;rotate_left
  · trivial
  rename_i ids vs2 objs p hprep;split;rotate_left
  · trivial
  rename_i sg halt;split;rotate_left
  · trivial
  rename_i hc;simp only [jy] at hc;intro out hout;have hp:=hS g vs2 objs sgs sg out hsig halt hout;refine jim _ _ _ λas la da=>jin _ _ _ λrs lr dr=> ?_;have main:yY C.P X M o ρ st (joe (ZH (jpf sg.ks as)) sg st nid ids p as rs):=by
   refine ⟨zB.stcall ho hp hprep hc.1 (jdz halt) (λw O0 m st' ev hs hr=> ?_) ⟨la,λi a h=>by simpa using da i a h,lr,λj r k h1 h2=>dr j r k h1 h2⟩,?_⟩
   · have hf':=hr f mf
     rw [hf] at hf';simp only [relV] at hf';obtain ⟨us,g1,g2⟩:=hf';have g3:=Kl (w:=w) (O:=Ow O0 m st') (m:=m) (ρ:=ρ) (ev:=ev) xs.toList λx hx=>hr x (mx x hx);exact ⟨us,g1,qD (Kw g3) g2⟩
   · intro r hr
     rcases List.mem_append.mp hr with hr|hr
     · exact jdD r hr
     · refine jiA (λid hid=> ?_) r hr
       have:=List.all_eq_true.mp hc.2 id hid;cases hst:st id<;>rw [hst] at this<;>first|rfl|cases this
  unfold jFr;unfold jpf at main;split
  · rename_i hci
    rw [hci] at main;exact main
  · rename_i i hci
    rw [hci] at main;have key:∀b,JB (as.getD i .top)=some b->ZH (as.getD i .top)=b:=λb hb=>by
      unfold JB at hb;split at hb
      · rename_i e;cases hb;rw [e];rfl
      · cases hb
    exact ⟨λh=>by have:=key _ h;simp only [this] at main;exact main,λh=>by have:=key _ h;simp only [this] at main;exact main⟩
theorem jvQ:∀ {l:List Nat} {os:List Abs.Obj} {x:Wr},x∈jgi l os->x.id∈l
 | [],_,x,h=>by simp only [jgi,qK] at h
 | _::_,[],x,h=>by simp only [jgi,qK] at h
 | id::l,o::os,x,h=>by
  simp only [jgi,jZ] at h;rcases h with rfl|h
  ·exact K1 ..
  ·exact JR _ (jvQ h)
theorem jyd {k:LX} (xs ys:List V) (h:xs=ys->yY C.P X M o ρ st k):yY C.P X M o ρ st (jpa xs ys k):=by
 induction xs generalizing ys with
 | nil=>
  cases ys with
  | nil=>exact h rfl
  | cons y ys=>unfold jpa;exact trivial
 | cons x xs ih=>
  unfold jpa;split
  ·rename_i h1;cases h1
  ·rename_i a xs' b ys' h1;cases h1;exact λhe=>ih _ λe=>h (by rw [@jg9 _ (Classical.propDecidable _) he,e])
  ·trivial
theorem jCf {k:LX} :∀ {W:List Wr},((∀st',(∀x∈W,st' x.id=st x.id)->zi st' W=st')->yY C.P X M o ρ st k)->yY C.P X M o ρ st (jCe st W k):=by
 intro W h;induction W with
 | nil=>exact h λ_ _=>rfl
 | cons x W ih=>
  unfold jCe;split
  ·rename_i h1;cases h1
  ·rename_i i ys ws h1;cases h1;split
   ·rename_i xs hst;refine jyd _ _ λe=>ih λh2=>h λst' h3=> ?_;have h4:app st' (.obj i (.box ys))=st':=by
     funext j;have h5:=h3 _ (K1 ..);simp only [Wr.id] at h5;simp only [app,upd,Wr.id,Wr.on];cases hj:Nat.beq j i with
     | false=>rfl
     | true=>rw [zw hj,h5,hst,e];rfl
    show zi (app st' (.obj i (.box ys))) W=st';rw [h4];exact h2 st' λx hx=>h3 x (JR _ hx)
   ·trivial
  ·trivial
theorem zB.look {P:Program} {v:V} {rds:List Rd} {W:List Wr} (h:zB P X o ρ ⟨v,rds,W⟩) (h2:∀st,(∀r∈rds,yV st r)->zi st W=st):zB P X o ρ ⟨v,rds,[]⟩:=by
 intro w O0 m st ev hs hg hr hc;have e:=h2 st hg;have hP:Qf X w O0 m st [] v=Qf X w O0 m st W v:=by
  funext a b;unfold Qf;rw [e];rfl
 show Upon P (Qf X w O0 m st [] v) w _;rw [hP];exact h w O0 m st ev hs hg hr hc
theorem jqb (hS:StM X C M) {nid:Nat} {f:Operand} {xs:Array Operand} {ts:Array TypeId} (ho:o.op = .call { callee:= .value f,args:=xs,argTypes:=ts }) {g:FuncId} {caps:List V} (hf:ρ f = .fn g caps) {sgs:Sig} (hsig:C.sig g=some sgs) :
  yY C.P X M o ρ st (ji2 (C.kn g) st nid g sgs (Yj C.D ts.toList (xs.toList.map ρ)++caps)):=by
 have mf:f∈o.op.operands:=by simp [ho,Op.operands,Call.operands]
 have mx:∀x∈xs.toList,x∈o.op.operands:=λx hx=>by simp [ho,Op.operands,Call.operands];exact Or.inr (by simpa using hx)
 unfold ji2;split;rotate_left
 ·trivial
 rename_i ids vs2 objs p hprep;split;rotate_left
 ·trivial
 rename_i sg halt;split;rotate_left
 ·trivial
 rename_i hc;simp only [jy] at hc;intro out hout;have hp:=hS g vs2 objs sgs sg out hsig halt hout;refine jim _ _ _ λas la da=>jin _ _ _ λrs lr dr=>jCf λhw=> ?_;have hdead:∀id∈ups nid (p+sg.nw.length),st id = .dead:=λid hid=>by
  have:=List.all_eq_true.mp hc.2 id hid;cases hst:st id<;>rw [hst] at this<;>first|rfl|cases this
 refine ⟨zB.look (zB.stcall ho hp hprep hc.1 (jdz halt) (λw O0 m st' ev hs hr=> ?_) ⟨la,λi a h=>by simpa using da i a h,lr,λj r k h1 h2=>dr j r k h1 h2⟩) (λst' hg=>hw st' λx hx=> ?_),?_⟩
 ·have hf':=hr f mf;rw [hf] at hf';simp only [relV] at hf';obtain ⟨us,g1,g2⟩:=hf';have g3:=Kl (w:=w) (O:=Ow O0 m st') (m:=m) (ρ:=ρ) (ev:=ev) xs.toList λx hx=>hr x (mx x hx);exact ⟨us,g1,qD (Kw g3) g2⟩
 ·have hx:=jvQ hx;rcases List.mem_append.mp hx with hx|hx
  ·exact jfU (st0:=st) (st:=st') (l:=ids) (λr hr=>hg r (JA _ hr)) _ hx
  ·rw [jfT (st:=st') (l:=ups nid (p+sg.nw.length)) (λr hr=>hg r (Kg _ hr)) _ hx,hdead _ hx]
 ·intro r hr;rcases List.mem_append.mp hr with hr|hr
  ·exact jdD r hr
  ·exact jiA hdead r hr
theorem jwY {th:Bool} (hS:StM X C M) {nid:Nat} {f:Operand} {xs:Array Operand} {ts:Array TypeId} (ho:o.op = .call { callee:= .value f,args:=xs,argTypes:=ts }) {g:FuncId} {caps:List V} (hf:ρ f = .fn g caps) {sgs:Sig} (hsig:C.sig g=some sgs) :
  yY C.P X M o ρ st (jAX th st nid g sgs (Yj C.D ts.toList (xs.toList.map ρ)++caps)):=by
 exact trivial
theorem jrv {t:TypeId} {a x:Operand} (ho:o.op = .store t a x) {i:TI} (hi:TI.ok C.P t i) {id ii k j:Nat} {f:Bool} (ha:ρ a = .rptr id ii k j) {xs:List (List A)} (hst:st id = .tre f k xs) {vs:List V}
  (hx:∀(w:World) (O:Nat->Prop) (m:zV) (u:Value),relV w O m (ρ x) u->jx w O m vs u.cells.toList) (hl:j+i.size<=k):yY C.P X M o ρ st (jru st id ii k j i.size f xs vs):=by
 exact trivial
theorem jtK {nid:Nat} {t:TypeId} {x:Operand} (ho:o.op = .load t x) {i:TI} (hi:TI.ok C.P t i):yY C.P X M o ρ st (jvF C.D nid st i (ρ x)):=by
 exact trivial
theorem jtI (hS:StM X C M) {f:Operand} {xs:Array Operand} {ts:Array TypeId} (ho:o.op = .call { callee:= .value f,args:=xs,argTypes:=ts }) {g:FuncId} {caps:List V} (hf:ρ f = .fn g caps) {sgs:Sig} (hsig:C.sig g=some sgs) (p:List V × (Nat × Nat × Nat × Nat)) (hp0:jBv (Yj C.D ts.toList (xs.toList.map ρ)++caps)=some p) :
  yY C.P X M o ρ st (jvC st g sgs p):=by
 exact trivial
theorem jps (hS:StM X C M) {f:Operand} {xs:Array Operand} {ts:Array TypeId} (ho:o.op = .call { callee:= .value f,args:=xs,argTypes:=ts }) {g:FuncId} {caps:List V} (hf:ρ f = .fn g caps) {sgs:Sig} (hsig:C.sig g=some sgs) (q:List V × Nat × Nat × List (List A)) (hp0:juR st sgs (Yj C.D ts.toList (xs.toList.map ρ)++caps)=some q) :
  yY C.P X M o ρ st (jpr g sgs q):=by
 exact trivial
theorem jq8 (hM:QU X C M) {f:Operand} {xs:Array Operand} {ts:Array TypeId} (ho:o.op = .call { callee:= .value f,args:=xs,argTypes:=ts }) {g:FuncId} {caps:List V} (hf:ρ f = .fn g caps) :
  yY C.P X M o ρ st (jjS C st g (Yj C.D ts.toList (xs.toList.map ρ)++caps)):=by
 have mf:f∈o.op.operands:=by simp [ho,Op.operands,Call.operands]
 have mx:∀x∈xs.toList,x∈o.op.operands:=λx hx=>by simp [ho,Op.operands,Call.operands];exact Or.inr (by simpa using hx)
 unfold jjS;split
 ·rename_i as p hseal;split
  ·rename_i hpure;intro out hout x hx;refine ⟨zB.sealmap ho hseal (hM g as out hpure hout) hx (λw O0 m st' ev hs hr=> ?_),jlQ hseal⟩;have hf':=hr f mf;rw [hf] at hf';simp only [relV] at hf';obtain ⟨us,g1,g2⟩:=hf';have g3:=Kl (w:=w) (O:=Ow O0 m st') (m:=m) (ρ:=ρ) (ev:=ev) xs.toList λx hx=>hr x (mx x hx);exact ⟨us,g1,qD (Kw g3) g2⟩
  ·trivial
 rename_i hnone;clear hnone;split
 ·rename_i v hv;split
  ·rename_i a r ws hseal;split
   ·rename_i hpure;intro out hout x hx;refine ⟨zB.sealcall ho hseal (hM g [a] out hpure hout) hx (λw O0 m st' ev hs hr=> ?_),jw7 hseal⟩;have hf':=hr f mf;rw [hf] at hf';simp only [relV] at hf';obtain ⟨us,g1,g2⟩:=hf';have g3:=Kl (w:=w) (O:=Ow O0 m st') (m:=m) (ρ:=ρ) (ev:=ev) xs.toList λx hx=>hr x (mx x hx);refine ⟨us,g1,?_⟩;rw [<-hv];exact qD (Kw g3) g2
   ·trivial
  ·trivial
 ·trivial
theorem jpG (hD:J7 C.P C.D) {t:Nat} (h:jsP C t=true):∃k,C.P.underlying t=some (.int k):=by
 unfold jsP at h;split at h
 ·rename_i i hi;split at h
  ·rename_i k hk;exact ⟨k,kq hD hi hk⟩
  ·cases h
 ·cases h
theorem jv8 (hD:J7 C.P C.D) (hM:QU X C M) (hS:StM X C M) (nid:Nat) (hnid:st nid = .dead):yY C.P X M o ρ st (evL C o ρ st nid):=by
 have hfresh:∀x ∈ [Rd.fresh nid],yV st x:=by simpa [yV] using hnid
 unfold evL;split
 ·rename_i t x ho;split
  ·rename_i i hi;split
   ·refine Yu λds h1 h2 h3=>⟨zB.box ho (λw O m u hu=>qY hu) h1,hfresh⟩
   ·trivial
  ·trivial
 ·rename_i t ho;split
  ·rename_i i hi;refine ZL λh1 h2=>⟨zB.alloc ho (hD _ _ hi) (λw O m=>Ji t i) ?_,hfresh⟩;exact jaS (w:=default) (O:=λ_=>False) (m:=λ_=>none) (Ji t i) h1 h2
  ·trivial
 ·rename_i t ho;exact ⟨zB.makeMap ho,hfresh⟩
 ·rename_i t x k y ho;split
  ·rename_i ti ka ht hka;split
   ·rename_i kt et hk;split
    ·rename_i ki hki;split
     ·rename_i ks id va hks hx hva;split
      ·rename_i xs hst;intro ys hys;exact ⟨zB.mapUpdate ho (kq hD ht hk) (jle hks (hD _ _ hki).desc) hx hka (λw O m u hu=>je6 hva (qY hu)) hys,by simpa [yV] using hst⟩
      ·trivial
     ·trivial
    ·trivial
   ·trivial
  ·trivial
 ·rename_i t a x ho;split
  ·rename_i i hi;split
   ·split
    ·rename_i id off ha;split
     ·rename_i cs hst;refine Yu λds h1 h2 h3=> ?_;split
      ·rename_i hl;simp only [jy,jdt] at hl;have hl1:=zw hl.1;exact ⟨zB.storeBox ho (hD _ _ hi) ha (λw O m u hu=>h1 w O m u (qY hu)) hl1 (by omega),by simpa [yV] using ⟨cs,hst,rfl⟩⟩
      ·trivial
     ·trivial
    ·rename_i id ii k j ha;split
     ·rename_i k' xs hst;split
      ·rename_i hk;simp only [jy,jdt] at hk;have hk1:=zw hk.1;subst hk1;refine Yu λvs h1 h2 h3=> ?_;cases hs:JM st vs with
       | none=>trivial
       | some y=>
        obtain ⟨ds,r,ws⟩:=y;simp only;split
        ·rename_i hl;simp only [jy] at hl;have hl1:=zw hl.1;intro cs hcs;refine ⟨zB.storeRow ho (hD _ _ hi) ha (λw O m u hu=>(h1 w O m u (qY hu)).1) hs (jcY hs h2).1 hl1 (by omega) (jgT hl.2),λx hx=> ?_⟩;rcases jZ.1 hx with rfl|hx
         ·exact ⟨xs,hst,hcs⟩
         ·exact Zz hs x hx
        ·trivial
      ·trivial
     ·rename_i f k' xs hst;split
      ·rename_i hk;simp only [jy,jdt] at hk;have hk1:=zw hk.1;subst hk1;exact Yu λvs h1 h2 h3=>jrv ho (hD _ _ hi) ha hst (λw O m u hu=>(h1 w O m u (qY hu)).1) hk.2
      ·trivial
     ·trivial
    ·trivial
   ·trivial
  ·trivial
 ·rename_i t x ho;split
  ·rename_i i hi;exact jtK ho (hD _ _ hi)
  ·trivial
 ·rename_i op t x y u ho;split
  ·rename_i hc;rw [jy] at hc;split
   ·rename_i ti ht;split
    ·rename_i e hk;have hu:=kq hD ht hk;have gen:∀rds N,(∀(w:World) (O0:Nat->Prop) (m:zV) (st':jB) (v:Value),Sto X w O0 m st'->(∀r∈rds,yV st' r)->relV w (Ow O0 m st') m (ρ x) v-> ∃a n c,v = .slice a n c/\(N≠0->a.isNone=false))->zB C.P X o ρ ⟨.ub N (jpH op),rds,[]⟩:=
      λrds N hv=>zB.nilEq ho hc.2 hc.1 hu hv
     have hsl:∀ {w:World} {O:Nat->Prop} {k:Nat} {xs:List (List A)} {v:Value},rel w O (.sl k xs) v-> ∃a n c,v = .slice a n c/\(yM xs≠0->a.isNone=false):=by
      intro w O k xs v hr;simp only [rel] at hr;obtain ⟨a,c,h,_,_,h4⟩:=hr;refine ⟨a,_,c,h,λh0=> ?_⟩;rcases h4 with rfl|⟨b,off,rfl,_⟩
      ·exact absurd rfl h0
      ·rfl
     unfold jFh;split
     ·rename_i a hx;intro ys hys;refine ⟨gen [] _ λw O0 m st' v _ _ hr=> ?_,by simp⟩;rw [hx] at hr;unfold jAN at hys;split at hys
      ·cases hys;simp only [relV] at hr;exact hsl hr
      ·cases hys
     ·rename_i hx;refine ⟨gen [] 0 λw O0 m st' v _ _ hr=> ?_,by simp⟩;rw [hx] at hr;simp only [relV] at hr;obtain ⟨a,h⟩:=hr;exact ⟨a,_,_,h,λh=>absurd rfl h⟩
     ·rename_i id hx;split
      ·rename_i k xs hst;refine ⟨gen _ _ λw O0 m st' v hs hg hr=> ?_,by simpa [yV] using hst⟩;rw [hx] at hr;obtain ⟨hd,q1,q2,q3⟩:=jjN hs (hg _ (ku.2 rfl)) hr;cases hd with
       | tre=>exact q3.elim
       | mp=>exact q3.elim
       | none=>
        simp only [rowOk] at q3;simp only [hdr] at q2;subst q3;obtain ⟨a,h⟩:=q2;exact ⟨a,_,_,h,λh=>absurd rfl h⟩
       | blk b c n=>
        simp only [hdr] at q2;exact ⟨_,_,_,q2,λ_=>rfl⟩
      ·rename_i k xs hst;refine ⟨gen _ _ λw O0 m st' v hs hg hr=> ?_,by simpa [yV] using hst⟩;rw [hx] at hr;exact hsl (ZG hs (hg _ (ku.2 rfl)) hr)
      ·trivial
     ·trivial
    ·trivial
   ·trivial
  ·trivial
 ·rename_i t x y ho;split
  ·rename_i ti ht;split
   ·rename_i e hk;split
    ·rename_i i a b hi ha hb;split
     ·trivial
     split
     ·rename_i z hz;intro l hl hzo;unfold jjt at hl;split at hl
      ·rename_i kl l' kc c';split at hl
       ·rename_i hc;cases hl;have hxd:ρ x = .d (.val (.int kl l')):=by cases hx:ρ x<;>rw [hx] at ha<;>simp [dat] at ha;rw [ha]
        have hyd:ρ y = .d (.val (.int kc c')):=by cases hy:ρ y<;>rw [hy] at hb<;>simp [dat] at hb;rw [hb]
        simp only [Zw];have hz':∀w O,jS w O z i.zero.cells.toList:=λw O=>J0 (m:=λ_=>none) hz (Ji e i);exact ⟨zB.make ho (kq hD ht hk) (hD _ _ hi) hxd hyd rfl rfl hc.1 hc.2.1 hc.2.2.1 hc.2.2.2 hz' (jhD (hz' default λ_=>False) hzo),hfresh⟩
       ·cases hl
      ·cases hl
     ·trivial
    ·trivial
   ·trivial
  ·trivial
 ·rename_i t n ps ho;split
  ·rename_i ti ht;split
   ·rename_i e hk;split
    ·rename_i i hi;split
     ·rename_i hn;have hn0:=zw hn;subst hn0;split
      ·rename_i hps;have hps':ps = #[]:=by simpa using hps
       refine ⟨λw O0 m st' ev hs hg hr _=> ?_,by simp⟩;rw [jhj hD ho hps' (kq hD ht hk) hi w];have hb:=Kz w (.cells #[] e);exact ⟨m,Chg.below hb,hs.below hb,by simp only [relV];exact ⟨_,rfl⟩⟩
      ·trivial
     ·rename_i hn;split
      ·rename_i hc;simp only [jy,jdt,jcy] at hc;split
       ·rename_i z hz;intro hzo;refine jlA _ [] [] [] [] ⟨rfl,by simp,λn p q hp=>by simp at hp,λst' _ x hx=>by cases hx⟩ λacc r ws hp=> ?_;simp only [Ju] at hp;split
        ·rename_i hr;have hn0:0 < n:=jrN λe0=>hn (by rw [e0];rfl);refine ⟨zB.buildSlice hD ho (kq hD ht hk) hi hc.1.2 hn0 hc.2 hz hzo hp hr,λx hx=> ?_⟩;rcases jZ.1 hx with rfl|hx
         ·exact hnid
         ·exact hp.2.1 x hx
        ·trivial
       ·trivial
      ·trivial
    ·trivial
   ·trivial
  ·trivial
 ·rename_i t x ix ho;split
  ·rename_i ti ht;split
   ·rename_i e hk;split
    ·rename_i i id b hi hx hb;split
     ·rename_i k xs hst;split
      ·rename_i hk';have hk':=zw hk';subst hk';intro n hn;exact ⟨zB.indexRow ho (kq hD ht hk) (hD _ _ hi) hx hb hn,by simp [yV,hst]⟩
      ·trivial
     ·trivial
    ·rename_i i id k off n b hi hx hb;split
     ·rename_i k' xs hst;split
      ·rename_i hkk;simp only [jy] at hkk;have hk1:=zw hkk.1;have hk2:=zw hkk.2;subst hk1;subst hk2;intro j hj;exact ⟨zB.winIndex ho (kq hD ht hk) (hD _ _ hi) hx hb hj,by simp [yV,hst]⟩
      ·trivial
     ·trivial
    ·trivial
   ·trivial
  ·trivial
 ·rename_i t x lo hi ho;split
  ·rename_i ti ht;split
   ·rename_i e hk;split
    ·rename_i i id k off n l h hii hx hl hh;obtain ⟨l1,l2⟩:=Jn hl;obtain ⟨u1,u2⟩:=Jn hh;rw [<-hx];exact jvO ho (kq hD ht hk) (hD _ _ hii) l1 l2 u1 u2
    ·rename_i i k l h hii hx hl hh;obtain ⟨l1,l2⟩:=Jn hl;obtain ⟨u1,u2⟩:=Jn hh;intro h' hh' l' hl';rw [jAJ] at hl';exact ⟨zB.sliceNil ho (kq hD ht hk) (hD _ _ hii) hx l1 l2 u1 u2 hh' hl',by simp⟩
    ·rename_i i id l h hii hx hl hh;split
     ·obtain ⟨l1,l2⟩:=Jn hl;obtain ⟨u1,u2⟩:=Jn hh;rw [<-hx];exact jvO ho (kq hD ht hk) (hD _ _ hii) l1 l2 u1 u2
     split
     ·rename_i k xs hst;split
      ·rename_i hk';have hk':=zw hk';subst hk';obtain ⟨l1,l2⟩:=Jn hl;obtain ⟨u1,u2⟩:=Jn hh;intro r hr;exact ⟨zB.sliceRow ho (kq hD ht hk) (hD _ _ hii) hx l1 l2 u1 u2 hr,by simpa [yV] using hst⟩
      ·trivial
     ·trivial
    ·trivial
   ·trivial
  ·trivial
 ·rename_i t x l h m ho;have m1:x∈o.op.operands:=by simp [ho,Op.operands]
  have m2:l∈o.op.operands:=by simp [ho,Op.operands]
  have m3:h∈o.op.operands:=by simp [ho,Op.operands]
  have m4:m∈o.op.operands:=by simp [ho,Op.operands]
  split
  ·split
   ·rename_i ti ht;split
    ·rename_i e hk;split
     ·rename_i i p l' h' m' hi hp hl hh hm;split
      ·rename_i hkk;intro mm e1 hh' e2 ll e3;exact ⟨zB.win3 ho (kq hD ht hk) (hD _ _ hi) hp hl hh hm e1 e2 e3,by simpa [yV] using ⟨_,(K0 (X:=X) hp).1,rfl⟩⟩
      ·trivial
     ·trivial
    ·trivial
   ·trivial
  split
  ·rename_i ti k1 k2 k3 ht hl hh hm;split
   ·rename_i e hk;split
    ·rename_i i a hi hx;intro ys hys;refine ⟨zB.same λw O0 mm st' ev hs hg hr=> ?_,by simp⟩;have hx':=hr x m1;have e1:=hr l m2;have e2:=hr h m3;have e3:=hr m m4;rw [hx] at hx';rw [hl] at e1;rw [hh] at e2;rw [hm] at e3;simp only [relV,rel] at e1 e2 e3;simp only [relV] at hx';unfold jjw at hys;split at hys
     ·simp only [rel] at hx';obtain ⟨ad,c,hv,_⟩:=hx';exact ⟨_,jjR ho (kq hD ht hk) (hD _ _ hi) hv e1 e2 e3,by simp only [relV];exact ⟨ad,rfl⟩⟩
     ·cases hys
    ·trivial
   ·trivial
  ·trivial
 ·rename_i t ps ho;split
  ·rename_i i hi;split
   ·rename_i fs hk;split
    ·rename_i hfs;refine jlB hD _ _ λcs hcs=>⟨zB.same λw O0 m st' ev hs hg hrel=> ?_,by simp⟩;have h1:jx w (Ow O0 m st') m ((ps.toList.map λp=>(p.1,ρ p.2)).map Prod.snd) ((ps.toList.map λp=>(p.1,ev p.2)).map Prod.snd):=by
      rw [qa,qa];have:=Kl (w:=w) (O:=Ow O0 m st') (m:=m) (ρ:=ρ) (ev:=ev) (ps.toList.map Prod.snd) λx hx=>hrel x (by
       rw [ho];simp only [Op.operands];simpa using hx)
      rw [qa,qa] at this;exact this
     obtain ⟨h2,h3⟩:=jb8 (C:=C) (fs:=fs) h1;obtain ⟨cells',h6,h7⟩:=hcs w (Ow O0 m st') m (ps.toList.map λp=>(p.1,ev p.2)) i.zero.cells (Ji t i) (by rw [h3];simp) h2;refine ⟨_,run_build hD ho hi hk hfs h6 (w:=w),?_⟩;simp only [relV];exact ⟨cells'.toList,by simp,h7⟩
    ·trivial
   ·trivial
  ·trivial
 ·rename_i c ho;obtain ⟨callee,args,ts⟩:=c;dsimp only;split
  ·split
   ·rename_i s x t t' hxs hts;split
    ·rename_i hint;obtain ⟨l,rfl⟩:∃l:List Operand,args=l.toArray:=⟨args.toList,by simp⟩;have hxs:l = [s,x]:=by simpa using hxs
     subst hxs;obtain rfl:ts = #[t,t']:=by apply ZE;simpa using hts
     split
     ·rename_i ti ht;split
      ·rename_i e hk;split
       ·rename_i i hi;split
        ·rename_i k a z hs0 ha hz;intro n hn hfit hzo;unfold jjt at hn;split at hn
         ·rename_i kl l' kc c';split at hn
          ·rename_i hc;cases hn;have hf:=jf5 hfit;simp only [Zw];have hz':∀w O,jS w O z i.zero.cells.toList:=λw O=>J0 (m:=λ_=>none) hz (Ji e i);obtain ⟨kk,hu⟩:=jpG hD hint;exact ⟨zB.appendZ ho rfl rfl (kq hD ht hk) hu (hD _ _ hi) hs0 ha hc.1 hf.1 hf.2 hz' (jhD (hz' default λ_=>False) hzo),hfresh⟩
          ·cases hn
         ·cases hn
        ·trivial
       ·trivial
      ·trivial
     ·trivial
    split
    ·rename_i htt;have htt:=zw htt;subst htt;obtain rfl:ts = #[t,t]:=by apply ZE;simpa using hts
     obtain ⟨l,rfl⟩:∃l:List Operand,args=l.toArray:=⟨args.toList,by simp⟩;have hxs:l = [s,x]:=by simpa using hxs
     subst hxs;split
     ·rename_i ti ht;split
      ·rename_i e hk;split
       ·rename_i i hi;split
        ·rename_i hs0;refine jhI λys r hg hsrc hfit=> ?_;have hf:=jf5 hfit;exact ⟨zB.append0 ho rfl rfl (kq hD ht hk) (hD _ _ hi) hs0 hsrc hf.1 hf.2,λy hy=>by
          rcases jZ.1 hy with rfl|hy
          ·exact hnid
          ·exact hg y hy⟩
        ·rename_i id hs0;split
         ·rename_i k us hst;split
          ·rename_i hc;simp only [jy,jan] at hc;have hk':=zw hc.1;subst hk';have hne:nid≠id:=λe=>by subst e;rw [hnid] at hst;cases hst
           refine jhI λys r hg hsrc hfit=> ?_;have hf:=jf5 hfit;exact ⟨zB.append ho rfl rfl (kq hD ht hk) (hD _ _ hi) hs0 hne hsrc hf.1 hf.2,λy hy=>by
            rcases jZ.1 hy with rfl|hy
            ·exact hnid
            ·rcases jZ.1 hy with rfl|hy
             ·exact hst
             ·exact hg y hy⟩
          ·trivial
         ·trivial
        ·rename_i id k off n hs0;split
         ·rename_i p hp;split
          ·rename_i hkk;have hkk:=zw hkk;have hp':=hp;have hst:=(K0 (X:=X) hp).1;refine jhI λys r hg hsrc hfit=> ?_;have hf:p.off+p.n+ys.length<=p.xs.length:=by simpa [jly] using hfit
           rw [<-hs0] at hp';exact ⟨zB.winAppend ho rfl rfl (kq hD ht hk) (hD _ _ hi) hp' hkk hsrc hf,λy hy=>by
            rcases jZ.1 hy with rfl|hy
            ·exact hst
            ·exact hg y hy⟩
          ·trivial
         ·trivial
        ·trivial
       ·trivial
      ·trivial
     ·trivial
    ·trivial
   ·trivial
  ·split
   ·rename_i x t hxs hts;obtain ⟨l,rfl⟩:∃l:List Operand,args=l.toArray:=⟨args.toList,by simp⟩;have hxs:l = [x]:=by simpa using hxs
    subst hxs;obtain rfl:ts = #[t]:=by apply ZE;simpa using hts
    split
    ·rename_i ti ht;split
     ·rename_i e hk;split
      ·rename_i k hx;refine ⟨zB.data λw O0 m st' ev hs hg hr=> ?_,by simp⟩;have hx':=hr x (by simp [ho,Op.operands,Call.operands]);rw [hx] at hx';simp only [relV] at hx';obtain ⟨a,hv⟩:=hx';refine ⟨.int .i64 0,?_,by simp [rel]⟩;simp [execOp,ho,resolve,invoke,builtin,Builtin.cap_,hv,zP (kq hD ht hk),goInt]
      ·trivial
     ·trivial
    ·trivial
   ·trivial
  ·split
   ·rename_i s x t t' hxs hts;obtain ⟨l,rfl⟩:∃l:List Operand,args=l.toArray:=⟨args.toList,by simp⟩;have hxs:l = [s,x]:=by simpa using hxs
    subst hxs;obtain rfl:ts = #[t,t']:=by apply ZE;simpa using hts
    split
    ·rename_i ti ht;split
     ·rename_i e hk;split
      ·rename_i i p hi hp;split
       ·rename_i hkk;have hkk:=zw hkk;refine jhI λys r hg hsrc=> ?_;exact ⟨zB.winCopy ho rfl rfl (kq hD ht hk) (hD _ _ hi) hp hkk hsrc,λy hy=>by
         rcases jZ.1 hy with rfl|hy
         ·exact (K0 (X:=X) hp).1
         ·exact hg y hy⟩
       ·trivial
      ·trivial
     ·trivial
    ·trivial
   ·trivial
  ·split
   ·rename_i x t hxs hts;obtain ⟨l,rfl⟩:∃l:List Operand,args=l.toArray:=⟨args.toList,by simp⟩;have hxs:l = [x]:=by simpa using hxs
    subst hxs;obtain rfl:ts = #[t]:=by apply ZE;simpa using hts
    split
    ·rename_i ti ht;split
     ·rename_i e hk;split
      ·rename_i i p hi hp;split
       ·rename_i hkk;have hkk:=zw hkk;split
        ·rename_i z hz;intro hzo;exact ⟨zB.winClear ho rfl rfl (kq hD ht hk) (hD _ _ hi) hp hkk (λw O=>J0 (m:=λ_=>none) hz (Ji e i)) hzo,by simpa [yV] using (K0 (X:=X) hp).1⟩
        ·trivial
       ·trivial
      ·trivial
     ·trivial
    ·trivial
   ·trivial
  ·split
   ·rename_i g caps hf;split
    ·rename_i sgs hsig;split
     ·exact jq8 hM ho hf
     split
     ·exact jwY hS ho hf hsig
     ·split
      ·rename_i p hp0;exact jtI hS ho hf hsig p hp0
      ·split
       ·rename_i q hq0;exact jps hS ho hf hsig q hq0
       ·split
        ·exact jqb hS ho hf hsig
        ·exact jxf hS ho hf hsig
    ·trivial
   ·trivial
  ·trivial
 ·trivial
end
end
noncomputable section
def jd7 (P:Program):Nat->List (Option TI)->Prop
 | _,[]=>True
 | n,none::l=>jd7 P (n+1) l
 | n,some i::l=>TI.ok P n i/\jd7 P (n+1) l
theorem jd7.get {P:Program} :∀ {l:List (Option TI)} {n k:Nat} {i:TI},jd7 P n l->l[k]? = some (some i)->TI.ok P (n+k) i
 | [],_,_,_,_,h=>by simp at h
 | none::l,n,k,i,ha,h=>by
  cases k with
  | zero=>simp at h
  | succ k=>have:=jd7.get (l:=l) (n:=n+1) (k:=k) ha (by simpa using h);rwa [show n+1+k=n+(k+1) by omega] at this
 | some j::l,n,k,i,ha,h=>by
  cases k with
  | zero=>simp at h;subst h;exact ha.1
  | succ k=>have:=jd7.get (l:=l) (n:=n+1) (k:=k) ha.2 (by simpa using h);rwa [show n+1+k=n+(k+1) by omega] at this
def tyD (l:List (Option TI)) (t:Nat):Option TI:=l.getD t none
theorem jd7.ok {P:Program} {l:List (Option TI)} (h:jd7 P 0 l):J7 P (tyD l):=by
 intro t i hi;unfold tyD at hi;rw [zY] at hi;have:l[t]? = some (some i):=by
  cases hl:l[t]? with
  | none=>rw [hl] at hi;cases hi
  | some x=>rw [hl] at hi;simp at hi;rw [hi]
 simpa using h.get this
def pG (t:A) (want:Bool) (x:Option A):Option A:=
 match t with
 | .val (.bool b)=>if b=want then x else some (.val undef)
 | .val (.tuple _)=>some (.val undef)
 | _=>none
def Yb (t:A) (want:Bool):Option Bool:=
 match t with
 | .val (.bool b)=>some (decide (b=want))
 | .val (.tuple _)=>some false
 | _=>none
abbrev Log:=List Rd × List Wr
structure GE where
 dst:Nat
 gd:Nat
 want:Bool
 v:V
def jqc (i d:Nat) (w:Bool):List GE->Option V
 | []=>none
 | g::gs=>bif Nat.beq g.dst i && (Nat.beq g.gd d && (g.want == w)) then some g.v else jqc i d w gs
def jlu (gs:List GE) (d:Nat) (w:Bool) (fr:Nat->V):Nat->V:=λi=>match jqc i d w gs with|some v=>v|none=>fr i
def jdh (gs:List GE):Option Tmp->List GE
 | none=>gs
 | some x=>gs.filter λg=> !(Nat.beq g.dst x) && !(Nat.beq g.gd x)
def jFH (gs:List GE) (dst:Option Tmp) (d:Nat) (want:Bool) (v:V):List GE:=
 match dst with
 | none=>gs
 | some x=>bif Nat.beq x d then jdh gs dst else ⟨x,d,want,v⟩::jdh gs dst
section
variable (C:Cfg) (M:Node->Option Out)
def run1 (o:Oper) (n:Nat) (fr:Nat->V) (st:jB) (nid:Nat) (k:V->List Rd->List Wr->Option Out):Option Out:=
 match evD C o (evF n fr) st with
 | .val v rds=>k v rds []
 | .opt x rds=>(x.run C M).bind λa=>k (.d a) rds []
 | .no=>(match st nid with
  | .dead=>(evL C o (evF n fr) st nid).run M k
  | _=>none)
def jyr (ops:Array Oper) (j:Nat):Option Nat:=match ops[j]? with|some o=>o.dst|none=>none
def stepOp (ops:Array Oper) (o:Oper) (n:Nat) (fr:Nat->V) (st:jB) (nid:Nat) (gs:List GE) (k:V->List Rd->List Wr->List GE->Option Out):Option Out:=
 match o.guard with
 | none=>run1 C M o n fr st nid λv rds wrs=>k v rds wrs (jdh gs o.dst)
 | some (j,want)=>(match jyr ops j with
  | some d=>if Nat.blt d n then (match fr d with
   | .d t=>(match evD C o (evF n (jlu gs d want fr)) st with
    | .val (.d a) rds=>(pG t want (some a)).bind λa=>k (.d a) rds [] (jdh gs o.dst)
    | .val v rds=>(Yb t want).bind λ_=>k .top rds [] (jFH gs o.dst d want v)
    | .opt x rds=>(pG t want (x.run C M)).bind λa=>k (.d a) rds [] (jdh gs o.dst)
    | .no=>(Yb t want).bind λb=>brn b (run1 C M o n (jlu gs d want fr) st nid λv rds wrs=>k v rds wrs (jdh gs o.dst)) (k (.d (.val undef)) [] [] (jdh gs o.dst)))
   | _=>none) else none
  | none=>none)
def evOps (ops:Array Oper) (n:Nat):List Oper->Nat->(Nat->V)->jB->List GE->List Log->((Nat->V)->jB->List Log->Option Out)->Option Out
 | [],_,fr,st,_,logs,k=>k fr st logs
 | o::os,nid,fr,st,gs,logs,k=>stepOp C M ops o n fr st nid gs λv rds wrs gs'=>evOps ops n os (nid+8) (Kb fr o.dst v) (zi st wrs) gs' (logs++[(rds,wrs)]) k
end
def cWR:Wr->Rd->Option (List (Nat × Nat))
 | .cell id off _,.cell id' off' _=>if Nat.beq id id' && Nat.beq off off' then none else some []
 | .elem id i _,.elem id' i' _ _=>if Nat.beq id id' then some [(i,i')] else some []
 | .elem id i _,.telem id' _ i' _ _=>if Nat.beq id id' then some [(i,i')] else some []
 | .elem _ _ _,.tlen _ _ _ _=>some []
 | .cell _ _ _,.blen _ _=>some []
 | .elem _ _ _,.len _ _ _=>some []
 | w,r=>if Nat.beq w.id r.id then none else some []
def cWW:Wr->Wr->Option (List (Nat × Nat))
 | .cell id off _,.cell id' off' _=>if Nat.beq id id' && Nat.beq off off' then none else some []
 | .elem id i _,.elem id' i' _=>if Nat.beq id id' then some [(i,i')] else some []
 | w,r=>if Nat.beq w.id r.id then none else some []
def jo9 {α β:Type} (f:α->β->Option (List (Nat × Nat))):List α->List β->Option (List (Nat × Nat))
 | [],_=>some []
 | a::as,bs=>match cOne (f a) bs,jo9 f as bs with
  | some x,some y=>some (x++y)
  | _,_=>none
where cOne (g:β->Option (List (Nat × Nat))):List β->Option (List (Nat × Nat))
 | []=>some []
 | b::bs=>match g b,cOne g bs with
  | some x,some y=>some (x++y)
  | _,_=>none
def jyb (a b:Log):Option (List (Nat × Nat)):=
 match jo9 cWR a.2 b.1,jo9 cWR b.2 a.1,jo9 cWW a.2 b.2 with
 | some x,some y,some z=>some (x++y++z)
 | _,_,_=>none
def jJ9 (o:Oper) (i:Nat):Bool:=o.after.toList.any λe=>Region.binds .any e && Nat.beq e.on i
def jiw (all:List Oper) (i:Nat):Nat->Oper->Bool
 | 0,_=>false
 | d+1,o=>o.after.toList.any λe=>Region.binds .any e && (Nat.beq e.on i || (match all[e.on]? with|some ok=>jiw all i d ok|none=>false))
def jId (all:List Oper) (o:Oper) (i:Nat):Bool:=jiw all i 2 o
def jIc (all:List Oper) (o:Oper) (i:Nat) (x:Option (List (Nat × Nat))):Option (List (Nat × Nat)):=
 match x with
 | some y=>some y
 | none=>if jiw all i 7 o then some [] else none
def jCd (all:List Oper) (o:Oper) (b:Log):Nat->List Log->Option (List (Nat × Nat))
 | _,[]=>some []
 | i,a::as=>match (if jId all o i then some [] else jIc all o i (jyb a b)),jCd all o b (i+1) as with
  | some x,some y=>some (x++y)
  | _,_=>none
def jCc (all:List Oper):List Oper->List Log->List Log->Option (List (Nat × Nat))
 | [],_,_=>some []
 | _::_,_,[]=>none
 | o::os,done,b::bs=>match jCd all o b 0 done,jCc all os (done++[b]) bs with
  | some x,some y=>some (x++y)
  | _,_=>none
def apart (ps:List (Nat × Nat)):Bool:=ps.all λp=>decide (p.1≠p.2)
def jpC (nx:Nat) (logs:List Log):Bool:=logs.all λl=>l.2.all λw=>Nat.blt w.id nx
def jc6:Code->Bool
 | .region _ ops draw=> !draw || Region.lexB .any ops.toList.toArray
 | .seq a b=>jc6 a && jc6 b
 | .cond _ a b=>jc6 a && jc6 b
 | .block _ b=>jc6 b
 | .loop b=>jc6 b
 | _=>true
def jvr (ops:List Oper) (logs:List Log):Bool:=match jCc ops ops [] logs with|some ps=>apart ps|none=>false
def evReg (C:Cfg) (M:Node->Option Out) (ops:List Oper) (draw:Bool) (s:St) (κ:St->Option Out):Option Out:=
 evOps C M ops.toArray s.n ops s.nx s.fr s.st [] [] λfr st logs=>
  brn (jpC (s.nx+8 * ops.length) logs) (brn (!draw || jvr ops logs) (κ ⟨s.n,fr,st,s.nx+8 * ops.length,s.sh⟩) none) none
def jgK (mask:Nat) (fr:Nat->V):Nat->Nat->List V
 | 0,_=>[]
 | n+1,i=>(if Nat.testBit mask i then fr i else .top)::jgK mask fr n (i+1)
def jnN (ids:List Nat):List Nat->Option (List Nat)
 | []=>some []
 | x::l=>(match Qg x ids 0,jnN ids l with|some i,some r=>some (i::r)|_,_=>none)
def jFn (ids:List Nat):Option (List Nat)->Option (Option (List Nat))
 | none=>some none
 | some l=>(match jnN ids l with|some r=>some (some r)|none=>none)
def shL:Option (List Nat)->List Nat
 | none=>[]
 | some l=>l
def again (M:Node->Option Out) (f:FuncId) (p:List Nat) (mask:Nat) (s:St):Option Out:=
 let fr1:=jgK mask s.fr s.n 0
 let ids:=reach s.st 400 (je4 fr1++shL s.sh) []
 if jjf ids then
  match jFn ids s.sh with
  | some sh2=>(match Yc (Z7 ids fr1) ids.length with
   | (fr2,os1)=>match Kj (ids.map λid=>jn3 ids (s.st id)) (ids.length+os1.length) with
    | (ob,os3)=>M (.head f p fr2 (ob++os1++os3) sh2))
  | none=>none
 else none
def St.of (n:Nat) (fr:List V) (objs:List Obj) (sh:Option (List Nat)):St:=⟨n,λi=>fr.getD i .top,λi=>objs.getD i .dead,objs.length,sh⟩
open Classical in
noncomputable def bth (x y:Option Out):Option Out:=if x=y then x else none
theorem jey {x y:Option Out} {r:Out} :bth x y=some r↔x=some r/\y=some r:=by
 unfold bth;split
 ·rename_i h;subst h;simp
 ·rename_i h;constructor
  ·intro h;cases h
  ·rintro ⟨h1,h2⟩;exact absurd (h1.trans h2.symm) h
def nz (n:Nat):Bool:=decide (n=0)
theorem jx5 (x:Option Out):bth x x=x:=jg rfl
inductive Ex where
 | normal
 | exit (id:Nat)
 | ret
section
variable (C:Cfg) (M:Node->Option Out) (f:FuncId)
def evC:Code->List Nat->St->(Ex->St->Option Out)->Option Out
 | .skip,_,s,κ=>κ .normal s
 | .region _ ops draw,_,s,κ=>evReg (C.at f) M ops.toList draw s (κ .normal)
 | .seq a b,p,s,κ=>evC a (p++[0]) s λe s'=>match e with | .normal=>evC b (p++[1]) s' κ|e=>κ e s'
 | .cond c x y,p,s,κ=>(match evF s.n s.fr c with
  | .d a=>(JB a).bind λt=>brn t (evC x (p++[0]) s κ) (evC y (p++[1]) s κ)
  | .ub n neg=>brn (nz n) (bth (evC x (p++[0]) s κ) (evC y (p++[1]) s κ)) (if neg then evC x (p++[0]) s κ else evC y (p++[1]) s κ)
  | _=>none)
 | .block id b,p,s,κ=>evC b (p++[0]) s λe s'=>match e with | .exit id'=>if Nat.beq id' id then κ .normal s' else κ (.exit id') s'|e=>κ e s'
 | .loop _,p,s,_=>again M f p (C.kp f p) s
 | .exit id,_,s,κ=>κ (.exit id) s
 | .ret,_,s,κ=>κ .ret s
 | .label _,_,s,κ=>κ .normal s
 | _,_,_,_=>none
def evAt:Code->List Nat->List Nat->St->(Ex->St->Option Out)->Option Out
 | .loop b,[],p,s,κ=>evC C M f b (p++[0]) s λe s'=>match e with | .normal=>again M f p (C.kp f p) s'|e=>κ e s'
 | .loop b,0::r,p,s,κ=>evAt b r (p++[0]) s λe s'=>match e with | .normal=>again M f p (C.kp f p) s'|e=>κ e s'
 | .seq a b,0::r,p,s,κ=>evAt a r (p++[0]) s λe s'=>match e with | .normal=>evC C M f b (p++[1]) s' κ|e=>κ e s'
 | .seq _ b,1::r,p,s,κ=>evAt b r (p++[1]) s κ
 | .cond _ x _,0::r,p,s,κ=>evAt x r (p++[0]) s κ
 | .cond _ _ y,1::r,p,s,κ=>evAt y r (p++[1]) s κ
 | .block id b,0::r,p,s,κ=>evAt b r (p++[0]) s λe s'=>match e with | .exit id'=>if Nat.beq id' id then κ .normal s' else κ (.exit id') s'|e=>κ e s'
 | _,_,_,_,_=>none
end
def jDU (C:Cfg) (s:St):ResultVar->Option V
 | .tmp t=>some (evF s.n s.fr (.tmp t))
 | .cell a t=>(match Zn C t (evF s.n s.fr (.tmp a)) s.st with
  | .val v _=>some v
  | _=>none)
def jn4 (C:Cfg) (s:St):List ResultVar->List TypeId->Option (List V)
 | [],_=>some []
 | r::rs,[]=>(match jDU C s r,jn4 C s rs [] with|some v,some vs=>some (v::vs)|_,_=>none)
 | r::rs,t::ts=>(match jDU C s r,jn4 C s rs ts with|some v,some vs=>some (nilV C.D t v::vs)|_,_=>none)
def YR:List V->V
 | [v]=>v
 | vs=> .tup vs
def jeG (C:Cfg) (fn:Func) (s:St):Option Out:=
 match jn4 C s fn.results.toList fn.resultTypes.toList with
 | some vs=>(match toA s.st 60 (YR vs) with|some (a,_)=>some (a,[])|none=>none)
 | none=>none
def jMY (C:Cfg) (fn:Func):Ex->St->Option Out
 | .normal,s=>jeG C fn s
 | .ret,s=>jeG C fn s
 | _,_=>none
def eqP:List Nat->List Nat->Bool
 | [],[]=>true
 | x::xs,y::ys=>Nat.beq x y && eqP xs ys
 | _,_=>false
structure MAcc where
 as:List A
 ns:List (Option Nat)
 rds:List Rd
def jIP (n:Nat) (a:A):Option (List A):=match a with | .agg ds=>if ds.length=n then some ds else none|_=>none
mutual
def mt (st:jB) (sh:List Nat):Sh->V->MAcc->Option MAcc
 | .d i,v,c=>(match toA st 60 v with
  | some (a,r)=>if Nat.beq i c.as.length then some ⟨c.as++[a],c.ns,c.rds++r⟩ else none
  | none=>none)
 | .row o,.row id,c=>(match sh[o]? with
  | some q=>if Nat.beq q id then some c else none
  | none=>if Nat.beq o (sh.length+c.ns.length) then some ⟨c.as,c.ns++[some id],c.rds⟩ else none)
 | .row o,.nil _,c=>if Nat.beq o (sh.length+c.ns.length) then some ⟨c.as,c.ns++[none],c.rds⟩ else none
 | .ptr o off,.ptr id off',c=>(match sh[o]? with
  | some q=>if Nat.beq q id && Nat.beq off off' then some c else none
  | none=>none)
 | .agg l,.agg cs,c=>Q8 st sh l cs c
 | .agg l,.d a,c=>(jIP l.length a).bind λds=>Q8 st sh l ((List.range l.length).map λj=> .d (jb ds j)) c
 | .tup l,.tup cs,c=>Q8 st sh l cs c
 | _,_,_=>none
def Q8 (st:jB) (sh:List Nat):List Sh->List V->MAcc->Option MAcc
 | [],[],c=>some c
 | s::l,v::vs,c=>(mt st sh s v c).bind λc'=>Q8 st sh l vs c'
 | _,_,_=>none
end
def mtB (st:jB) (sh:List Nat):List OW->List Nat->MAcc->Option MAcc
 | [],[],c=>some c
 | .box l::ws,id::ids,c=>(match st id with
  | .box cs=>(Q8 st sh l cs c).bind λc'=>mtB st sh ws ids c'
  | _=>none)
 | _::ws,_::ids,c=>mtB st sh ws ids c
 | _,_,_=>none
def ioL:List OW->List Nat->List (Option Nat)
 | .io _::ws,id::ids=>some id::ioL ws ids
 | _::ws,_::ids=>ioL ws ids
 | _,_=>[]
def jy0:List OW->Nat->Bool
 | [],_=>true
 | .io j::ws,n=>Nat.beq j n && jy0 ws (n+1)
 | _::ws,n=>jy0 ws n
def ioN:List OW->Nat
 | []=>0
 | .io _::ws=>ioN ws+1
 | _::ws=>ioN ws
def jeV:List OW->List Nat->List (Option Nat)
 | .cons::ws,_::ids=>none::jeV ws ids
 | _::ws,id::ids=>some id::jeV ws ids
 | _,_=>[]
def jpB (x:Nat):List (Option Nat)->Bool
 | []=>false
 | none::l=>jpB x l
 | some y::l=>Nat.beq x y || jpB x l
def jjg:List (Option Nat)->Bool
 | []=>true
 | none::l=>jjg l
 | some x::l=> !jpB x l && jjg l
def pNo (a:A):Option Unit:=match a with | .val (.bool false)=>some ()|_=>none
def jaU (st:jB) (a:A):List Nat->List (Option Nat)->Option (List (List (List A)))
 | [],[]=>some []
 | k::ks,none::l=>(jaU st a ks l).bind λr=>if Nat.blt (kdK k) 128 then some ([]::r) else none
 | k::ks,some id::l=>(jaU st a ks l).bind λr=>(match st id with
  | .row k' xs=>if Nat.beq k' (kdK k) && Nat.blt (kdK k) 64 then some (xs::r) else none
  | .tre true k' xs=>if Nat.beq (k'+64) k && (!Nat.beq k 128 && Nat.blt k 256) then some (xs::r) else none
  | .map xs=>if Nat.beq k 128 then some (xs::r) else none
  | .gone=>if Nat.ble 256 k then (pNo a).bind λ_=>some ([]::r) else none
  | _=>none)
 | _,_=>none
def slL:List Nat->List (List (List A))->List A
 | k::ks,r::rs=> .sl k r::slL ks rs
 | _,_=>[]
def jIX (live:List (Option Nat)) (rds:List Rd):Bool:=rds.all λr=>match r with | .obj id o=> !o.alive || !jpB id live|_=>true
def jGn (st:jB) (sg:SigA) (sh:List Nat) (vs:List V):Option Out:=
 (mtB st sh sg.ws sh ⟨[],[],[]⟩).bind λc1=>(mt st sh sg.r (YR vs) c1).bind λc=>
  (if Nat.beq c.as.length sg.nd && Nat.beq c.ns.length sg.nw.length && jy0 sg.ws 0 && eqP sg.nw (ups (ioN sg.ws) sg.nw.length) && jjg (jeV sg.ws sh++c.ns) && jIX (jeV sg.ws sh++c.ns) c.rds then
   (jaU st (jpf sg.ks c.as) sg.ks (ioL sg.ws sh++c.ns)).bind λrs=>some (.top,c.as++slL sg.ks rs)
  else none)
def jIe (C:Cfg) (fn:Func) (sg:SigA) (sh:List Nat) (s:St):Option Out:=
 match jn4 C s fn.results.toList fn.resultTypes.toList with
 | some vs=>jGn s.st sg sh vs
 | none=>none
def jhH:List ResultVar->List Nat
 | []=>[]
 | .tmp t::l=>t::jhH l
 | _::l=>jhH l
def jfb (t:Nat) (s:St):St:=
 match s.fr t with
 | .win id k off n=>(match s.st id with
  | .row k' xs=>bif Nat.beq k' k && (Nat.beq off 0 && jnu (s.st s.nx)) then { s with fr:=upd s.fr t (.row s.nx),st:=upd (upd s.st id .gone) s.nx (.row k (xs.take n)),nx:=s.nx+1 } else s
  | _=>s)
 | _=>s
def jwc:Obj->Obj
 | .tre _ k xs=> .tre true k xs
 | o=>o
def jIi (s:St):St:={ s with st:=λi=>jwc (s.st i) }
def jfc:List Nat->St->St
 | [],s=>jIi s
 | t::ts,s=>jfc ts (jfb t s)
def jyA (C:Cfg) (f:FuncId) (fn:Func) (s:St):Option Out:=
 match s.sh with
 | none=>jeG C fn s
 | some sh=>(match C.sig f with
  | some sgs=>(match ja6 sh.length sgs with
   | some sg=>jIe C fn sg sh (jfc (jhH fn.results.toList) s)
   | none=>none)
  | none=>none)
def Q0 (C:Cfg) (f:FuncId) (fn:Func):Ex->St->Option Out
 | .normal,s=>jyA C f fn s
 | .ret,s=>jyA C f fn s
 | _,_=>none
def jaY (fn:Func) (args:List A):St:=St.of fn.ntmps (args.map V.d) [] none
def jdZ (fn:Func) (args:List V) (objs:List Obj):St:=St.of fn.ntmps args objs (some (List.range objs.length))
def step (C:Cfg) (M:Node->Option Out):Node->Option Out
 | .call f args=>(match C.ext f with
  | some x=>x args
  | none=>(match C.pureF f with
   | false=>none
   | true=>(match C.P.funcs[f]? with
    | some fn=>(match fn.body with
     | some c=>brn (Nat.ble args.length fn.ntmps) (evC C M f c [] (jaY fn args) (Q0 C f fn)) none
     | none=>none)
    | none=>none)))
 | .callv f args objs=>(match C.extv f with
  | some x=>extRun C M x args objs
  | none=>(match C.P.funcs[f]? with
    | some fn=>(match fn.body with
     | some c=>brn (Nat.ble args.length fn.ntmps) (evC C M f c [] (jdZ fn args objs) (Q0 C f fn)) none
     | none=>none)
    | none=>none))
 | .head f p fr objs sh=>(match C.P.funcs[f]? with
   | some fn=>(match fn.body with
    | some c=>evAt C M f c p [] (St.of fn.ntmps fr objs sh) (Q0 C f fn)
    | none=>none)
   | none=>none)
def Mn (C:Cfg):Nat->Node->Option Out
 | 0,_=>none
 | n+1,x=>step C (Mn C n) x
open Classical in
noncomputable def MM (C:Cfg) (x:Node):Option Out:=if h:∃r n,Mn C n x=some r then some h.choose else none
def LeM (M M':Node->Option Out):Prop:=∀x r,M x=some r->M' x=some r
structure Nice (C:Cfg) {α:Type} (Φ:(Node->Option Out)->Option α):Prop where
 mono:∀M M' r,LeM M M'->Φ M=some r->Φ M'=some r
 fin:(∀n,LeM (Mn C n) (Mn C (n+1)))-> ∀r,Φ (MM C)=some r-> ∃n,Φ (Mn C n)=some r
section
variable {C:Cfg} {α β:Type}
theorem jkR (h:∀n,LeM (Mn C n) (Mn C (n+1))) {a b:Nat} (hab:a<=b):LeM (Mn C a) (Mn C b):=by
 induction hab with
 | refl=>exact λ_ _ h=>h
 | step _ ih=>exact λx r hr=>h _ x r (ih x r hr)
theorem Nice.const (x:Option α):Nice C λ_=>x:=⟨λ_ _ _ _ h=>h,λ_ _ h=>⟨0,h⟩⟩
theorem Nice.node (x:Node):Nice C λM=>M x:=
 ⟨λ_ _ _ h hr=>h _ _ hr,λ_ r h=>by
  unfold MM at h;split at h
  ·rename_i hx;cases h;exact hx.choose_spec
  ·cases h⟩
theorem Nice.bind {Φ:(Node->Option Out)->Option α} {Ψ:(Node->Option Out)->α->Option β} (h1:Nice C Φ) (h2:∀a,Nice C λM=>Ψ M a):Nice C λM=>(Φ M).bind (Ψ M) where
 mono:=λM M' r hM h=>by
  rw [zI] at h ⊢;obtain ⟨a,h3,h4⟩:=h;exact ⟨a,h1.mono _ _ _ hM h3,(h2 a).mono _ _ _ hM h4⟩
 fin:=λhc r h=>by
  rw [zI] at h;obtain ⟨a,h3,h4⟩:=h;obtain ⟨n1,h5⟩:=h1.fin hc _ h3;obtain ⟨n2,h6⟩:=(h2 a).fin hc _ h4;refine ⟨max n1 n2,?_⟩;rw [zI];exact ⟨a,h1.mono _ _ _ (jkR hc (Nat.le_max_left _ _)) h5,(h2 a).mono _ _ _ (jkR hc (Nat.le_max_right _ _)) h6⟩
theorem Nice.fin' (chk:Bool) {Φ:(Node->Option Out)->Option Out} (h:Nice C Φ):Nice C λM=>(Φ M).bind (Abs.fin chk):=h.bind λ_=>Nice.const _
theorem Nice.dx {C':Cfg} (x:DX):Nice C λM=>x.run C' M:=by
 cases x with
 | opt x=>exact Nice.const x
 | call f args chk=>exact (Nice.node _).fin' chk
 | callc fn args chk=>
  simp only [DX.run];split
  ·split
   ·exact (Nice.node _).fin' chk
   ·exact Nice.const _
  ·exact Nice.const _
theorem Nice.pG {t:A} {want:Bool} {Φ:(Node->Option Out)->Option A} (h:Nice C Φ):Nice C λM=>pG t want (Φ M):=by
 unfold Abs.pG;split
 ·split
  ·exact h
  ·exact Nice.const _
 ·exact Nice.const _
 ·exact Nice.const _
theorem Nice.brn {α:Type} {b:Bool} {Φ Ψ:(Node->Option Out)->Option α} (h1:Nice C Φ) (h2:Nice C Ψ):Nice C λM=>Abs.brn b (Φ M) (Ψ M):=by
 cases b
 ·exact h2
 ·exact h1
theorem Nice.bth {Φ Ψ:(Node->Option Out)->Option Out} (h1:Nice C Φ) (h2:Nice C Ψ):Nice C λM=>Abs.bth (Φ M) (Ψ M) where
 mono:=λM M' r hM h=>by
  rw [jey] at h ⊢;exact ⟨h1.mono _ _ _ hM h.1,h2.mono _ _ _ hM h.2⟩
 fin:=λhc r h=>by
  rw [jey] at h;obtain ⟨n1,h5⟩:=h1.fin hc _ h.1;obtain ⟨n2,h6⟩:=h2.fin hc _ h.2;refine ⟨max n1 n2,?_⟩;rw [jey];exact ⟨h1.mono _ _ _ (jkR hc (Nat.le_max_left _ _)) h5,h2.mono _ _ _ (jkR hc (Nat.le_max_right _ _)) h6⟩
theorem Nice.lx {κ:(Node->Option Out)->V->List Rd->List Wr->Option Out} (hκ:∀v r w,Nice C λM=>κ M v r w):∀x:LX,Nice C λM=>x.run M (κ M)
 | .fail=>Nice.const _
 | .ret v r w=>hκ v r w
 | .bnd x k=>(Nice.const x).bind λa=>Nice.lx hκ (k a)
 | .nat x k=>(Nice.const x).bind λa=>Nice.lx hκ (k a)
 | .rows x k=>(Nice.const x).bind λa=>Nice.lx hκ (k a)
 | .cells x k=>(Nice.const x).bind λa=>Nice.lx hκ (k a)
 | .chk b k=>by
  simp only [LX.run];exact Nice.brn (Nice.lx hκ k) (Nice.const _)
 | .node x k=>(Nice.node _).bind λa=>Nice.lx hκ (k a)
 | .cnd a x y=>(Nice.const (JB a)).bind λ_=>Nice.brn (Nice.lx hκ x) (Nice.lx hκ y)
theorem Nice.run1 {C':Cfg} {o:Oper} {n:Nat} {fr:Nat->V} {st:jB} {nid:Nat} {κ:(Node->Option Out)->V->List Rd->List Wr->Option Out} (hκ:∀v r w,Nice C λM=>κ M v r w):Nice C λM=>Abs.run1 C' M o n fr st nid (κ M):=by
 unfold Abs.run1;split
 ·exact hκ _ _ _
 ·exact (Nice.dx _).bind λa=>hκ _ _ _
 ·split
  ·exact Nice.lx hκ _
  ·exact Nice.const _
theorem Nice.stepOp {C':Cfg} {ops:Array Oper} {o:Oper} {n:Nat} {fr:Nat->V} {st:jB} {nid:Nat} {gs:List GE} {κ:(Node->Option Out)->V->List Rd->List Wr->List GE->Option Out} (hκ:∀v r w g,Nice C λM=>κ M v r w g):Nice C λM=>Abs.stepOp C' M ops o n fr st nid gs (κ M):=by
 unfold Abs.stepOp;split
 ·exact Nice.run1 (κ:=λM v r w=>κ M v r w _) λ_ _ _=>hκ _ _ _ _
 ·split
  ·split
   ·split
    ·split
     ·exact (Nice.const _).bind λa=>hκ _ _ _ _
     ·exact (Nice.const _).bind λa=>hκ _ _ _ _
     ·exact (Nice.pG (Nice.dx _)).bind λa=>hκ _ _ _ _
     ·exact (Nice.const _).bind λb=>Nice.brn (Nice.run1 (κ:=λM v r w=>κ M v r w _) λ_ _ _=>hκ _ _ _ _) (hκ _ _ _ _)
    ·exact Nice.const _
   ·exact Nice.const _
  ·exact Nice.const _
theorem Nice.evOps {C':Cfg} {ops:Array Oper} {n:Nat} {κ:(Node->Option Out)->(Nat->V)->jB->List Log->Option Out} (hκ:∀f s l,Nice C λM=>κ M f s l):∀(l:List Oper) (nid:Nat) (fr:Nat->V) (st:jB) (gs:List GE) (logs:List Log),
  Nice C λM=>Abs.evOps C' M ops n l nid fr st gs logs (κ M)
 | [],_,fr,st,_,logs=>hκ fr st logs
 | o::os,nid,fr,st,gs,logs=>Nice.stepOp (C':=C') (κ:=λM v rds wrs gs'=>Abs.evOps C' M ops n os (nid+8) (Kb fr o.dst v) (zi st wrs) gs' (logs++[(rds,wrs)]) (κ M)) λv rds wrs gs'=>Nice.evOps hκ os _ _ _ _ _
theorem Nice.evReg {C':Cfg} {ops:List Oper} {draw:Bool} {s:St} {κ:(Node->Option Out)->St->Option Out} (hκ:∀s,Nice C λM=>κ M s):Nice C λM=>Abs.evReg C' M ops draw s (κ M):=by
 unfold Abs.evReg;exact Nice.evOps (κ:=λM fr st logs=>Abs.brn (jpC (s.nx+8 * ops.length) logs) (Abs.brn (!draw || jvr ops logs) (κ M ⟨s.n,fr,st,s.nx+8 * ops.length,s.sh⟩) none) none) (λ_ _ _=>Nice.brn (Nice.brn (hκ _) (Nice.const _)) (Nice.const _)) _ _ _ _ _ _
theorem Nice.again {f:FuncId} {p:List Nat} {mask:Nat} {s:St} :Nice C λM=>Abs.again M f p mask s:=by
 unfold Abs.again;dsimp only;split
 ·split
  ·exact Nice.node _
  ·exact Nice.const _
 ·exact Nice.const _
theorem Nice.evC {f:FuncId} :∀(c:Code) (p:List Nat) (s:St) (κ:(Node->Option Out)->Ex->St->Option Out),(∀e s,Nice C λM=>κ M e s)->Nice C λM=>Abs.evC C M f c p s (κ M)
 | .skip,_,s,κ,h=>h _ _
 | .region _ ops draw,_,s,κ,h=>Nice.evReg (κ:=λM=>κ M .normal) λs=>h _ s
 | .seq a b,p,s,κ,h=>Nice.evC a _ s (λM e s'=>match e with | .normal=>Abs.evC C M f b (p++[1]) s' (κ M)|e=>κ M e s') λe s'=>by
  cases e
  ·exact Nice.evC b _ s' κ h
  ·exact h _ _
  ·exact h _ _
 | .cond c x y,p,s,κ,h=>by
  simp only [Abs.evC];split
  ·exact (Nice.const _).bind λt=>Nice.brn (Nice.evC x _ s κ h) (Nice.evC y _ s κ h)
  ·rename_i n neg _;refine Nice.brn (Nice.bth (Nice.evC x _ s κ h) (Nice.evC y _ s κ h)) ?_;cases neg
   ·exact Nice.evC y _ s κ h
   ·exact Nice.evC x _ s κ h
  ·exact Nice.const _
 | .block id b,p,s,κ,h=>Nice.evC b _ s (λM e s'=>match e with | .exit id'=>if Nat.beq id' id then κ M .normal s' else κ M (.exit id') s'|e=>κ M e s') λe s'=>by
  cases e
  ·exact h _ _
  ·dsimp only;split
   ·exact h _ _
   ·exact h _ _
  ·exact h _ _
 | .loop _,p,s,_,_=>Nice.again
 | .exit id,_,s,κ,h=>h _ _
 | .ret,_,s,κ,h=>h _ _
 | .label _,_,s,κ,h=>h _ _
 | .rangeFunc _ _ _ _,_,_,_,_=>Nice.const _
 | .scope _,_,_,_,_=>Nice.const _
 | .goto _,_,_,_,_=>Nice.const _
 | .refuse _,_,_,_,_=>Nice.const _
theorem Nice.evAt {f:FuncId} :∀(c:Code) (r p:List Nat) (s:St) (κ:(Node->Option Out)->Ex->St->Option Out),(∀e s,Nice C λM=>κ M e s)->Nice C λM=>Abs.evAt C M f c r p s (κ M):=by
 intro c;induction c with
 | loop b ih=>
  intro r p s κ h;have hk:∀(e:Ex) (s':St),Nice C λM=>(match e with | .normal=>Abs.again M f p (C.kp f p) s'|e=>κ M e s'):=λe s'=>by
   cases e
   ·exact Nice.again
   ·exact h _ _
   ·exact h _ _
  rcases r with _|⟨_|q,r⟩
  ·exact Nice.evC b _ s (λM e s'=>match e with | .normal=>Abs.again M f p (C.kp f p) s'|e=>κ M e s') hk
  ·exact ih r _ s (λM e s'=>match e with | .normal=>Abs.again M f p (C.kp f p) s'|e=>κ M e s') hk
  ·exact Nice.const _
 | seq a b iha ihb=>
  intro r p s κ h;have hk:∀(e:Ex) (s':St),Nice C λM=>(match e with | .normal=>Abs.evC C M f b (p++[1]) s' (κ M)|e=>κ M e s'):=λe s'=>by
   cases e
   ·exact Nice.evC b _ s' κ h
   ·exact h _ _
   ·exact h _ _
  rcases r with _|⟨_|_|q,r⟩
  ·exact Nice.const _
  ·exact iha r _ s (λM e s'=>match e with | .normal=>Abs.evC C M f b (p++[1]) s' (κ M)|e=>κ M e s') hk
  ·exact ihb r _ s κ h
  ·exact Nice.const _
 | cond c x y ihx ihy=>
  intro r p s κ h;rcases r with _|⟨_|_|q,r⟩
  ·exact Nice.const _
  ·exact ihx r _ s κ h
  ·exact ihy r _ s κ h
  ·exact Nice.const _
 | block id b ih=>
  intro r p s κ h;have hk:∀(e:Ex) (s':St),Nice C λM=>(match e with | .exit id'=>if Nat.beq id' id then κ M .normal s' else κ M (.exit id') s'|e=>κ M e s'):=λe s'=>by
   cases e
   ·exact h _ _
   ·dsimp only;split
    ·exact h _ _
    ·exact h _ _
   ·exact h _ _
  rcases r with _|⟨_|q,r⟩
  ·exact Nice.const _
  ·exact ih r _ s (λM e s'=>match e with | .exit id'=>if Nat.beq id' id then κ M .normal s' else κ M (.exit id') s'|e=>κ M e s') hk
  ·exact Nice.const _
 | _=>intro r p s κ h;exact Nice.const _
theorem Nice.askAll {C':Cfg} :∀(qs:List (FuncId × List A)),Nice C λM=>Abs.askAll C' M qs
 | []=>Nice.const _
 | (f,as)::l=>by
  simp only [Abs.askAll];split
  ·exact (Nice.node _).bind λ_=>(Nice.askAll l).bind λ_=>Nice.const _
  ·exact Nice.const _
theorem Nice.extRun {C':Cfg} (x:ExtV) (args:List V) (objs:List Obj):Nice C λM=>Abs.extRun C' M x args objs:=
 (Nice.const _).bind λ_=>(Nice.askAll _).bind λ_=>Nice.const _
theorem Nice.step (x:Node):Nice C λM=>Abs.step C M x:=by
 cases x with
 | call f args=>
  simp only [Abs.step];split
  ·exact Nice.const _
  ·split
   ·exact Nice.const _
   ·split
    ·split
     ·exact Nice.brn (Nice.evC _ _ _ (λ_=>Q0 C _ _) λe s=>Nice.const _) (Nice.const _)
     ·exact Nice.const _
    ·exact Nice.const _
 | callv f args objs=>
  simp only [Abs.step];split
  ·exact Nice.extRun _ _ _
  ·split
   ·split
    ·exact Nice.brn (Nice.evC _ _ _ (λ_=>Q0 C _ _) λe s=>Nice.const _) (Nice.const _)
    ·exact Nice.const _
   ·exact Nice.const _
 | head f p fr objs sh=>
  simp only [Abs.step];split
  ·split
   ·exact Nice.evAt _ _ _ _ (λ_=>Q0 C _ _) λe s=>Nice.const _
   ·exact Nice.const _
  ·exact Nice.const _
theorem jbA:∀n,LeM (Mn C n) (Mn C (n+1))
 | 0,x,r,h=>by simp [Mn] at h
 | n+1,x,r,h=>(Nice.step x).mono _ _ _ (jbA n) h
theorem jEr {n:Nat} {x:Node} {r:Out} (h:Mn C n x=some r):MM C x=some r:=by
 unfold MM;have hx:∃r n,Mn C n x=some r:=⟨r,n,h⟩;rw [dif_pos hx];obtain ⟨n',h'⟩:=hx.choose_spec;have h1:=jkR jbA (Nat.le_max_left n n') x r h;have h2:=jkR jbA (Nat.le_max_right n n') x _ h';rw [h1] at h2;exact h2.symm
theorem juu {x:Node} {r:Out} (h:MM C x=some r):∃n,Mn C n x=some r:=(Nice.node x).fin jbA r h
theorem jII (n:Nat):LeM (Mn C n) (MM C):=λ_ _ h=>jEr h
theorem joU (x:Node):MM C x=step C (MM C) x:=by
 apply Option.ext;intro r;constructor
 ·intro h;obtain ⟨n,hn⟩:=juu h;cases n with
  | zero=>simp [Mn] at hn
  | succ n=>exact (Nice.step x).mono _ _ _ (jII n) hn
 ·intro h;obtain ⟨n,hn⟩:=(Nice.step x).fin jbA r h;exact jEr (n:=n+1) hn
end
end
noncomputable section
def YG {α:Type} (d:α) (x:Nat):List (Nat × α)->α
 | []=>d
 | (y,a)::l=>bif Nat.beq x y then a else YG d x l
def jx0 (p:List Nat):List (List Nat × Nat)->Nat
 | []=>0
 | (q,m)::l=>bif eqP p q then m else jx0 p l
def jMa (tab:List (Nat × List (List Nat × Nat))) (f:FuncId) (p:List Nat):Nat:=jx0 p (YG [] f tab)
theorem jB1 {C:Cfg} {f:FuncId} {fn:Func} {c:Code} {args:List A} (h1:C.ext f=none) (h2:C.pureF f=true) (h3:C.P.funcs[f]? = some fn) (h4:fn.body=some c) (h5:Nat.ble args.length fn.ntmps=true) :
  MM C (.call f args)=evC C (MM C) f c [] (jaY fn args) (Q0 C f fn):=by
 rw [joU];simp only [step,h1,h2,h3,h4,h5,brn,Jw]
theorem jFz {C:Cfg} {f:FuncId} {x:List A->Option Out} {args:List A} (h1:C.ext f=some x):MM C (.call f args)=x args:=by
 rw [joU];simp only [step,h1]
theorem jxS {C:Cfg} {f:FuncId} {fn:Func} {c:Code} {args:List V} {objs:List Obj} (h1:C.extv f=none) (h3:C.P.funcs[f]? = some fn) (h4:fn.body=some c) (h5:Nat.ble args.length fn.ntmps=true) :
  MM C (.callv f args objs)=evC C (MM C) f c [] (jdZ fn args objs) (Q0 C f fn):=by
 rw [joU];simp only [step,h1,h3,h4,h5,brn,Jw]
theorem jB2 {C:Cfg} {f:FuncId} {args:List V} {objs:List Obj} {x:ExtV} (h1:C.extv f=some x):MM C (.callv f args objs)=extRun C (MM C) x args objs:=by
 rw [joU];simp only [step,h1]
theorem jB3 {C:Cfg} {f:FuncId} {fn:Func} {c:Code} {p:List Nat} {fr:List V} {objs:List Obj} {sh:Option (List Nat)} (h3:C.P.funcs[f]? = some fn) (h4:fn.body=some c) :
  MM C (.head f p fr objs sh)=evAt C (MM C) f c p [] (St.of fn.ntmps fr objs sh) (Q0 C f fn):=by
 rw [joU];simp only [step,h3,h4]
end
end Go.Proofs.YtbgikpffkgjecaaGreatDoor.Abs
