/- Ec -/
import Derived.Test.YtbidbdhamhbebaaGreatDoorEb
namespace Go.Proofs.YtbidbdhamhbebaaGreatDoor.Abs
open Go Go.RowKit
set_option linter.unusedSimpArgs false
set_option linter.unusedVariables false
noncomputable section
def jA8 (bytes:Nat) (l c:Int):Prop:=0<=l/\l<=c/\(bytes:Int) * c<=281474976710656/\c<=9223372036854775807
noncomputable instance (b:Nat) (l c:Int):Decidable (jA8 b l c):=Classical.propDecidable _
def jjn (bytes:Nat) (a b:A):Option Nat:=
 match a,b with
 | .val (.int _ l),.val (.int _ c)=>if jA8 bytes l c then some l.toNat else none
 | _,_=>none
def jga (xs:List (List A)) (i:Nat):Option (List A):=xs[i]?
def KR (cs:List A) (j:Nat) (ds:List A):List A:=over cs j ds
def Jp (n:Nat) (z:List A):List (List A):=List.replicate n z
def kq (us ys:List (List A)):List (List A):=us++ys
def jB (xs:List (List A)):Nat:=xs.length
def jW (n bytes:Nat):Bool:=decide (n * bytes<=140737488355328/\n<=9223372036854775807)
def jeX (k:Nat) (a:A):Option (List (List A)):=match a with | .sl k' xs=>if k'=k then some xs else none|_=>none
def jnO (id:Nat):List Wr->Bool
 | []=>true
 | w::ws=> !Nat.beq w.id id && jnO id ws
def jjq (C:Cfg) (e:Nat) (i:TI) (st:jC):List (Nat × V)->List (Nat × List A)->List Rd->List Wr->(List (Nat × List A)->List Rd->List Wr->LX)->LX
 | [],acc,r,ws,k=>k acc r ws
 | (q,v)::ps,acc,r,ws,k=>jbQ i.kind.plain i.size (nilV C.D e v) λvs=>match JJ st vs with
  | some (ds,r',ws')=>if Nat.beq ds.length i.size then jjq C e i st ps (acc++[(q,ds)]) (r++r') (ws++ws') k else .fail
  | none=> .fail
def jjr (C:Cfg) (s:Nat):List (Nat × V)->List V->(List V->LX)->LX
 | [],cs,k=>k cs
 | (q,v)::ps,cs,k=>match zU C s q with
  | some (off,j)=>jbQ j.kind.plain j.size v λds=>if Nat.beq ds.length j.size && Nat.ble (off+j.size) cs.length then jjr C s ps (over cs off ds) k else .fail
  | none=> .fail
def setRows (rows:List (List A)):List (Nat × List A)->List (List A)
 | []=>rows
 | (q,ds)::ps=>setRows (rows.set q ds) ps
def jeG (n:Nat):List (Nat × List A)->Bool
 | []=>true
 | (q,_)::ps=>Nat.blt q n && jeG n ps
def jwC (st:jC) (k:Nat) (v:V) (kk:List (List A)->List Rd->LX):LX:=
 match v with
 | .nil _=>kk [] []
 | .d a=> .rows (jeX k a) λys=>kk ys []
 | .row id=>(match st id with
  | .row k' ys=>if Nat.beq k' k then kk ys [.obj id (.row k' ys)] else .fail
  | .fro k' ys=>if Nat.beq k' k then kk ys [.obj id (.fro k' ys)] else .fail
  | _=> .fail)
 | .win _ _ _ _=>(match jgk st v with
  | some p=>if Nat.beq p.k k then kk (Ja p.xs p.off p.n) [.obj p.id (.row p.k p.xs)] else .fail
  | none=> .fail)
 | _=> .fail
def jK3:V->Bool
 | .win _ _ _ _=>true
 | _=>false
def jC9 (st:jC) (k:Nat) (v:V) (l h:Option A):LX:=
 match jgk st v with
 | some p=>if Nat.beq p.k k then .nat (pB p.n (yq p.xs p.off) h) λh'=> .nat (pLo h' l) λl'=> .ret (.win p.id p.k (jCl p.off l') (zf h' l')) [.len p.id p.k p.xs.length] [] else .fail
 | none=> .fail
def jiJ:Abs.Obj->Bool
 | .dead=>true
 | _=>false
def jo6 (o:Out):Nat->Nat->(List A->LX)->LX
 | 0,_,k=>k []
 | n+1,i,k=> .bnd (hD o i) λa=>jo6 o n (i+1) λas=>k (a::as)
def jo7 (o:Out):List Nat->Nat->(List (List (List A))->LX)->LX
 | [],_,k=>k []
 | w::ks,i,k=> .rows (hR w o i) λr=>jo7 o ks (i+1) λrs=>k (r::rs)
def jof (b:Bool) (sg:SigA) (st:jC) (nid:Nat) (ids:List Nat) (p:Nat) (as:List A) (rs:List (List (List A))):LX:=
 .ret (bk (ids++ups nid (p+sg.nw.length)) (sg.r.toV as)) (jeF st ids++jbZ (ups nid (p+sg.nw.length))) (jc2 (ids++ups nid (p+sg.nw.length)) ((sg.objsB b as rs).map (bkO (ids++ups nid (p+sg.nw.length)))))
def jEc (sg:SigA) (st:jC) (nid:Nat) (ids:List Nat) (p:Nat) (as:List A) (rs:List (List (List A))):LX:=
 match jxH sg.ks with
 | none=>jof true sg st nid ids p as rs
 | some i=> .cnd (as.getD i .top) (jof true sg st nid ids p as rs) (jof false sg st nid ids p as rs)
def jtl (keep:Bool) (st:jC) (nid:Nat) (g:FuncId) (sgs:Sig) (vs:List V):LX:=
 match jcg keep st vs with
 | some (ids,vs2,objs,p)=>(match jaa objs.length sgs with
  | some sg=>if objs.all jiZ && (ups nid (p+sg.nw.length)).all (λi=>jiJ (st i)) then
    .node (.callv g vs2 objs) λout=>jo6 out sg.nd 0 λas=>jo7 out sg.ks sg.nd λrs=>
     jEc sg st nid ids p as rs
   else .fail
  | none=> .fail)
 | none=> .fail
def Z5 (a b:A):Bool:=@decide (a=b) (Classical.propDecidable _)
def jpb:List V->List V->LX->LX
 | [],[],k=>k
 | .d a::xs,.d b::ys,k=> .chk (Z5 a b) (jpb xs ys k)
 | _,_,_=> .fail
def jBp (st:jC):List Wr->LX->LX
 | [],k=>k
 | .obj i (.box ys)::ws,k=>(match st i with
  | .box xs=>jpb xs ys (jBp st ws k)
  | _=> .fail)
 | _::_,_=> .fail
def ji0 (keep:Bool) (st:jC) (nid:Nat) (g:FuncId) (sgs:Sig) (vs:List V):LX:=
 match jcg keep st vs with
 | some (ids,vs2,objs,p)=>(match jaa objs.length sgs with
  | some sg=>if objs.all jiZ && (ups nid (p+sg.nw.length)).all (λi=>jiJ (st i)) then
    .node (.callv g vs2 objs) λout=>jo6 out sg.nd 0 λas=>jo7 out sg.ks sg.nd λrs=>
     jBp st (jc2 (ids++ups nid (p+sg.nw.length)) ((sg.objs as rs).map (bkO (ids++ups nid (p+sg.nw.length)))))
      (.ret (bk (ids++ups nid (p+sg.nw.length)) (sg.r.toV as)) (jeF st ids++jbZ (ups nid (p+sg.nw.length))) [])
   else .fail
  | none=> .fail)
 | none=> .fail
def jEY:List A->LX->LX
 | [],k=>k
 | a::as,k=> .chk (ZQ a) (jEY as k)
def jpa:List Nat->List (List (List A))->LX->LX
 | kk::ks,r::rs,k=>if Nat.ble 64 kk then jpa ks rs k else .chk (jiD r) (jpa ks rs k)
 | _,_,k=>k
def js6 (th:Bool) (st:jC) (nid:Nat) (g:FuncId) (sgs:Sig) (vs:List V):LX:=
 match Ku st 60 vs,jaa 0 sgs with
 | some (as0,rds),some sg=>if (ups nid sg.nw.length).all (λi=>jiJ (st i)) && sg.ks.all (λk=>Nat.blt k 128) then
   .node (.callv g (as0.map V.d) []) λout=>jo6 out sg.nd 0 λas=>jo7 out sg.ks sg.nd λrs=>
    jEY as (jpa sg.ks rs <| .ret (bk (ups nid sg.nw.length) (sg.r.toV as)) (rds++jbZ (ups nid sg.nw.length)) (jc2 (ups nid sg.nw.length) ((sg.objs as rs).map λo=>thO th (bkO (ups nid sg.nw.length) o))))
  else .fail
 | _,_=> .fail
def jry (_st:jC) (_id _ii _k _j _n:Nat) (_f:Bool) (_xs:List (List A)) (_vs:List V):LX:= .fail
def juY (_D:Nat->Option TI) (_nid:Nat) (_st:jC) (_i:TI) (_v:V):LX:= .fail
def jAE (_vs:List V):Option (List V × (Nat × Nat × Nat × Nat)):=none
def juW (_st:jC) (_g:FuncId) (_sgs:Sig) (_p:List V × (Nat × Nat × Nat × Nat)):LX:= .fail
def juh (_st:jC) (_sgs:Sig) (_vs:List V):Option (List V × Nat × Nat × List (List A)):=none
def jpr (_g:FuncId) (_sgs:Sig) (_q:List V × Nat × Nat × List (List A)):LX:= .fail
def jjN (C:Cfg) (st:jC) (g:FuncId) (vs:List V):LX:=
 match jcp st vs with
 | some (as,p)=>if C.pureF g then .node (.call g as) λout=> .bnd (fin false out) λx=> .ret (.d x) (Z9 p) (Ya p) else .fail
 | none=>match vs with
 | [v]=>(match jrg st v with
  | some (a,r,ws)=>if C.pureF g then .node (.call g [a]) λout=> .bnd (fin false out) λx=> .ret (.d x) r ws else .fail
  | none=> .fail)
 | _=> .fail
def jsy (C:Cfg) (t:Nat):Bool:=match C.D t with|some i=>(match i.kind with | .int _=>true|_=>false)|none=>false
def jz7 (a:A):Option (List (List A)):=match a with | .sl _ xs=>some xs|_=>none
def jD1 (st:jC) (v:V) (neg:Bool):LX:=
 match v with
 | .d a=> .rows (jz7 a) λys=> .ret (.ub (yU ys) neg) [] []
 | .nil _=> .ret (.ub 0 neg) [] []
 | .row id=>(match st id with
  | .row k xs=> .ret (.ub (yU xs) neg) [.obj id (.row k xs)] []
  | .fro k xs=> .ret (.ub (yU xs) neg) [.obj id (.fro k xs)] []
  | _=> .fail)
 | _=> .fail
def evL (C:Cfg) (o:Oper) (ρ:Operand->V) (st:jC) (nid:Nat):LX:=
 match o.op with
 | .box t x=>(match C.D t with
  | some i=>if i.kind.known then jbQ i.kind.plain i.size (nilV C.D t (ρ x)) λds=> .ret (.ptr nid 0) [.fresh nid] [.obj nid (.box ds)] else .fail
  | none=> .fail)
 | .alloc t=>(match C.D t with
  | some i=>YN (zeroV C t i) (.ret (.ptr nid 0) [.fresh nid] [.obj nid (.box (zeroV C t i))])
  | none=> .fail)
 | .makeMap _ none=> .ret (.row nid) [.fresh nid] [.obj nid (.map [])]
 | .mapUpdate t x k y=>(match C.D t,dat (ρ k) with
  | some ti,some ka=>(match ti.kind with
   | .map kt et=>(match C.D kt with
    | some ki=>(match jCb ki.kind,ρ x,jpj (nilV C.D et (ρ y)) with
     | some ks,.row id,some va=>(match st id with
      | .map xs=> .rows (jeW ks xs ka va) λys=> .ret (.d (.val undef)) [.obj id (.map xs)] [.obj id (.map ys)]
      | _=> .fail)
     | _,_,_=> .fail)
    | none=> .fail)
   | _=> .fail)
  | _,_=> .fail)
 | .store t a x=>(match C.D t with
  | some i=>if i.kind.known then (match ρ a with
   | .ptr id off=>(match st id with
    | .box cs=>jbQ i.kind.plain i.size (nilV C.D t (ρ x)) λds=>if Nat.beq ds.length i.size && Nat.ble (off+i.size) cs.length then .ret (.d (.val undef)) [.blen id cs.length] (jcG id off ds) else .fail
    | _=> .fail)
   | .rptr id ii k j=>(match st id with
    | .row k' xs=>if Nat.beq k' k && Nat.ble (j+i.size) k then jbQ i.kind.plain i.size (nilV C.D t (ρ x)) λvs=>(match JJ st vs with
      | some (ds,r,ws)=>if Nat.beq ds.length i.size && jnO id ws then .cells (jga xs ii) λcs=> .ret (.d (.val undef)) (.elem id ii k cs::r) (ws++[.elem id ii (KR cs j ds)]) else .fail
      | none=> .fail)
     else .fail
    | .tre f k' xs=>if Nat.beq k' k && Nat.ble (j+i.size) k then jbQ i.kind.plain i.size (nilV C.D t (ρ x)) λvs=>jry st id ii k j i.size f xs vs else .fail
    | _=> .fail)
   | _=> .fail) else .fail
  | none=> .fail)
 | .load t x=>(match C.D t with
  | some i=>juY C.D nid st i (ρ x)
  | none=> .fail)
 | .binOp op t x y _=>if jnq y && jFf op then (match C.D t with
  | some ti=>(match ti.kind with
   | .slice _=>jD1 st (ρ x) (jpK op)
   | _=> .fail)
  | none=> .fail) else .fail
 | .makeSlice t x y=>(match C.D t with
  | some ti=>(match ti.kind with
   | .slice e=>(match C.D e,dat (ρ x),dat (ρ y) with
    | some i,some a,some b=>if C.tr then .fail else (match jc0 (zeroV C e i) with
     | some z=> .nat (jjn i.bytes a b) λl=> .chk (z.all j9) (.ret (.row nid) [.fresh nid] [.obj nid (.row i.size (Jp l z))])
     | none=> .fail)
    | _,_,_=> .fail)
   | _=> .fail)
  | none=> .fail)
 | .buildSlice t n ps=>(match C.D t with
  | some ti=>(match ti.kind with
   | .slice e=>(match C.D e with
    | some i=>if Nat.beq n 0 then (if ps.size=0 then .ret (.nil i.size) [] [] else .fail) else
     if i.kind.known && Nat.blt 0 i.size && Nat.ble (n * i.size) 16777216 then (match jc0 (zeroV C e i) with
     | some z=> .chk (z.all j9) (jjq C e i st (ps.toList.map λp=>(p.1,ρ p.2)) [] [] [] λparts r ws=>
       if jeG n parts then .ret (.row nid) (.fresh nid::r) (ws++[.obj nid (.row i.size (setRows (List.replicate n z) parts))]) else .fail)
     | none=> .fail) else .fail
    | none=> .fail)
   | _=> .fail)
  | none=> .fail)
 | .indexAddr t x ix=>(match C.D t with
  | some ti=>(match ti.kind with
   | .slice e=>(match C.D e,ρ x,dat (ρ ix) with
    | some i,.row id,some b=>(match st id with
     | .row k xs=>if Nat.beq k i.size then .nat (Q4 (jB xs) b) λn=> .ret (.rptr id n i.size 0) [.len id i.size xs.length] [] else .fail
     | _=> .fail)
    | some i,.win id k off n,some b=>(match st id with
     | .row k' xs=>if Nat.beq k' i.size && Nat.beq k i.size then .nat (Q4 n b) λj=> .ret (.rptr id (jCl off j) i.size 0) [.len id i.size xs.length] [] else .fail
     | _=> .fail)
    | _,_,_=> .fail)
   | _=> .fail)
  | none=> .fail)
 | .slice t x lo hi none=>(match C.D t with
  | some ti=>(match ti.kind with
   | .slice e=>(match C.D e,ρ x,(match lo with|none=>some none|some y=>(dat (ρ y)).map some),(match hi with|none=>some none|some y=>(dat (ρ y)).map some) with
    | some i,.win id k off n,some l,some h=>jC9 st i.size (.win id k off n) l h
    | some i,.nil _,some l,some h=> .nat (pB 0 0 h) λh'=> .nat (pLo h' l) λ_=> .ret (.nil i.size) [] []
    | some i,.row id,some l,some h=>if C.win then jC9 st i.size (.row id) l h else (match st id with
     | .row k xs=>if Nat.beq k i.size then .bnd (zZ i.size (.sl i.size xs) l h) λr=> .ret (.d r) [.obj id (.row i.size xs)] [.obj id (.fro i.size xs)] else .fail
     | _=> .fail)
    | _,_,_,_=> .fail)
   | _=> .fail)
  | none=> .fail)
 | .slice t x (some l) (some h) (some m)=>if !jiI l h m then (match C.D t with
  | some ti=>(match ti.kind with
   | .slice e=>(match C.D e,jgk st (ρ x),dat (ρ l),dat (ρ h),dat (ρ m) with
    | some i,some p,some l',some h',some m'=>if Nat.beq p.k i.size then .nat (pB 0 (yq p.xs p.off) (some m')) λmm=> .nat (pB 0 mm (some h')) λhh=> .nat (pB 0 hh (some l')) λ_=> .ret .top [.len p.id p.k p.xs.length] [] else .fail
    | _,_,_,_,_=> .fail)
   | _=> .fail)
  | none=> .fail) else (match C.D t,ρ l,ρ h,ρ m with
  | some ti,.d (.val (.int _ 0)),.d (.val (.int _ 0)),.d (.val (.int _ 0))=>(match ti.kind with
   | .slice e=>(match C.D e,ρ x with
    | some i,.d a=> .rows (jeX i.size a) λ_=> .ret (.nil i.size) [] []
    | _,_=> .fail)
   | _=> .fail)
  | _,_,_,_=> .fail)
 | .build t ps=>(match C.D t with
  | some i=>(match i.kind with
   | .struct fs=>if Qy C fs then jjr C t (ZJ C fs (ps.toList.map λp=>(p.1,ρ p.2))) (zeroV C t i) λcs=> .ret (.agg cs) [] [] else .fail
   | _=> .fail)
  | none=> .fail)
 | .call c=>(match c.callee with
  | .builtin .append=>(match c.args.toList,c.argTypes.toList with
   | [s,x],[t,t']=>if jsy C t' then (match C.D t with
    | some ti=>(match ti.kind with
     | .slice e=>(match C.D e with
      | some i=>(match ρ s,dat (ρ x),jc0 (zeroV C e i) with
       | .nil _,some a,some z=> .nat (jjn i.bytes a a) λl=> .chk (jW l i.bytes) (.chk (z.all j9) (.ret (.row nid) [.fresh nid] [.obj nid (.row i.size (Jp l z))]))
       | _,_,_=> .fail)
      | none=> .fail)
     | _=> .fail)
    | none=> .fail) else if Nat.beq t t' then (match C.D t with
    | some ti=>(match ti.kind with
     | .slice e=>(match C.D e with
      | some i=>(match ρ s with
       | .nil _=>jwC st i.size (ρ x) λys r=> .chk (jW (jB ys) i.bytes) (.ret (.row nid) (.fresh nid::r) [.obj nid (.row i.size ys)])
       | .row id=>(match st id with
        | .row k us=>if Nat.beq k i.size && !Nat.beq nid id then jwC st i.size (ρ x) λys r=> .chk (jW (jB us+jB ys) i.bytes) (.ret (.row nid) (.fresh nid:: .obj id (.row i.size us)::r) [.obj id .gone,.obj nid (.row i.size (kq us ys))]) else .fail
        | _=> .fail)
       | .win id k off n=>(match jgk st (.win id k off n) with
        | some p=>if Nat.beq p.k i.size then jwC st i.size (ρ x) λys r=> .chk (jqE p.off p.n ys p.xs) (.ret (.win p.id p.k p.off (jCl p.n (yU ys))) (.obj p.id (.row p.k p.xs)::r) [.obj p.id (.row p.k (qj p.xs (jCl p.off p.n) ys))]) else .fail
        | none=> .fail)
       | _=> .fail)
      | none=> .fail)
     | _=> .fail)
    | none=> .fail) else .fail
   | _,_=> .fail)
  | .builtin .cap=>(match c.args.toList,c.argTypes.toList with
   | [x],[t]=>(match C.D t with
    | some ti=>(match ti.kind with
     | .slice _=>(match ρ x with
      | .nil _=> .ret (.d (vi 0)) [] []
      | _=> .fail)
     | _=> .fail)
    | none=> .fail)
   | _,_=> .fail)
  | .builtin .copy=>(match c.args.toList,c.argTypes.toList with
   | [s,x],[t,_]=>(match C.D t with
    | some ti=>(match ti.kind with
     | .slice e=>(match C.D e,jgk st (ρ s) with
      | some i,some p=>if Nat.beq p.k i.size then jwC st i.size (ρ x) λys r=> .ret (.d (jwh ys p.n)) (.obj p.id (.row p.k p.xs)::r) [.obj p.id (.row p.k (qj p.xs p.off (jlz ys p.n)))] else .fail
      | _,_=> .fail)
     | _=> .fail)
    | none=> .fail)
   | _,_=> .fail)
  | .builtin .clear=>(match c.args.toList,c.argTypes.toList with
   | [x],[t]=>(match C.D t with
    | some ti=>(match ti.kind with
     | .slice e=>(match C.D e,jgk st (ρ x) with
      | some i,some p=>if Nat.beq p.k i.size then (match jc0 (zeroV C e i) with
       | some z=> .chk (z.all j9) (.ret (.tup []) [.obj p.id (.row p.k p.xs)] [.obj p.id (.row p.k (qj p.xs p.off (Jp p.n z)))])
       | none=> .fail) else .fail
      | _,_=> .fail)
     | _=> .fail)
    | none=> .fail)
   | _,_=> .fail)
  | .value f=>(match ρ f with
   | .fn g caps=>(match C.sig g with
    | some sgs=>if C.sl g && !C.stf g then jjN C st g (Yq C.D c.argTypes.toList (c.args.toList.map ρ)++caps) else if C.rd g then js6 (C.th g) st nid g sgs (Yq C.D c.argTypes.toList (c.args.toList.map ρ)++caps) else match jAE (Yq C.D c.argTypes.toList (c.args.toList.map ρ)++caps) with|some p=>juW st g sgs p|none=>match juh st sgs (Yq C.D c.argTypes.toList (c.args.toList.map ρ)++caps) with|some q=>jpr g sgs q|none=>if C.th g then ji0 (C.kn g) st nid g sgs (Yq C.D c.argTypes.toList (c.args.toList.map ρ)++caps) else jtl (C.kn g) st nid g sgs (Yq C.D c.argTypes.toList (c.args.toList.map ρ)++caps)
    | none=> .fail)
   | _=> .fail)
  | _=> .fail)
 | _=> .fail
section
variable {P:Program} {X:Ctx} {o:Oper} {ρ:Operand->V} {C:Cfg} {M:Node->Option Out} {st:jC}
theorem jk4 {w:World} {O:Nat->Prop} {k:Nat} :∀(parts:List (Nat × List A)) (vals:List (Nat × Value)) (rows:List (List A)) (cells:Array Value),parts.map Prod.fst=vals.map Prod.fst->
  (∀(n:Nat) (p:Nat × List A) (v:Nat × Value),parts[n]? = some p->vals[n]? = some v->p.2.length=k/\p.1 < rows.length/\jG w O p.2 v.2.cells.toList/\jA v.2.cells.toList)->(∀x∈rows,x.length=k)->jG w O rows.flatten cells.toList->jA cells.toList->
  ∃cells',Instr.fill (λq=>some (q * k,k)) cells vals=some cells'/\jG w O (setRows rows parts).flatten cells'.toList/\jA cells'.toList/\(∀x∈setRows rows parts,x.length=k)/\(setRows rows parts).length=rows.length
 | [],vals,rows,cells,h1,_,h3,h4,h5=>by
  have hv:vals = []:=by simpa using h1.symm
  subst hv;exact ⟨cells,rfl,h4,h5,h3,rfl⟩
 | (q,ds)::parts,[],rows,cells,h1,_,_,_,_=>by simp at h1
 | (q,ds)::parts,(q',u)::vals,rows,cells,h1,h2,h3,h4,h5=>by
  simp only [yH,Ju] at h1;obtain ⟨rfl,h1⟩:=h1;obtain ⟨a1,a2,a3,a4⟩:=h2 0 (q,ds) (q,u) rfl rfl;simp only at a1 a2 a3 a4;have l1:=kC a3;have l2:=kC h4;rw [qv h3] at l2;simp only [jfh] at l1 l2;have hfit:q * k+k<=rows.length * k:=by
   have:(q+1) * k<=rows.length * k:=jcC k a2;rwa [qf,Nat.one_mul] at this
  simp only [Instr.fill];rw [jo (by simp;omega)];have hz:(u.cells.zipIdx.foldl (λ(cs:Array Value) (p:Value × Nat)=>cs.setIfInBounds (q * k+p.2) p.1) cells).toList=over cells.toList (q * k) u.cells.toList:=by
   have:=KW (off:=q * k) u.cells.toList 0 cells (by simp;omega)
   rw [<-Array.foldl_toList,Array.toList_zipIdx];simpa [over] using this
  have hx:∃x,rows[q]? = some x:=⟨_,zk a2⟩;obtain ⟨x,hx⟩:=hx;have hxl:=h3 x (Jq hx);have hov:over x 0 ds=ds:=by
   unfold over;rw [jmc (by omega)];simp
  have hfl:(rows.set q ds).flatten=over rows.flatten (q * k) ds:=by
   have:=Zm rows q 0 x ds h3 hx (by omega);rw [hov] at this;simpa using this
  obtain ⟨cells',g1,g2,g3,g4,g5⟩:=jk4 parts vals (rows.set q ds) (u.cells.zipIdx.foldl (λ(cs:Array Value) (p:Value × Nat)=>cs.setIfInBounds (q * k+p.2) p.1) cells) h1
   (λn p v hp hv=>by
    have:=h2 (n+1) p v (by simpa using hp) (by simpa using hv);simpa using this)
   (λy hy=>by rcases jox hy with hy|rfl;exact h3 y hy;exact a1) (by rw [hz,hfl];exact jcP h4 a3) (by rw [hz];exact jA.over h5 a4 _)
  exact ⟨cells',g1,g2,g3,g4,by simpa [setRows] using g5⟩
def jm4 (ps:List (Nat × V)) (st:jC) (i:TI) (acc:List (Nat × List A)) (r:List Rd) (ws:List Wr):Prop:=
 ps.map Prod.fst=acc.map Prod.fst/\(∀x∈r,yI st x)/\(∀(n:Nat) p q,ps[n]? = some p->acc[n]? = some q-> ∃vs r' ws',jcD p.2 vs/\jkQ vs/\JJ st vs=some (q.2,r',ws')/\(∀x∈r',x∈r)/\(∀x∈ws',x∈ws)/\q.2.length=i.size)/\
  (∀st':jC,(∀x∈r,yI st' x)->jei st' ws)
theorem jcD.nilV {t:Nat} {v:V} {ds:List V} (h:jcD (nilV C.D t v) ds):jcD v ds:=λw O m u hu=>h w O m u (qL hu)
theorem jlw {e:Nat} {i:TI} {k:List (Nat × List A)->List Rd->List Wr->LX} :∀(ps:List (Nat × V)) (done:List (Nat × V)) (acc:List (Nat × List A)) (r:List Rd) (ws:List Wr),jm4 done st i acc r ws->
  (∀acc r ws,jm4 (done++ps) st i acc r ws->yE P X M o ρ st (k acc r ws))->yE P X M o ρ st (jjq C e i st ps acc r ws k)
 | [],done,acc,r,ws,hd,hk=>by simpa [jjq] using hk acc r ws (by simpa using hd)
 | (q,v)::ps,done,acc,r,ws,hd,hk=>by
  simp only [jjq];refine YC λvs h1 h2 h3=> ?_;cases hs:JJ st vs with
  | none=>trivial
  | some x=>
   obtain ⟨ds,r',ws'⟩:=x;simp only;split
   .rename_i hl;refine jlw ps (done++[(q,v)]) _ _ _ ?_ (by simpa using hk);obtain ⟨d1,d2,d3,d4⟩:=hd;have hlen:done.length=acc.length:=by simpa using congrArg List.length d1
    refine ⟨by simp [d1],λx hx=> ?_,λn p qq hp hq=> ?_,λst' hg=> ?_⟩
    .rcases zh.1 hx with hx|hx
     .exact d2 x hx
     .exact ZA hs x hx
    .by_cases hn:n < done.length
     .rw [Je hn] at hp;rw [Je (by omega)] at hq;obtain ⟨vs',r2,ws2,e1,e2,e3,e4,e5,e6⟩:=d3 n p qq hp hq;exact ⟨vs',r2,ws2,e1,e2,e3,λx hx=>by simp [e4 x hx],λx hx=>by simp [e5 x hx],e6⟩
     .rw [Kv (by omega)] at hp hq;have hn0:n - done.length=0:=by
       have:=(qM.1 hp).1;simp at this;omega
      rw [hn0] at hp;rw [show n - acc.length=0 by omega] at hq;simp only [qk,kL] at hp hq;subst hp hq;exact ⟨vs,r',ws',h1.nilV,h2,hs,λx hx=>by simp [hx],λx hx=>by simp [hx],kU hl⟩
    .intro y hy;rcases zh.1 hy with hy|hy
     .exact d4 st' (λx hx=>hg x (by simp [hx])) y hy
     .exact Kt hs (λx hx=>hg x (by simp [hx])) y hy
   .trivial
theorem jlx (hD:Jn C.P C.D) {s:Nat} {k:List V->LX} :∀(ps:List (Nat × V)) (cs:List V),(∀cs',(∀(w:World) (O:Nat->Prop) (m:zu) (vals:List (Nat × Value)) (cells:Array Value),jv w O m cs cells.toList->ps.map Prod.fst=vals.map Prod.fst->jv w O m (ps.map Prod.snd) (vals.map Prod.snd)->
   ∃cells',Instr.fill (λq=>(zU C s q).map λx=>(x.1,x.2.size)) cells vals=some cells'/\jv w O m cs' cells'.toList)->yE P X M o ρ st (k cs'))->yE P X M o ρ st (jjr C s ps cs k)
 | [],cs,hk=>by
  simp only [jjr];refine hk cs λw O m vals cells h1 h2 _=> ?_;have hv:vals = []:=by simpa using h2.symm
  subst hv;exact ⟨cells,rfl,h1⟩
 | (q,v)::ps,cs,hk=>by
  simp only [jjr];cases hf:zU C s q with
  | none=>trivial
  | some x=>
   obtain ⟨off,j⟩:=x;simp only;refine YC λds h1 h2 h3=> ?_;split
   .rename_i hl;simp only [ju,Qm] at hl;have hl1:=kU hl.1;refine jlx hD ps (over cs off ds) λcs' hcs=>hk cs' λw O m vals cells g1 g2 g3=> ?_;cases vals with
    | nil=>simp at g2
    | cons y vals=>
     obtain ⟨q',u⟩:=y;simp only [yH,Ju] at g2;obtain ⟨rfl,g2⟩:=g2;simp only [yH,jv,Ju] at g3;obtain ⟨u',rr,⟨rfl,rfl⟩,g4,g5⟩:=g3;obtain ⟨k1,k2⟩:=h1 w O m u g4;have l1:=zW k1;have l2:=zW g1;simp only [jfh] at l1 l2;simp only [Instr.fill,hf,K5];rw [jo (by simp;omega)];have hz:(u.cells.zipIdx.foldl (λ(cs:Array Value) (p:Value × Nat)=>cs.setIfInBounds (off+p.2) p.1) cells).toList=over cells.toList off u.cells.toList:=by
      have:=KW (off:=off) u.cells.toList 0 cells (by simp;omega)
      rw [<-Array.foldl_toList,Array.toList_zipIdx];simpa [over] using this
     refine hcs w O m vals (u.cells.zipIdx.foldl (λ(cs:Array Value) (p:Value × Nat)=>cs.setIfInBounds (off+p.2) p.1) cells) ?_ g2 g5;rw [hz];exact jjE g1 k1
   .trivial
theorem jhC {w:World} {O:Nat->Prop} :∀ {as:List A} {us:List Value},jG w O as us->as.all j9=true->jA us
 | [],us,h,_=>by simp only [jG] at h;subst h;intro v hv;cases hv
 | a::as,us,h,hk=>by
  simp only [jG,yC,ju] at h hk;obtain ⟨v,t,rfl,e1,e2⟩:=h;intro y hy;rcases j7.1 hy with rfl|hy
  .exact je3 e1 hk.1
  .exact jhC e2 hk.2 y hy
theorem run_buildSlice (hD:Jn P C.D) {t:TypeId} {n:Nat} {ps:Array (Nat × Operand)} {ev:Operand->Value} (ho:o.op = .buildSlice t n ps) {e:Nat} (ht:P.underlying t=some (.slice e)) {i:TI} (hi:C.D e=some i) (hpos:0 < i.size) (hn:0 < n) (hb:n * i.size<=16777216)
  {cells':Array Value} (hf:Instr.fill (λq=>some (q * i.size,i.size)) ((Array.range (n * i.size)).map (λq=>i.zero.cells[q % i.zero.cells.size]!)) (ps.toList.map λp=>(p.1,ev p.2))=some cells') (w:World) :
  (execOp ev o).run P w = .ok (.value (.slice (some ⟨w.heap.size,0,none⟩) n n)) (w.alloc (.cells cells' e)):=by
 have hok:=hD e i hi;have hnb:¬(n * i.size > 2 ^ 24):=by omega
 have h0:¬n * i.size=0:=by
  have:=Nat.mul_pos hn hpos;omega
 have hparts:(ps.map λ(p:Nat × Operand)=>(p.1,ev p.2)).toList=ps.toList.map λp=>(p.1,ev p.2):=by simp
 have hrun:(Instr.buildSlice t n (ps.map λ(p:Nat × Operand)=>(p.1,ev p.2))).run P w = .ok (.slice (some ⟨w.heap.size,0,none⟩) n n) (w.alloc (.cells cells' e)):=by
  simp only [Instr.buildSlice,zs,kP ht,zn,hok.run_sizeOf w,jo hnb,jo h0,hok.run_zero w,hparts,zD,hf,newRow,run_newObj_alloc]
 simp only [execOp,ho];show ((do pure (.value (<-Instr.buildSlice t n (ps.map λ(p:Nat × Operand)=>(p.1,ev p.2)))):Sem Next)).run P w=_;simp only [zs,hrun,zn,zD]
theorem jhn (hD:Jn P C.D) {t:TypeId} {ps:Array (Nat × Operand)} {ev:Operand->Value} (ho:o.op = .buildSlice t 0 ps) (hps:ps = #[]) {e:Nat} (ht:P.underlying t=some (.slice e)) {i:TI} (hi:C.D e=some i) (w:World) :
  (execOp ev o).run P w = .ok (.value (.slice (some ⟨w.heap.size,0,none⟩) 0 0)) (w.alloc (.cells #[] e)):=by
 subst hps;have hok:=hD e i hi;have hrun:(Instr.buildSlice t 0 #[]).run P w = .ok (.slice (some ⟨w.heap.size,0,none⟩) 0 0) (w.alloc (.cells #[] e)):=by
  simp [Instr.buildSlice,kP ht,hok.run_sizeOf w,Instr.fill,newRow,Array.range_zero']
 simp only [execOp,ho];have e0:(#[]:Array (Nat × Operand)).map (λx=>(x.1,ev x.2)) = #[]:=by simp
 rw [e0];simp only [zs,hrun,zn,zD]
theorem jl7 {w:World} {O:Nat->Prop} {i:TI} {z:List A} (hz:jG w O z i.zero.cells.toList) (hsz:i.zero.cells.size=i.size) (hpos:0 < i.size):∀n,jG w O (List.replicate n z).flatten ((Array.range (n * i.size)).map (λq=>i.zero.cells[q % i.zero.cells.size]!)).toList:=by
 intro n;have key:((Array.range (n * i.size)).map (λq=>i.zero.cells[q % i.zero.cells.size]!)).toList=(List.replicate n i.zero.cells.toList).flatten:=by
  apply Ye;intro q;simp only [jd0,jkb,yu];by_cases hq:q < n * i.size
  .rw [jbf hq];have hzl:i.zero.cells.toList.length=i.size:=by simpa using hsz
   have h1:(List.replicate n i.zero.cells.toList).flatten[q]? = i.zero.cells.toList[q % i.size]? :=by
    clear hz;induction n generalizing q with
    | zero=>simp at hq
    | succ n ih=>
     rw [Qf,J5];by_cases hq2:q < i.size
     .rw [Je (by omega),Nat.mod_eq_of_lt hq2]
     .have hq3:q - i.size < n * i.size:=by
       rw [qf,Nat.one_mul] at hq;omega
      have hm2:=Nat.mod_eq_sub_mod (a:=q) (b:=i.size) (by omega);rw [Kv (by omega),hzl,ih (q - i.size) hq3,<-hm2]
   have hm:q % i.size < i.zero.cells.size:=by rw [hsz];exact Nat.mod_lt _ hpos
   rw [h1,hsz];simp only [K5];rw [Qj i.zero.cells (q % i.size) hm];simp [Qk,K4 hm]
  .rw [yW (by simp;omega),yW (by simp [joz,hsz];omega)]
   rfl
 rw [key];induction n with
 | zero=>simp [jG]
 | succ n ih=>simp only [Qf,J5];exact zy hz (ih (by
   apply Ye;intro q;simp only [jd0,jkb,yu];by_cases hq:q < n * i.size
   .have:=congrArg (λl=>l[q]?) key;simp only [jd0,jkb,yu] at this;rw [jbf (by rw [qf];omega)] at this;rw [jbf hq,this];have e:(List.replicate (n+1) i.zero.cells.toList).flatten=(List.replicate n i.zero.cells.toList).flatten++i.zero.cells.toList:=by
     rw [List.replicate_succ',List.flatten_append];simp
    rw [e,Je (by simp [joz,hsz];omega)]
   .rw [yW (by simp;omega),yW (by simp [joz,hsz];omega)]
    rfl))
end
end
noncomputable section
section
variable {X:Ctx} {o:Oper} {ρ:Operand->V} {C:Cfg} {M:Node->Option Out} {st:jC}
theorem jhJ {P:Program} {k:Nat} {v:V} {kk:List (List A)->List Rd->LX}
  (h:∀ys r,(∀x∈r,yI st x)->(∀(w:World) (O0:Nat->Prop) (m:zu) (st':jC) (u:Value),Sto X w O0 m st'->(∀x∈r,yI st' x)->relV w (Ow O0 m st') m v u->jc3 w (Ow O0 m st') k ys u)->yE P X M o ρ st (kk ys r)) :
  yE P X M o ρ st (jwC st k v kk):=by
 unfold jwC;split
 .refine h [] [] (by simp) λw O0 m st' u hs _ hr=> ?_;simp only [relV] at hr;exact jCT hr
 .rename_i a;intro ys hys;unfold jeX at hys;split at hys
  .split at hys
   .rename_i hk;subst hk;cases hys;refine h _ [] (by simp) λw O0 m st' u hs _ hr=> ?_;simp only [relV] at hr;exact jrn hr
   .cases hys
  .cases hys
 .rename_i id;split
  .rename_i k' ys hst;split
   .rename_i hk;have hk:=kU hk;subst hk;refine h ys _ (by simpa [yI] using hst) λw O0 m st' u hs hg hr=> ?_;obtain ⟨hd,q1,q2,q3⟩:=jjJ hs (hg _ (zi.2 rfl)) hr;exact jCU q3 q2
   .trivial
  .rename_i k' ys hst;split
   .rename_i hk;have hk:=kU hk;subst hk;refine h ys _ (by simpa [yI] using hst) λw O0 m st' u hs hg hr=> ?_;exact jrn (ZG hs (hg _ (zi.2 rfl)) hr)
   .trivial
  .trivial
 .split
  .rename_i p hp;split
   .rename_i hk;have hk:=kU hk;subst hk;have hok:=K1 (X:=X) hp;refine h _ _ (by simpa [yI] using hok.1) λw O0 m st' u hs hg hr=> ?_;have hid:st' p.id = .row p.k p.xs:=hg _ (zi.2 rfl);obtain ⟨hd,xs',e1,e2,e3,e4,e5⟩:=hok.2 w O0 m st' u hs ⟨p.xs,hid,rfl⟩ hr;rw [hid] at e2;cases e2;exact jCV e5 e4
   .trivial
  .trivial
 .trivial
theorem ju2 {P:Program} {t:TypeId} {x:Operand} {lo hi:Option Operand} (ho:o.op = .slice t x lo hi none) {e:Nat} (ht:P.underlying t=some (.slice e)) {i:TI} (hi':TI.ok P e i)
  {alo ahi:Option A} (hlo:∀y,lo=some y-> ∃a,alo=some a/\dat (ρ y)=some a) (hlo0:lo=none->alo=none) (hhi:∀y,hi=some y-> ∃a,ahi=some a/\dat (ρ y)=some a) (hhi0:hi=none->ahi=none) :
  yE P X M o ρ st (jC9 st i.size (ρ x) alo ahi):=by
 unfold jC9;split
 .rename_i p hp;split
  .rename_i hk;have hk:=kU hk;intro h' hh' l' hl';rw [jz3] at hl';exact ⟨zo.winSlice ho ht hi' hp hk hlo hlo0 hhi hhi0 hh' hl',by simpa [yI] using ⟨_,(K1 (X:=X) hp).1,rfl⟩⟩
  .trivial
 .trivial
theorem jgW {id:Nat} :∀ {ws:List Wr},jnO id ws=true-> ∀k xs,Wr.obj id (.fro k xs) ∉ ws
 | [],_,_,_,h=>by cases h
 | w::ws,hn,k,xs,h=>by
  simp only [jnO,ju,JO] at hn;rcases j7.1 h with rfl|h
  .simp [Wr.id] at hn
  .exact jgW hn.2 k xs h
theorem jeH {n:Nat} :∀ {ps:List (Nat × List A)},jeG n ps=true-> ∀p∈ps,p.1 < n
 | [],_,_,h=>by cases h
 | (q,ds)::ps,hn,p,h=>by
  simp only [jeG,ju,Qi] at hn;rcases j7.1 h with rfl|h
  .exact hn.1
  .exact jeH hn.2 p h
theorem jf3 {n b:Nat} (h:jW n b=true):n * b<=140737488355328/\n<=9223372036854775807:=by
 unfold jW at h;simpa using h
theorem zo.buildSlice (hD:Jn C.P C.D) {t:TypeId} {n:Nat} {ps:Array (Nat × Operand)} (ho:o.op = .buildSlice t n ps) {e:Nat} (ht:C.P.underlying t=some (.slice e)) {i:TI} (hi:C.D e=some i) (hpos:0 < i.size) (hn:0 < n) (hb:n * i.size<=16777216)
  {z:List A} (hz:jc0 (zeroV C e i)=some z) (hzo:z.all j9=true) {parts:List (Nat × List A)} {r:List Rd} {ws:List Wr} {st0:jC} (hp:jm4 (ps.toList.map λp=>(p.1,ρ p.2)) st0 i parts r ws) (hr:jeG n parts=true) {nid:Nat} :
  zo C.P X o ρ ⟨.row nid,.fresh nid::r,ws++[.obj nid (.row i.size (setRows (List.replicate n z) parts))]⟩:=by
 intro w O0 m st ev hs hg hrel _hc;obtain ⟨d1,d2,d3,d4⟩:=hp;have hgr:∀x∈r,yI st x:=λx hx=>hg x (by simp [hx]);have hab:=d4 st hgr;obtain ⟨a1,a2,a3,a4,a5⟩:=juQ ws st hs hab;have hfr:st nid = .dead:=hg (.fresh nid) (by simp);have hfr':kV st ws nid = .dead:=by
  rw [a5 nid λk xs h=> ?_]
  .exact hfr
  .obtain ⟨id,k',xs',e1,e2⟩:=hab _ h;cases e1;rw [hfr] at e2;rcases e2 with e2|e2<;>cases e2
 have hkeep:∀id k xs,st id = .fro k xs->kV st ws id = .fro k xs:=by
  intro id k xs h;by_cases hin:∃k' xs',Wr.obj id (.fro k' xs')∈ws
  .obtain ⟨k',xs',hin⟩:=hin;rw [a4 id k' xs' hin];obtain ⟨id2,k2,xs2,e1,e2⟩:=hab _ hin;cases e1;rw [h] at e2;rcases e2 with e2|e2<;>cases e2<;>rfl
  .rw [a5 id λk' xs' h'=>hin ⟨k',xs',h'⟩,h]
 have hok:=hD e i hi;have hzr:jG w (Ow O0 m (kV st ws)) z i.zero.cells.toList:=JW (m:=m) hz (Jc e i);have hlen:ps.toList.length=parts.length:=by simpa using congrArg List.length d1
 have hfill:=jk4 (w:=w) (O:=Ow O0 m (kV st ws)) (k:=i.size) parts (ps.toList.map λp=>(p.1,ev p.2)) (List.replicate n z) ((Array.range (n * i.size)).map (λq=>i.zero.cells[q % i.zero.cells.size]!))
  (by rw [<-d1,Jf,Jf];rfl)
  (λq p v hq hv=>by
   have hv':∃pp,ps.toList[q]? = some pp/\v=(pp.1,ev pp.2):=by
    rw [yu,yP] at hv;obtain ⟨pp,h1,h2⟩:=hv;exact ⟨pp,h1,h2.symm⟩
   obtain ⟨pp,hpp,rfl⟩:=hv';obtain ⟨vs,r',ws',e1,e2,e3,e4,e5,e6⟩:=d3 q (pp.1,ρ pp.2) p (by rw [yu,hpp];rfl) hq;have hmem:pp.2∈o.op.operands:=by
    rw [ho];simp only [Op.operands];have:=Jq hpp;simpa using ⟨pp.1,by simpa using this⟩
   obtain ⟨k1,k2⟩:=e1 _ _ _ _ (hrel _ hmem);have k3:=YH (st0:=st0) (st:=st) (st1:=kV st ws) a1 a3 e3 (λx hx=>hgr x (e4 x hx)) (λid k xs hm=>a4 id k xs (e5 _ hm)) hkeep k1;exact ⟨e6,by have:=jeH hr p (Jq hq);simpa using this,k3,k2⟩)
  (λx hx=>by rw [(joA.1 hx).2,<-kC hzr];simpa using hok.zsize)
  (jl7 hzr hok.zsize hpos n)
  (by
   have h1:=jl7 hzr hok.zsize hpos n;refine jhC h1 ?_;rw [qm];intro x hx;obtain ⟨y,hy,hxy⟩:=jkc.1 hx;rw [(joA.1 hy).2] at hxy;exact qm.1 hzo x hxy)
 obtain ⟨cells',f1,f2,f3,f4,f5⟩:=hfill;rw [run_buildSlice hD ho ht hi hpos hn hb f1 w];have hn63:n<=16777216:=qN (Nat.le_mul_of_pos_right n hpos) hb;have hcs:cells'.toList.length=n * i.size:=by
  rw [kC f2,qv f4,f5];simp
 have hl:(setRows (List.replicate n z) parts).length=n:=by rw [f5];simp
 have htk:cells'.toList.take (n * i.size)=cells'.toList:=ql (by omega);refine YL.after (X:=X) a2 (JE a1 (Kw w _) hfr' (hd:= .blk w.heap.size n n) rfl (Or.inr ⟨n,cells',e,by rw [hl],by rw [JK];omega,by rw [hl];exact kD _,by omega,f4,heap_alloc_new w _,?_,?_,?_⟩))
 .simpa using hcs
 .rw [hl,htk];exact f3
 .rw [hl,htk];exact f2
theorem jel {P:Program} {o':Out} :∀(n i:Nat) (k:List A->LX),(∀as,as.length=n->(∀j a,as[j]? = some a->hD o' (i+j)=some a)->yE P X M o ρ st (k as))->yE P X M o ρ st (jo6 o' n i k)
 | 0,i,k,h=>h [] rfl (by simp)
 | n+1,i,k,h=>by
  intro a ha;refine jel n (i+1) _ λas hl has=>h (a::as) (by simp [hl]) λj b hb=> ?_;cases j with
  | zero=>simp at hb;subst hb;exact ha
  | succ j=>have:=has j b (by simpa using hb);rwa [show i+1+j=i+(j+1) by omega] at this
theorem jem {P:Program} {o':Out} :∀(ks:List Nat) (i:Nat) (k:List (List (List A))->LX),(∀rs,rs.length=ks.length->(∀(j:Nat) (r:List (List A)) (w:Nat),rs[j]? = some r->ks[j]? = some w->hR w o' (i+j)=some r)->yE P X M o ρ st (k rs))->yE P X M o ρ st (jo7 o' ks i k)
 | [],i,k,h=>h [] rfl (by simp)
 | w::ks,i,k,h=>by
  intro a ha;refine jem ks (i+1) _ λas hl has=>h (a::as) (by simp [hl]) λj b v hb hv=> ?_;cases j with
  | zero=>simp at hb hv;subst hb hv;exact ha
  | succ j=>have:=has j b v (by simpa using hb) (by simpa using hv);rwa [show i+1+j=i+(j+1) by omega] at this
theorem jaB {n:Nat} {sg:SigA} :∀ {l:Sig},jaa n l=some sg->sg.ws.length=n
 | [],h=>by cases h
 | s::l,h=>by
  simp only [jaa] at h;split at h
  .rename_i hb;cases h;exact kU hb
  .exact jaB h
theorem jwG (hS:StM X C M) {nid:Nat} {f:Operand} {xs:Array Operand} {ts:Array TypeId} (ho:o.op = .call { callee:= .value f,args:=xs,argTypes:=ts }) {g:FuncId} {caps:List V} (hf:ρ f = .fn g caps) {sgs:Sig} (hsig:C.sig g=some sgs) :
    yE C.P X M o ρ st (jtl (C.kn g) st nid g sgs (Yq C.D ts.toList (xs.toList.map ρ)++caps)):=by
  have mf:f∈o.op.operands:=by simp [ho,Op.operands,Call.operands]
  have mx:∀x∈xs.toList,x∈o.op.operands:=λx hx=>by simp [ho,Op.operands,Call.operands];exact Or.inr (by simpa using hx)
  unfold jtl;split;rotate_left
  . trivial
  rename_i ids vs2 objs p hprep;split;rotate_left
  . trivial
  rename_i sg halt;split;rotate_left
  . trivial
  rename_i hc;simp only [ju] at hc;intro out hout;have hp:=hS g vs2 objs sgs sg out hsig halt hout;refine jel _ _ _ λas la da=>jem _ _ _ λrs lr dr=> ?_;have main:yE C.P X M o ρ st (jof (ZH (jpf sg.ks as)) sg st nid ids p as rs):=by
   refine ⟨zo.stcall ho hp hprep hc.1 (jaB halt) (λw O0 m st' ev hs hr=> ?_) ⟨la,λi a h=>by simpa using da i a h,lr,λj r k h1 h2=>dr j r k h1 h2⟩,?_⟩
   . have hf':=hr f mf
     rw [hf] at hf';simp only [relV] at hf';obtain ⟨us,g1,g2⟩:=hf';have g3:=JG (w:=w) (O:=Ow O0 m st') (m:=m) (ρ:=ρ) (ev:=ev) xs.toList λx hx=>hr x (mx x hx);exact ⟨us,g1,yV (JH g3) g2⟩
   . intro r hr
     rcases List.mem_append.mp hr with hr|hr
     . exact jdy r hr
     . refine jeC (λid hid=> ?_) r hr
       have:=List.all_eq_true.mp hc.2 id hid;cases hst:st id<;>rw [hst] at this<;>first|rfl|cases this
  unfold jEc;unfold jpf at main;split
  . rename_i hci
    rw [hci] at main;exact main
  . rename_i i hci
    rw [hci] at main;have key:∀b,JB (as.getD i .top)=some b->ZH (as.getD i .top)=b:=λb hb=>by
      unfold JB at hb;split at hb
      . rename_i e;cases hb;rw [e];rfl
      . cases hb
    exact ⟨λh=>by have:=key _ h;simp only [this] at main;exact main,λh=>by have:=key _ h;simp only [this] at main;exact main⟩
theorem ju3:∀ {l:List Nat} {os:List Abs.Obj} {x:Wr},x∈jc2 l os->x.id∈l
 | [],_,x,h=>by simp only [jc2,jbn] at h
 | _::_,[],x,h=>by simp only [jc2,jbn] at h
 | id::l,o::os,x,h=>by
  simp only [jc2,j7] at h;rcases h with rfl|h
  .exact JP ..
  .exact Jw _ (ju3 h)
theorem jxB {k:LX} (xs ys:List V) (h:xs=ys->yE C.P X M o ρ st k):yE C.P X M o ρ st (jpb xs ys k):=by
 induction xs generalizing ys with
 | nil=>
  cases ys with
  | nil=>exact h rfl
  | cons y ys=>unfold jpb;exact trivial
 | cons x xs ih=>
  unfold jpb;split
  .rename_i h1;cases h1
  .rename_i a xs' b ys' h1;cases h1;exact λhe=>ih _ λe=>h (by rw [@jhd _ (Classical.propDecidable _) he,e])
  .trivial
theorem jBq {k:LX} :∀ {W:List Wr},((∀st',(∀x∈W,st' x.id=st x.id)->kV st' W=st')->yE C.P X M o ρ st k)->yE C.P X M o ρ st (jBp st W k):=by
 intro W h;induction W with
 | nil=>exact h λ_ _=>rfl
 | cons x W ih=>
  unfold jBp;split
  .rename_i h1;cases h1
  .rename_i i ys ws h1;cases h1;split
   .rename_i xs hst;refine jxB _ _ λe=>ih λh2=>h λst' h3=> ?_;have h4:app st' (.obj i (.box ys))=st':=by
     funext j;have h5:=h3 _ (JP ..);simp only [Wr.id] at h5;simp only [app,upd,Wr.id,Wr.on];cases hj:Nat.beq j i with
     | false=>rfl
     | true=>rw [kU hj,h5,hst,e];rfl
    show kV (app st' (.obj i (.box ys))) W=st';rw [h4];exact h2 st' λx hx=>h3 x (Jw _ hx)
   .trivial
  .trivial
theorem zo.look {P:Program} {v:V} {rds:List Rd} {W:List Wr} (h:zo P X o ρ ⟨v,rds,W⟩) (h2:∀st,(∀r∈rds,yI st r)->kV st W=st):zo P X o ρ ⟨v,rds,[]⟩:=by
 intro w O0 m st ev hs hg hr hc;have e:=h2 st hg;have hP:YL X w O0 m st [] v=YL X w O0 m st W v:=by
  funext a b;unfold YL;rw [e];rfl
 show Upon P (YL X w O0 m st [] v) w _;rw [hP];exact h w O0 m st ev hs hg hr hc
theorem jqd (hS:StM X C M) {nid:Nat} {f:Operand} {xs:Array Operand} {ts:Array TypeId} (ho:o.op = .call { callee:= .value f,args:=xs,argTypes:=ts }) {g:FuncId} {caps:List V} (hf:ρ f = .fn g caps) {sgs:Sig} (hsig:C.sig g=some sgs) :
  yE C.P X M o ρ st (ji0 (C.kn g) st nid g sgs (Yq C.D ts.toList (xs.toList.map ρ)++caps)):=by
 have mf:f∈o.op.operands:=by simp [ho,Op.operands,Call.operands]
 have mx:∀x∈xs.toList,x∈o.op.operands:=λx hx=>by simp [ho,Op.operands,Call.operands];exact Or.inr (by simpa using hx)
 unfold ji0;split;rotate_left
 .trivial
 rename_i ids vs2 objs p hprep;split;rotate_left
 .trivial
 rename_i sg halt;split;rotate_left
 .trivial
 rename_i hc;simp only [ju] at hc;intro out hout;have hp:=hS g vs2 objs sgs sg out hsig halt hout;refine jel _ _ _ λas la da=>jem _ _ _ λrs lr dr=>jBq λhw=> ?_;have hdead:∀id∈ups nid (p+sg.nw.length),st id = .dead:=λid hid=>by
  have:=List.all_eq_true.mp hc.2 id hid;cases hst:st id<;>rw [hst] at this<;>first|rfl|cases this
 refine ⟨zo.look (zo.stcall ho hp hprep hc.1 (jaB halt) (λw O0 m st' ev hs hr=> ?_) ⟨la,λi a h=>by simpa using da i a h,lr,λj r k h1 h2=>dr j r k h1 h2⟩) (λst' hg=>hw st' λx hx=> ?_),?_⟩
 .have hf':=hr f mf;rw [hf] at hf';simp only [relV] at hf';obtain ⟨us,g1,g2⟩:=hf';have g3:=JG (w:=w) (O:=Ow O0 m st') (m:=m) (ρ:=ρ) (ev:=ev) xs.toList λx hx=>hr x (mx x hx);exact ⟨us,g1,yV (JH g3) g2⟩
 .have hx:=ju3 hx;rcases List.mem_append.mp hx with hx|hx
  .exact jfS (st0:=st) (st:=st') (l:=ids) (λr hr=>hg r (Yd _ hr)) _ hx
  .rw [jcH (st:=st') (l:=ups nid (p+sg.nw.length)) (λr hr=>hg r (Qg _ hr)) _ hx,hdead _ hx]
 .intro r hr;rcases List.mem_append.mp hr with hr|hr
  .exact jdy r hr
  .exact jeC hdead r hr
theorem jBo {k:LX} {as:List A} (h:as.all ZQ=true->yE C.P X M o ρ st k):yE C.P X M o ρ st (jEY as k):=by
 induction as with
 | nil=>exact h rfl
 | cons a as ih=>intro ha;exact ih λhv=>h (by simp only [yC,ju];exact ⟨ha,hv⟩)
theorem jin {k:LX} :∀ {ks:List Nat} {rs:List (List (List A))},(jdv ks rs=true->yE C.P X M o ρ st k)->yE C.P X M o ρ st (jpa ks rs k)
 | [],[],h=>h rfl
 | [],_::_,h=>h rfl
 | _::_,[],h=>h rfl
 | kk::ks,r::rs,h=>by
  unfold jpa;split
  .rename_i hk;exact jin λhv=>h (by simp only [jdv,hk,yz,jI];exact hv)
  .intro hr;exact jin λhv=>h (by simp only [jdv,hr,Bool.or_true,jI];exact hv)
mutual
theorem jk5 {as:List A} (h:as.all ZQ=true):∀s:Sh,Zc (s.toV as)=true
 | .d i=>by
  simp only [Sh.toV,Zc];rw [qE];cases hi:as[i]? with
  | none=>rfl
  | some a=>exact qm.1 h a (Jq hi)
 | .row _=>rfl
 | .ptr _ _=>rfl
 | .agg l=>by simp only [Sh.toV,Zc];exact jdw h l
 | .tup l=>by simp only [Sh.toV,Zc];exact jdw h l
theorem jdw {as:List A} (h:as.all ZQ=true):∀l:List Sh,QR (Sh.toVL as l)=true
 | []=>rfl
 | s::l=>by simp only [Sh.toVL,QR,ju];exact ⟨jk5 h s,jdw h l⟩
end
theorem jwj {th:Bool} (hS:StM X C M) {nid:Nat} {f:Operand} {xs:Array Operand} {ts:Array TypeId} (ho:o.op = .call { callee:= .value f,args:=xs,argTypes:=ts }) {g:FuncId} {caps:List V} (hf:ρ f = .fn g caps) {sgs:Sig} (hsig:C.sig g=some sgs) :
  yE C.P X M o ρ st (js6 th st nid g sgs (Yq C.D ts.toList (xs.toList.map ρ)++caps)):=by
 have mf:f∈o.op.operands:=by simp [ho,Op.operands,Call.operands]
 have mx:∀x∈xs.toList,x∈o.op.operands:=λx hx=>by simp [ho,Op.operands,Call.operands];exact Or.inr (by simpa using hx)
 unfold js6;split
 .rename_i as0 rds sg hto halt;split
  .rename_i hc;simp only [ju] at hc;intro out hout;refine jel _ _ _ λas hla hda=>jem _ _ _ λrs hlr hdr=>jBo λhf1=>jin λhf2=> ?_;have hws:sg.ws = []:=jbd (jaB halt);have hp:=hS g (as0.map V.d) [] sgs sg out hsig halt hout;refine ⟨zo.rdcall ho hp hws (λw O0 m st' ev hs hg hr=> ?_) ⟨hla,λi a h=>by simpa using hda i a h,hlr,λj r k h1 h2=>hdr j r k h1 h2⟩ (jk5 hf1 _) hf2 hc.2,λr hr=> ?_⟩
   .have hf':=hr f mf;rw [hf] at hf';simp only [relV] at hf';obtain ⟨us,g1,g2⟩:=hf';have g3:=JG (w:=w) (O:=Ow O0 m st') (m:=m) (ρ:=ρ) (ev:=ev) xs.toList λx hx=>hr x (mx x hx);exact ⟨us,g1,ZV hs 60 _ (ZY 60 _ hto hg) (yV (JH g3) g2)⟩
   .rcases zh.1 hr with hr|hr
    .exact ZZ 60 _ hto r hr
    .refine jeC (λid hid=> ?_) r hr;have:=List.all_eq_true.mp hc.1 id hid;cases hst:st id<;>rw [hst] at this<;>first|rfl|cases this
  .trivial
 .trivial
theorem jrz {t:TypeId} {a x:Operand} (ho:o.op = .store t a x) {i:TI} (hi:TI.ok C.P t i) {id ii k j:Nat} {f:Bool} (ha:ρ a = .rptr id ii k j) {xs:List (List A)} (hst:st id = .tre f k xs) {vs:List V}
  (hx:∀(w:World) (O:Nat->Prop) (m:zu) (u:Value),relV w O m (ρ x) u->jv w O m vs u.cells.toList) (hl:j+i.size<=k):yE C.P X M o ρ st (jry st id ii k j i.size f xs vs):=by
 exact trivial
theorem jtt {nid:Nat} {t:TypeId} {x:Operand} (ho:o.op = .load t x) {i:TI} (hi:TI.ok C.P t i):yE C.P X M o ρ st (juY C.D nid st i (ρ x)):=by
 exact trivial
theorem jto (hS:StM X C M) {f:Operand} {xs:Array Operand} {ts:Array TypeId} (ho:o.op = .call { callee:= .value f,args:=xs,argTypes:=ts }) {g:FuncId} {caps:List V} (hf:ρ f = .fn g caps) {sgs:Sig} (hsig:C.sig g=some sgs) (p:List V × (Nat × Nat × Nat × Nat)) (hp0:jAE (Yq C.D ts.toList (xs.toList.map ρ)++caps)=some p) :
  yE C.P X M o ρ st (juW st g sgs p):=by
 exact trivial
theorem jps (hS:StM X C M) {f:Operand} {xs:Array Operand} {ts:Array TypeId} (ho:o.op = .call { callee:= .value f,args:=xs,argTypes:=ts }) {g:FuncId} {caps:List V} (hf:ρ f = .fn g caps) {sgs:Sig} (hsig:C.sig g=some sgs) (q:List V × Nat × Nat × List (List A)) (hp0:juh st sgs (Yq C.D ts.toList (xs.toList.map ρ)++caps)=some q) :
  yE C.P X M o ρ st (jpr g sgs q):=by
 exact trivial
theorem jrd (hM:ZL X C M) {f:Operand} {xs:Array Operand} {ts:Array TypeId} (ho:o.op = .call { callee:= .value f,args:=xs,argTypes:=ts }) {g:FuncId} {caps:List V} (hf:ρ f = .fn g caps) :
  yE C.P X M o ρ st (jjN C st g (Yq C.D ts.toList (xs.toList.map ρ)++caps)):=by
 have mf:f∈o.op.operands:=by simp [ho,Op.operands,Call.operands]
 have mx:∀x∈xs.toList,x∈o.op.operands:=λx hx=>by simp [ho,Op.operands,Call.operands];exact Or.inr (by simpa using hx)
 unfold jjN;split
 .rename_i as p hseal;split
  .rename_i hpure;intro out hout x hx;refine ⟨zo.sealmap ho hseal (hM g as out hpure hout) hx (λw O0 m st' ev hs hr=> ?_),jlP hseal⟩;have hf':=hr f mf;rw [hf] at hf';simp only [relV] at hf';obtain ⟨us,g1,g2⟩:=hf';have g3:=JG (w:=w) (O:=Ow O0 m st') (m:=m) (ρ:=ρ) (ev:=ev) xs.toList λx hx=>hr x (mx x hx);exact ⟨us,g1,yV (JH g3) g2⟩
  .trivial
 rename_i hnone;clear hnone;split
 .rename_i v hv;split
  .rename_i a r ws hseal;split
   .rename_i hpure;intro out hout x hx;refine ⟨zo.sealcall ho hseal (hM g [a] out hpure hout) hx (λw O0 m st' ev hs hr=> ?_),jwv hseal⟩;have hf':=hr f mf;rw [hf] at hf';simp only [relV] at hf';obtain ⟨us,g1,g2⟩:=hf';have g3:=JG (w:=w) (O:=Ow O0 m st') (m:=m) (ρ:=ρ) (ev:=ev) xs.toList λx hx=>hr x (mx x hx);refine ⟨us,g1,?_⟩;rw [<-hv];exact yV (JH g3) g2
   .trivial
  .trivial
 .trivial
theorem jpJ (hD:Jn C.P C.D) {t:Nat} (h:jsy C t=true):∃k,C.P.underlying t=some (.int k):=by
 unfold jsy at h;split at h
 .rename_i i hi;split at h
  .rename_i k hk;exact ⟨k,ko hD hi hk⟩
  .cases h
 .cases h
theorem jvo (hD:Jn C.P C.D) (hM:ZL X C M) (hS:StM X C M) (nid:Nat) (hnid:st nid = .dead):yE C.P X M o ρ st (evL C o ρ st nid):=by
 have hfresh:∀x ∈ [Rd.fresh nid],yI st x:=by simpa [yI] using hnid
 unfold evL;split
 .rename_i t x ho;split
  .rename_i i hi;split
   .refine YC λds h1 h2 h3=>⟨zo.box ho (λw O m u hu=>qL hu) h1,hfresh⟩
   .trivial
  .trivial
 .rename_i t ho;split
  .rename_i i hi;refine ZN λh1 h2=>⟨zo.alloc ho (hD _ _ hi) (λw O m=>Jc t i) ?_,hfresh⟩;exact jaW (w:=default) (O:=λ_=>False) (m:=λ_=>none) (Jc t i) h1 h2
  .trivial
 .rename_i t ho;exact ⟨zo.makeMap ho,hfresh⟩
 .rename_i t x k y ho;split
  .rename_i ti ka ht hka;split
   .rename_i kt et hk;split
    .rename_i ki hki;split
     .rename_i ks id va hks hx hva;split
      .rename_i xs hst;intro ys hys;exact ⟨zo.mapUpdate ho (ko hD ht hk) (jlc hks (hD _ _ hki).desc) hx hka (λw O m u hu=>je2 hva (qL hu)) hys,by simpa [yI] using hst⟩
      .trivial
     .trivial
    .trivial
   .trivial
  .trivial
 .rename_i t a x ho;split
  .rename_i i hi;split
   .split
    .rename_i id off ha;split
     .rename_i cs hst;refine YC λds h1 h2 h3=> ?_;split
      .rename_i hl;simp only [ju,Qm] at hl;have hl1:=kU hl.1;exact ⟨zo.storeBox ho (hD _ _ hi) ha (λw O m u hu=>h1 w O m u (qL hu)) hl1 (by omega),by simpa [yI] using ⟨cs,hst,rfl⟩⟩
      .trivial
     .trivial
    .rename_i id ii k j ha;split
     .rename_i k' xs hst;split
      .rename_i hk;simp only [ju,Qm] at hk;have hk1:=kU hk.1;subst hk1;refine YC λvs h1 h2 h3=> ?_;cases hs:JJ st vs with
       | none=>trivial
       | some y=>
        obtain ⟨ds,r,ws⟩:=y;simp only;split
        .rename_i hl;simp only [ju] at hl;have hl1:=kU hl.1;intro cs hcs;refine ⟨zo.storeRow ho (hD _ _ hi) ha (λw O m u hu=>(h1 w O m u (qL hu)).1) hs (jcS hs h2).1 hl1 (by omega) (jgW hl.2),λx hx=> ?_⟩;rcases j7.1 hx with rfl|hx
         .exact ⟨xs,hst,hcs⟩
         .exact ZA hs x hx
        .trivial
      .trivial
     .rename_i f k' xs hst;split
      .rename_i hk;simp only [ju,Qm] at hk;have hk1:=kU hk.1;subst hk1;exact YC λvs h1 h2 h3=>jrz ho (hD _ _ hi) ha hst (λw O m u hu=>(h1 w O m u (qL hu)).1) hk.2
      .trivial
     .trivial
    .trivial
   .trivial
  .trivial
 .rename_i t x ho;split
  .rename_i i hi;exact jtt ho (hD _ _ hi)
  .trivial
 .rename_i op t x y u ho;split
  .rename_i hc;rw [ju] at hc;split
   .rename_i ti ht;split
    .rename_i e hk;have hu:=ko hD ht hk;have gen:∀rds N,(∀(w:World) (O0:Nat->Prop) (m:zu) (st':jC) (v:Value),Sto X w O0 m st'->(∀r∈rds,yI st' r)->relV w (Ow O0 m st') m (ρ x) v-> ∃a n c,v = .slice a n c/\(N≠0->a.isNone=false))->zo C.P X o ρ ⟨.ub N (jpK op),rds,[]⟩:=
      λrds N hv=>zo.nilEq ho hc.2 hc.1 hu hv
     have hsl:∀ {w:World} {O:Nat->Prop} {k:Nat} {xs:List (List A)} {v:Value},rel w O (.sl k xs) v-> ∃a n c,v = .slice a n c/\(yU xs≠0->a.isNone=false):=by
      intro w O k xs v hr;simp only [rel] at hr;obtain ⟨a,c,h,_,_,h4⟩:=hr;refine ⟨a,_,c,h,λh0=> ?_⟩;rcases h4 with rfl|⟨b,off,rfl,_⟩
      .exact absurd rfl h0
      .rfl
     unfold jD1;split
     .rename_i a hx;intro ys hys;refine ⟨gen [] _ λw O0 m st' v _ _ hr=> ?_,by simp⟩;rw [hx] at hr;unfold jz7 at hys;split at hys
      .cases hys;simp only [relV] at hr;exact hsl hr
      .cases hys
     .rename_i hx;refine ⟨gen [] 0 λw O0 m st' v _ _ hr=> ?_,by simp⟩;rw [hx] at hr;simp only [relV] at hr;obtain ⟨a,h⟩:=hr;exact ⟨a,_,_,h,λh=>absurd rfl h⟩
     .rename_i id hx;split
      .rename_i k xs hst;refine ⟨gen _ _ λw O0 m st' v hs hg hr=> ?_,by simpa [yI] using hst⟩;rw [hx] at hr;obtain ⟨hd,q1,q2,q3⟩:=jjJ hs (hg _ (zi.2 rfl)) hr;cases hd with
       | tre=>exact q3.elim
       | mp=>exact q3.elim
       | none=>
        simp only [rowOk] at q3;simp only [hdr] at q2;subst q3;obtain ⟨a,h⟩:=q2;exact ⟨a,_,_,h,λh=>absurd rfl h⟩
       | blk b c n=>
        simp only [hdr] at q2;exact ⟨_,_,_,q2,λ_=>rfl⟩
      .rename_i k xs hst;refine ⟨gen _ _ λw O0 m st' v hs hg hr=> ?_,by simpa [yI] using hst⟩;rw [hx] at hr;exact hsl (ZG hs (hg _ (zi.2 rfl)) hr)
      .trivial
     .trivial
    .trivial
   .trivial
  .trivial
 .rename_i t x y ho;split
  .rename_i ti ht;split
   .rename_i e hk;split
    .rename_i i a b hi ha hb;split
     .trivial
     split
     .rename_i z hz;intro l hl hzo;unfold jjn at hl;split at hl
      .rename_i kl l' kc c';split at hl
       .rename_i hc;cases hl;have hxd:ρ x = .d (.val (.int kl l')):=by cases hx:ρ x<;>rw [hx] at ha<;>simp [dat] at ha;rw [ha]
        have hyd:ρ y = .d (.val (.int kc c')):=by cases hy:ρ y<;>rw [hy] at hb<;>simp [dat] at hb;rw [hb]
        simp only [Jp];have hz':∀w O,jG w O z i.zero.cells.toList:=λw O=>JW (m:=λ_=>none) hz (Jc e i);exact ⟨zo.make ho (ko hD ht hk) (hD _ _ hi) hxd hyd rfl rfl hc.1 hc.2.1 hc.2.2.1 hc.2.2.2 hz' (jhC (hz' default λ_=>False) hzo),hfresh⟩
       .cases hl
      .cases hl
     .trivial
    .trivial
   .trivial
  .trivial
 .rename_i t n ps ho;split
  .rename_i ti ht;split
   .rename_i e hk;split
    .rename_i i hi;split
     .rename_i hn;have hn0:=kU hn;subst hn0;split
      .rename_i hps;have hps':ps = #[]:=by simpa using hps
       refine ⟨λw O0 m st' ev hs hg hr _=> ?_,by simp⟩;rw [jhn hD ho hps' (ko hD ht hk) hi w];have hb:=Kw w (.cells #[] e);exact ⟨m,Chg.below hb,hs.below hb,by simp only [relV];exact ⟨_,rfl⟩⟩
      .trivial
     .rename_i hn;split
      .rename_i hc;simp only [ju,Qm,Qi] at hc;split
       .rename_i z hz;intro hzo;refine jlw _ [] [] [] [] ⟨rfl,by simp,λn p q hp=>by simp at hp,λst' _ x hx=>by cases hx⟩ λacc r ws hp=> ?_;simp only [KN] at hp;split
        .rename_i hr;have hn0:0 < n:=Nat.pos_of_ne_zero λe0=>hn (by rw [e0];rfl);refine ⟨zo.buildSlice hD ho (ko hD ht hk) hi hc.1.2 hn0 hc.2 hz hzo hp hr,λx hx=> ?_⟩;rcases j7.1 hx with rfl|hx
         .exact hnid
         .exact hp.2.1 x hx
        .trivial
       .trivial
      .trivial
    .trivial
   .trivial
  .trivial
 .rename_i t x ix ho;split
  .rename_i ti ht;split
   .rename_i e hk;split
    .rename_i i id b hi hx hb;split
     .rename_i k xs hst;split
      .rename_i hk';have hk':=kU hk';subst hk';intro n hn;exact ⟨zo.indexRow ho (ko hD ht hk) (hD _ _ hi) hx hb hn,by simp [yI,hst]⟩
      .trivial
     .trivial
    .rename_i i id k off n b hi hx hb;split
     .rename_i k' xs hst;split
      .rename_i hkk;simp only [ju] at hkk;have hk1:=kU hkk.1;have hk2:=kU hkk.2;subst hk1;subst hk2;intro j hj;exact ⟨zo.winIndex ho (ko hD ht hk) (hD _ _ hi) hx hb hj,by simp [yI,hst]⟩
      .trivial
     .trivial
    .trivial
   .trivial
  .trivial
 .rename_i t x lo hi ho;split
  .rename_i ti ht;split
   .rename_i e hk;split
    .rename_i i id k off n l h hii hx hl hh;obtain ⟨l1,l2⟩:=Jh hl;obtain ⟨u1,u2⟩:=Jh hh;rw [<-hx];exact ju2 ho (ko hD ht hk) (hD _ _ hii) l1 l2 u1 u2
    .rename_i i k l h hii hx hl hh;obtain ⟨l1,l2⟩:=Jh hl;obtain ⟨u1,u2⟩:=Jh hh;intro h' hh' l' hl';rw [jz3] at hl';exact ⟨zo.sliceNil ho (ko hD ht hk) (hD _ _ hii) hx l1 l2 u1 u2 hh' hl',by simp⟩
    .rename_i i id l h hii hx hl hh;split
     .obtain ⟨l1,l2⟩:=Jh hl;obtain ⟨u1,u2⟩:=Jh hh;rw [<-hx];exact ju2 ho (ko hD ht hk) (hD _ _ hii) l1 l2 u1 u2
     split
     .rename_i k xs hst;split
      .rename_i hk';have hk':=kU hk';subst hk';obtain ⟨l1,l2⟩:=Jh hl;obtain ⟨u1,u2⟩:=Jh hh;intro r hr;exact ⟨zo.sliceRow ho (ko hD ht hk) (hD _ _ hii) hx l1 l2 u1 u2 hr,by simpa [yI] using hst⟩
      .trivial
     .trivial
    .trivial
   .trivial
  .trivial
 .rename_i t x l h m ho;have m1:x∈o.op.operands:=by simp [ho,Op.operands]
  have m2:l∈o.op.operands:=by simp [ho,Op.operands]
  have m3:h∈o.op.operands:=by simp [ho,Op.operands]
  have m4:m∈o.op.operands:=by simp [ho,Op.operands]
  split
  .split
   .rename_i ti ht;split
    .rename_i e hk;split
     .rename_i i p l' h' m' hi hp hl hh hm;split
      .rename_i hkk;intro mm e1 hh' e2 ll e3;exact ⟨zo.win3 ho (ko hD ht hk) (hD _ _ hi) hp hl hh hm e1 e2 e3,by simpa [yI] using ⟨_,(K1 (X:=X) hp).1,rfl⟩⟩
      .trivial
     .trivial
    .trivial
   .trivial
  split
  .rename_i ti k1 k2 k3 ht hl hh hm;split
   .rename_i e hk;split
    .rename_i i a hi hx;intro ys hys;refine ⟨zo.same λw O0 mm st' ev hs hg hr=> ?_,by simp⟩;have hx':=hr x m1;have e1:=hr l m2;have e2:=hr h m3;have e3:=hr m m4;rw [hx] at hx';rw [hl] at e1;rw [hh] at e2;rw [hm] at e3;simp only [relV,rel] at e1 e2 e3;simp only [relV] at hx';unfold jeX at hys;split at hys
     .simp only [rel] at hx';obtain ⟨ad,c,hv,_⟩:=hx';exact ⟨_,jjM ho (ko hD ht hk) (hD _ _ hi) hv e1 e2 e3,by simp only [relV];exact ⟨ad,rfl⟩⟩
     .cases hys
    .trivial
   .trivial
  .trivial
 .rename_i t ps ho;split
  .rename_i i hi;split
   .rename_i fs hk;split
    .rename_i hfs;refine jlx hD _ _ λcs hcs=>⟨zo.same λw O0 m st' ev hs hg hrel=> ?_,by simp⟩;have h1:jv w (Ow O0 m st') m ((ps.toList.map λp=>(p.1,ρ p.2)).map Prod.snd) ((ps.toList.map λp=>(p.1,ev p.2)).map Prod.snd):=by
      rw [Jf,Jf];have:=JG (w:=w) (O:=Ow O0 m st') (m:=m) (ρ:=ρ) (ev:=ev) (ps.toList.map Prod.snd) λx hx=>hrel x (by
       rw [ho];simp only [Op.operands];simpa using hx)
      rw [Jf,Jf] at this;exact this
     obtain ⟨h2,h3⟩:=jcf (C:=C) (fs:=fs) h1;obtain ⟨cells',h6,h7⟩:=hcs w (Ow O0 m st') m (ps.toList.map λp=>(p.1,ev p.2)) i.zero.cells (Jc t i) (by rw [h3];simp) h2;refine ⟨_,run_build hD ho hi hk hfs h6 (w:=w),?_⟩;simp only [relV];exact ⟨cells'.toList,by simp,h7⟩
    .trivial
   .trivial
  .trivial
 .rename_i c ho;obtain ⟨callee,args,ts⟩:=c;dsimp only;split
  .split
   .rename_i s x t t' hxs hts;split
    .rename_i hint;obtain ⟨l,rfl⟩:∃l:List Operand,args=l.toArray:=⟨args.toList,by simp⟩;have hxs:l = [s,x]:=by simpa using hxs
     subst hxs;obtain rfl:ts = #[t,t']:=by apply ZD;simpa using hts
     split
     .rename_i ti ht;split
      .rename_i e hk;split
       .rename_i i hi;split
        .rename_i k a z hs0 ha hz;intro n hn hfit hzo;unfold jjn at hn;split at hn
         .rename_i kl l' kc c';split at hn
          .rename_i hc;cases hn;have hf:=jf3 hfit;simp only [Jp];have hz':∀w O,jG w O z i.zero.cells.toList:=λw O=>JW (m:=λ_=>none) hz (Jc e i);obtain ⟨kk,hu⟩:=jpJ hD hint;exact ⟨zo.appendZ ho rfl rfl (ko hD ht hk) hu (hD _ _ hi) hs0 ha hc.1 hf.1 hf.2 hz' (jhC (hz' default λ_=>False) hzo),hfresh⟩
          .cases hn
         .cases hn
        .trivial
       .trivial
      .trivial
     .trivial
    split
    .rename_i htt;have htt:=kU htt;subst htt;obtain rfl:ts = #[t,t]:=by apply ZD;simpa using hts
     obtain ⟨l,rfl⟩:∃l:List Operand,args=l.toArray:=⟨args.toList,by simp⟩;have hxs:l = [s,x]:=by simpa using hxs
     subst hxs;split
     .rename_i ti ht;split
      .rename_i e hk;split
       .rename_i i hi;split
        .rename_i hs0;refine jhJ λys r hg hsrc hfit=> ?_;have hf:=jf3 hfit;exact ⟨zo.append0 ho rfl rfl (ko hD ht hk) (hD _ _ hi) hs0 hsrc hf.1 hf.2,λy hy=>by
          rcases j7.1 hy with rfl|hy
          .exact hnid
          .exact hg y hy⟩
        .rename_i id hs0;split
         .rename_i k us hst;split
          .rename_i hc;simp only [ju,JO] at hc;have hk':=kU hc.1;subst hk';have hne:nid≠id:=λe=>by subst e;rw [hnid] at hst;cases hst
           refine jhJ λys r hg hsrc hfit=> ?_;have hf:=jf3 hfit;exact ⟨zo.append ho rfl rfl (ko hD ht hk) (hD _ _ hi) hs0 hne hsrc hf.1 hf.2,λy hy=>by
            rcases j7.1 hy with rfl|hy
            .exact hnid
            .rcases j7.1 hy with rfl|hy
             .exact hst
             .exact hg y hy⟩
          .trivial
         .trivial
        .rename_i id k off n hs0;split
         .rename_i p hp;split
          .rename_i hkk;have hkk:=kU hkk;have hp':=hp;have hst:=(K1 (X:=X) hp).1;refine jhJ λys r hg hsrc hfit=> ?_;have hf:p.off+p.n+ys.length<=p.xs.length:=by simpa [jqE] using hfit
           rw [<-hs0] at hp';exact ⟨zo.winAppend ho rfl rfl (ko hD ht hk) (hD _ _ hi) hp' hkk hsrc hf,λy hy=>by
            rcases j7.1 hy with rfl|hy
            .exact hst
            .exact hg y hy⟩
          .trivial
         .trivial
        .trivial
       .trivial
      .trivial
     .trivial
    .trivial
   .trivial
  .split
   .rename_i x t hxs hts;obtain ⟨l,rfl⟩:∃l:List Operand,args=l.toArray:=⟨args.toList,by simp⟩;have hxs:l = [x]:=by simpa using hxs
    subst hxs;obtain rfl:ts = #[t]:=by apply ZD;simpa using hts
    split
    .rename_i ti ht;split
     .rename_i e hk;split
      .rename_i k hx;refine ⟨zo.data λw O0 m st' ev hs hg hr=> ?_,by simp⟩;have hx':=hr x (by simp [ho,Op.operands,Call.operands]);rw [hx] at hx';simp only [relV] at hx';obtain ⟨a,hv⟩:=hx';refine ⟨.int .i64 0,?_,by simp [rel]⟩;simp [execOp,ho,resolve,invoke,builtin,Builtin.cap_,hv,kP (ko hD ht hk),goInt]
      .trivial
     .trivial
    .trivial
   .trivial
  .split
   .rename_i s x t t' hxs hts;obtain ⟨l,rfl⟩:∃l:List Operand,args=l.toArray:=⟨args.toList,by simp⟩;have hxs:l = [s,x]:=by simpa using hxs
    subst hxs;obtain rfl:ts = #[t,t']:=by apply ZD;simpa using hts
    split
    .rename_i ti ht;split
     .rename_i e hk;split
      .rename_i i p hi hp;split
       .rename_i hkk;have hkk:=kU hkk;refine jhJ λys r hg hsrc=> ?_;exact ⟨zo.winCopy ho rfl rfl (ko hD ht hk) (hD _ _ hi) hp hkk hsrc,λy hy=>by
         rcases j7.1 hy with rfl|hy
         .exact (K1 (X:=X) hp).1
         .exact hg y hy⟩
       .trivial
      .trivial
     .trivial
    .trivial
   .trivial
  .split
   .rename_i x t hxs hts;obtain ⟨l,rfl⟩:∃l:List Operand,args=l.toArray:=⟨args.toList,by simp⟩;have hxs:l = [x]:=by simpa using hxs
    subst hxs;obtain rfl:ts = #[t]:=by apply ZD;simpa using hts
    split
    .rename_i ti ht;split
     .rename_i e hk;split
      .rename_i i p hi hp;split
       .rename_i hkk;have hkk:=kU hkk;split
        .rename_i z hz;intro hzo;exact ⟨zo.winClear ho rfl rfl (ko hD ht hk) (hD _ _ hi) hp hkk (λw O=>JW (m:=λ_=>none) hz (Jc e i)) hzo,by simpa [yI] using (K1 (X:=X) hp).1⟩
        .trivial
       .trivial
      .trivial
     .trivial
    .trivial
   .trivial
  .split
   .rename_i g caps hf;split
    .rename_i sgs hsig;split
     .exact jrd hM ho hf
     split
     .exact jwj hS ho hf hsig
     .split
      .rename_i p hp0;exact jto hS ho hf hsig p hp0
      .split
       .rename_i q hq0;exact jps hS ho hf hsig q hq0
       .split
        .exact jqd hS ho hf hsig
        .exact jwG hS ho hf hsig
    .trivial
   .trivial
  .trivial
 .trivial
end
end
noncomputable section
def jd1 (P:Program):Nat->List (Option TI)->Prop
 | _,[]=>True
 | n,none::l=>jd1 P (n+1) l
 | n,some i::l=>TI.ok P n i/\jd1 P (n+1) l
theorem jd1.get {P:Program} :∀ {l:List (Option TI)} {n k:Nat} {i:TI},jd1 P n l->l[k]? = some (some i)->TI.ok P (n+k) i
 | [],_,_,_,_,h=>by simp at h
 | none::l,n,k,i,ha,h=>by
  cases k with
  | zero=>simp at h
  | succ k=>have:=jd1.get (l:=l) (n:=n+1) (k:=k) ha (by simpa using h);rwa [show n+1+k=n+(k+1) by omega] at this
 | some j::l,n,k,i,ha,h=>by
  cases k with
  | zero=>simp at h;subst h;exact ha.1
  | succ k=>have:=jd1.get (l:=l) (n:=n+1) (k:=k) ha.2 (by simpa using h);rwa [show n+1+k=n+(k+1) by omega] at this
def tyD (l:List (Option TI)) (t:Nat):Option TI:=l.getD t none
theorem jd1.ok {P:Program} {l:List (Option TI)} (h:jd1 P 0 l):Jn P (tyD l):=by
 intro t i hi;unfold tyD at hi;rw [qE] at hi;have:l[t]? = some (some i):=by
  cases hl:l[t]? with
  | none=>rw [hl] at hi;cases hi
  | some x=>rw [hl] at hi;simp at hi;rw [hi]
 simpa using h.get this
def pG (t:A) (want:Bool) (x:Option A):Option A:=
 match t with
 | .val (.bool b)=>if b=want then x else some (.val undef)
 | .val (.tuple _)=>some (.val undef)
 | _=>none
def Kg (t:A) (want:Bool):Option Bool:=
 match t with
 | .val (.bool b)=>some (decide (b=want))
 | .val (.tuple _)=>some false
 | _=>none
abbrev Log:=List Rd × List Wr
structure GE where
 dst:Nat
 gd:Nat
 want:Bool
 v:V
def jqe (i d:Nat) (w:Bool):List GE->Option V
 | []=>none
 | g::gs=>bif Nat.beq g.dst i && (Nat.beq g.gd d && (g.want == w)) then some g.v else jqe i d w gs
def jlu (gs:List GE) (d:Nat) (w:Bool) (fr:Nat->V):Nat->V:=λi=>match jqe i d w gs with|some v=>v|none=>fr i
def jc6 (gs:List GE):Option Tmp->List GE
 | none=>gs
 | some x=>gs.filter λg=> !(Nat.beq g.dst x) && !(Nat.beq g.gd x)
def jEt (gs:List GE) (dst:Option Tmp) (d:Nat) (want:Bool) (v:V):List GE:=
 match dst with
 | none=>gs
 | some x=>bif Nat.beq x d then jc6 gs dst else ⟨x,d,want,v⟩::jc6 gs dst
section
variable (C:Cfg) (M:Node->Option Out)
def run1 (o:Oper) (n:Nat) (fr:Nat->V) (st:jC) (nid:Nat) (k:V->List Rd->List Wr->Option Out):Option Out:=
 match evD C o (evF n fr) st with
 | .val v rds=>k v rds []
 | .opt x rds=>(x.run C M).bind λa=>k (.d a) rds []
 | .no=>(match st nid with
  | .dead=>(evL C o (evF n fr) st nid).run M k
  | _=>none)
def jxN (ops:Array Oper) (j:Nat):Option Nat:=match ops[j]? with|some o=>o.dst|none=>none
def stepOp (ops:Array Oper) (o:Oper) (n:Nat) (fr:Nat->V) (st:jC) (nid:Nat) (gs:List GE) (k:V->List Rd->List Wr->List GE->Option Out):Option Out:=
 match o.guard with
 | none=>run1 C M o n fr st nid λv rds wrs=>k v rds wrs (jc6 gs o.dst)
 | some (j,want)=>(match jxN ops j with
  | some d=>if Nat.blt d n then (match fr d with
   | .d t=>(match evD C o (evF n (jlu gs d want fr)) st with
    | .val (.d a) rds=>(pG t want (some a)).bind λa=>k (.d a) rds [] (jc6 gs o.dst)
    | .val v rds=>(Kg t want).bind λ_=>k .top rds [] (jEt gs o.dst d want v)
    | .opt x rds=>(pG t want (x.run C M)).bind λa=>k (.d a) rds [] (jc6 gs o.dst)
    | .no=>(Kg t want).bind λb=>brn b (run1 C M o n (jlu gs d want fr) st nid λv rds wrs=>k v rds wrs (jc6 gs o.dst)) (k (.d (.val undef)) [] [] (jc6 gs o.dst)))
   | _=>none) else none
  | none=>none)
def evOps (ops:Array Oper) (n:Nat):List Oper->Nat->(Nat->V)->jC->List GE->List Log->((Nat->V)->jC->List Log->Option Out)->Option Out
 | [],_,fr,st,_,logs,k=>k fr st logs
 | o::os,nid,fr,st,gs,logs,k=>stepOp C M ops o n fr st nid gs λv rds wrs gs'=>evOps ops n os (nid+8) (J8 fr o.dst v) (kV st wrs) gs' (logs++[(rds,wrs)]) k
end
def cWR:Wr->Rd->Option (List (Nat × Nat))
 | .cell id off _,.cell id' off' _=>if Nat.beq id id' && Nat.beq off off' then none else some []
 | .elem id i _,.elem id' i' _ _=>if Nat.beq id id' then some [(i,i')] else some []
 | .elem id i _,.telem id' _ i' _ _=>if Nat.beq id id' then some [(i,i')] else some []
 | .elem _ _ _,.tlen _ _ _ _=>some []
 | .cell _ _ _,.blen _ _=>some []
 | .elem _ _ _,.len _ _ _=>some []
 | w,r=>if Nat.beq w.id r.id then none else some []
def cWW:Wr->Wr->Option (List (Nat × Nat))
 | .cell id off _,.cell id' off' _=>if Nat.beq id id' && Nat.beq off off' then none else some []
 | .elem id i _,.elem id' i' _=>if Nat.beq id id' then some [(i,i')] else some []
 | w,r=>if Nat.beq w.id r.id then none else some []
def jo8 {α β:Type} (f:α->β->Option (List (Nat × Nat))):List α->List β->Option (List (Nat × Nat))
 | [],_=>some []
 | a::as,bs=>match cOne (f a) bs,jo8 f as bs with
  | some x,some y=>some (x++y)
  | _,_=>none
where cOne (g:β->Option (List (Nat × Nat))):List β->Option (List (Nat × Nat))
 | []=>some []
 | b::bs=>match g b,cOne g bs with
  | some x,some y=>some (x++y)
  | _,_=>none
def jxw (a b:Log):Option (List (Nat × Nat)):=
 match jo8 cWR a.2 b.1,jo8 cWR b.2 a.1,jo8 cWW a.2 b.2 with
 | some x,some y,some z=>some (x++y++z)
 | _,_,_=>none
def jIl (o:Oper) (i:Nat):Bool:=o.after.toList.any λe=>Region.binds .any e && Nat.beq e.on i
def jiw (all:List Oper) (i:Nat):Nat->Oper->Bool
 | 0,_=>false
 | d+1,o=>o.after.toList.any λe=>Region.binds .any e && (Nat.beq e.on i || (match all[e.on]? with|some ok=>jiw all i d ok|none=>false))
def jGG (all:List Oper) (o:Oper) (i:Nat):Bool:=jiw all i 2 o
def jGF (all:List Oper) (o:Oper) (i:Nat) (x:Option (List (Nat × Nat))):Option (List (Nat × Nat)):=
 match x with
 | some y=>some y
 | none=>if jiw all i 7 o then some [] else none
def jBl (all:List Oper) (o:Oper) (b:Log):Nat->List Log->Option (List (Nat × Nat))
 | _,[]=>some []
 | i,a::as=>match (if jGG all o i then some [] else jGF all o i (jxw a b)),jBl all o b (i+1) as with
  | some x,some y=>some (x++y)
  | _,_=>none
def jBk (all:List Oper):List Oper->List Log->List Log->Option (List (Nat × Nat))
 | [],_,_=>some []
 | _::_,_,[]=>none
 | o::os,done,b::bs=>match jBl all o b 0 done,jBk all os (done++[b]) bs with
  | some x,some y=>some (x++y)
  | _,_=>none
def apart (ps:List (Nat × Nat)):Bool:=ps.all λp=>decide (p.1≠p.2)
def jpD (nx:Nat) (logs:List Log):Bool:=logs.all λl=>l.2.all λw=>Nat.blt w.id nx
def Qs:Code->Bool
 | .region _ ops draw=> !draw || Region.lexB .any ops.toList.toArray
 | .seq a b=>Qs a && Qs b
 | .cond _ a b=>Qs a && Qs b
 | .block _ b=>Qs b
 | .loop b=>Qs b
 | _=>true
def juK (ops:List Oper) (logs:List Log):Bool:=match jBk ops ops [] logs with|some ps=>apart ps|none=>false
def evReg (C:Cfg) (M:Node->Option Out) (ops:List Oper) (draw:Bool) (s:St) (κ:St->Option Out):Option Out:=
 evOps C M ops.toArray s.n ops s.nx s.fr s.st [] [] λfr st logs=>
  brn (jpD (s.nx+8 * ops.length) logs) (brn (!draw || juK ops logs) (κ ⟨s.n,fr,st,s.nx+8 * ops.length,s.sh⟩) none) none
def jgN (mask:Nat) (fr:Nat->V):Nat->Nat->List V
 | 0,_=>[]
 | n+1,i=>(if Nat.testBit mask i then fr i else .top)::jgN mask fr n (i+1)
def jnL (ids:List Nat):List Nat->Option (List Nat)
 | []=>some []
 | x::l=>(match Yo x ids 0,jnL ids l with|some i,some r=>some (i::r)|_,_=>none)
def jD6 (ids:List Nat):Option (List Nat)->Option (Option (List Nat))
 | none=>some none
 | some l=>(match jnL ids l with|some r=>some (some r)|none=>none)
def shL:Option (List Nat)->List Nat
 | none=>[]
 | some l=>l
def again (M:Node->Option Out) (f:FuncId) (p:List Nat) (mask:Nat) (s:St):Option Out:=
 let fr1:=jgN mask s.fr s.n 0
 let ids:=reach s.st 400 (je0 fr1++shL s.sh) []
 if jja ids then
  match jD6 ids s.sh with
  | some sh2=>(match Yh (qx ids fr1) ids.length with
   | (fr2,os1)=>match Kh (ids.map λid=>jn5 ids (s.st id)) (ids.length+os1.length) with
    | (ob,os3)=>M (.head f p fr2 (ob++os1++os3) sh2))
  | none=>none
 else none
def St.of (n:Nat) (fr:List V) (objs:List Obj) (sh:Option (List Nat)):St:=⟨n,λi=>fr.getD i .top,λi=>objs.getD i .dead,objs.length,sh⟩
open Classical in
noncomputable def allR (rem:List (List A)) (z:Option Out) (g:List A->List (List A)->Option Out):Option Out:=
 match rem with
 | []=>z
 | _::_=>if h:∃o,∀(i:Nat) (x:List A),rem[i]? = some x->g x (rem.eraseIdx i)=some o then some h.choose else none
theorem jxj {z:Option Out} {g:List A->List (List A)->Option Out} :allR [] z g=z:=rfl
theorem Q9 {rem:List (List A)} (h0:rem≠ []) {z:Option Out} {g:List A->List (List A)->Option Out} {o:Out} :allR rem z g=some o↔ ∀(i:Nat) (x:List A),rem[i]? = some x->g x (rem.eraseIdx i)=some o:=by
 cases rem with
 | nil=>exact absurd rfl h0
 | cons y ys=>
  unfold allR;dsimp only;constructor
  .intro h;split at h
   .rename_i hx;cases h;exact hx.choose_spec
   .cases h
  .intro h;have hx:∃o,∀(i:Nat) (x:List A),(y::ys)[i]? = some x->g x ((y::ys).eraseIdx i)=some o:=⟨o,h⟩;rw [dif_pos hx];have h1:=hx.choose_spec 0 y rfl;have h2:=h 0 y rfl;rw [h1] at h2;exact h2
def Zq:Code->Bool
 | .seq a b=>Zq a && Zq b
 | .cond _ a b=>Zq a && Zq b
 | .block _ b=>Zq b
 | .loop _=>false
 | _=>true
structure RngB where
 it:Nat
 tn:Nat
 c:Nat
 k:Nat
 te:Nat
 b2:Nat
 bops:Array Oper
 ops4:List Oper
 rest:Code
def jzI (nx ex:Oper):Option (Nat × Nat × Nat):=
 match nx.op,nx.dst,nx.guard,ex.op,ex.dst,ex.guard with
 | .next (.tmp it) false,some tn,none,.extract (.tmp tn') 0,some c,none=>bif Nat.beq tn tn' && (!Nat.beq it tn && !Nat.beq it c) then some (it,tn,c) else none
 | _,_,_,_,_,_=>none
def juc (it:Nat) (en:Oper):Option Nat:=
 match en.op,en.dst,en.guard with
 | .entry (.tmp it'),some te,none=>bif Nat.beq it it' then some te else none
 | _,_,_=>none
def jqU:Code->Option RngB
 | .seq (.region _ nops false) (.seq (.cond (.tmp c') .skip (.exit k)) (.block b2 (.seq (.region _ bops false) rest)))=>
  (match nops.toList with
  | [nx,ex]=>(match jzI nx ex with
   | some (it,tn,c)=>(match bops.toList with
    | en::ops4=>(match juc it en with
     | some te=>bif Nat.beq c c' && (!Nat.beq it te && Zq rest) then some ⟨it,tn,c,k,te,b2,bops,ops4,rest⟩ else none
     | none=>none)
    | []=>none)
   | none=>none)
  | _=>none)
 | _=>none
structure RngUn where
 ops:Array Oper
 mv:Oper
 rg:Oper
 t:Nat
 x:Operand
 d:Nat
 k:Nat
 lb:Code
def juI (o:Oper):Option (Nat × Operand × Nat):=
 match o.op,o.dst,o.guard with
 | .range t x,some d,none=>some (t,x,d)
 | _,_,_=>none
def jFT:Code->Code->Option RngUn
 | .region _ ops false,.block k (.loop lb)=>(match ops.toList with
  | [mv,rg]=>(match juI rg,jqU lb with
   | some (t,x,d),some rb=>bif Nat.beq d rb.it then some ⟨ops,mv,rg,t,x,d,k,lb⟩ else none
   | _,_=>none)
  | _=>none)
 | _,_=>none
def jyg (x:List A):Bool:=match x with | [_,_]=>true|_=>false
def jD8 (was:Bool) (q:Nat):Option (List Nat)->Option (Option (List Nat))
 | some (q'::l)=>bif Nat.beq q' q then (bif was then some (some l) else (match l with | []=>some none|_=>none)) else none
 | _=>none
def jDp:List A->List A->Bool
 | .val (.string a)::_,.val (.string b)::_=>decide (bs a<=bs b)
 | .val (.int _ a)::_,.val (.int _ b)::_=>decide (a<=b)
 | _,_=>true
def jsg (xs:List (List A)):List (List A):=xs.mergeSort jDp
def jvc:Obj->Obj
 | .map xs=> .map (jsg xs)
 | o=>o
def jve (s:St):St:={ s with st:=λi=>jvc (s.st i) }
def jzE (C:Cfg) (t:Nat):Bool:=match C.D t with|some ti=>(match ti.kind with | .map _ _=>true|_=>false)|none=>false
section
variable (C:Cfg) (M:Node->Option Out) (f:FuncId)
def againR (p:List Nat) (mask:Nat) (s:St) (rem:List (List A)):Option Out:=
 again (λx=>match x with | .head f p fr objs sh=>M (.rhead f p fr objs sh rem)|_=>none) f p mask (jve s)
def evU (u:RngUn) (p:List Nat) (s:St):Option Out:=
 evOps (C.at f) M u.ops s.n [u.mv] s.nx s.fr s.st [] [] λfr st _=>
  brn (jzE C u.t && Nat.blt u.d s.n) (match evF s.n fr u.x with
   | .d a=>(jqj a).bind λxs=>(match st (s.nx+8) with
    | .dead=>againR M f p (C.kp f p) ⟨s.n,upd fr u.d (.ptr (s.nx+8) 0),upd st (s.nx+8) .gone,s.nx+9,s.sh⟩ xs
    | _=>none)
   | _=>none) none
end
open Classical in
noncomputable def bth (x y:Option Out):Option Out:=if x=y then x else none
theorem jeq {x y:Option Out} {r:Out} :bth x y=some r↔x=some r/\y=some r:=by
 unfold bth;split
 .rename_i h;subst h;simp
 .rename_i h;constructor
  .intro h;cases h
  .rintro ⟨h1,h2⟩;exact absurd (h1.trans h2.symm) h
def nz (n:Nat):Bool:=decide (n=0)
theorem jxr (x:Option Out):bth x x=x:=jl rfl
inductive Ex where
 | normal
 | exit (id:Nat)
 | ret
section
variable (C:Cfg) (M:Node->Option Out) (f:FuncId)
def evC:Code->List Nat->St->(Ex->St->Option Out)->Option Out
 | .skip,_,s,κ=>κ .normal s
 | .region _ ops draw,_,s,κ=>evReg (C.at f) M ops.toList draw s (κ .normal)
 | .seq a b,p,s,κ=>(match jFT a b with
  | some u=>evU C M f u (p++[1]++[0]) s
  | none=>evC a (p++[0]) s λe s'=>match e with | .normal=>evC b (p++[1]) s' κ|e=>κ e s')
 | .cond c x y,p,s,κ=>(match evF s.n s.fr c with
  | .d a=>(JB a).bind λt=>brn t (evC x (p++[0]) s κ) (evC y (p++[1]) s κ)
  | .ub n neg=>brn (nz n) (bth (evC x (p++[0]) s κ) (evC y (p++[1]) s κ)) (if neg then evC x (p++[0]) s κ else evC y (p++[1]) s κ)
  | _=>none)
 | .block id b,p,s,κ=>evC b (p++[0]) s λe s'=>match e with | .exit id'=>if Nat.beq id' id then κ .normal s' else κ (.exit id') s'|e=>κ e s'
 | .loop _,p,s,_=>again M f p (C.kp f p) s
 | .exit id,_,s,κ=>κ (.exit id) s
 | .ret,_,s,κ=>κ .ret s
 | .label _,_,s,κ=>κ .normal s
 | _,_,_,_=>none
def evAt:Code->List Nat->List Nat->St->(Ex->St->Option Out)->Option Out
 | .loop b,[],p,s,κ=>evC C M f b (p++[0]) s λe s'=>match e with | .normal=>again M f p (C.kp f p) s'|e=>κ e s'
 | .loop b,0::r,p,s,κ=>evAt b r (p++[0]) s λe s'=>match e with | .normal=>again M f p (C.kp f p) s'|e=>κ e s'
 | .seq a b,0::r,p,s,κ=>evAt a r (p++[0]) s λe s'=>match e with | .normal=>evC C M f b (p++[1]) s' κ|e=>κ e s'
 | .seq _ b,1::r,p,s,κ=>evAt b r (p++[1]) s κ
 | .cond _ x _,0::r,p,s,κ=>evAt x r (p++[0]) s κ
 | .cond _ _ y,1::r,p,s,κ=>evAt y r (p++[1]) s κ
 | .block id b,0::r,p,s,κ=>evAt b r (p++[0]) s λe s'=>match e with | .exit id'=>if Nat.beq id' id then κ .normal s' else κ (.exit id') s'|e=>κ e s'
 | _,_,_,_,_=>none
def roundK (rb:RngB) (p:List Nat) (was:Bool) (rem:List (List A)) (κ:Ex->St->Option Out) (e:Ex) (s:St):Option Out:=
 match s.fr rb.it with
 | .ptr q 0=>(jD8 was q s.sh).bind λsh=>(match e with
  | .normal=>againR M f p (C.kp f p) { s with sh:=sh } rem
  | .exit id=>(if Nat.beq id rb.b2 then againR M f p (C.kp f p) { s with sh:=sh } rem else κ (.exit id) { s with sh:=sh })
  | .ret=>κ .ret { s with sh:=sh })
 | _=>none
def evIter (rb:RngB) (p:List Nat) (s:St) (rem:List (List A)) (κ:Ex->St->Option Out):Option Out:=
 match s.fr rb.it with
 | .ptr q 0=>brn (Nat.blt rb.tn s.n && Nat.blt rb.c s.n) (allR rem (κ (.exit rb.k) { s with fr:=upd (upd s.fr rb.tn .top) rb.c (.d (vb false)) }) λx rem'=>
  brn (jyg x) (evOps (C.at f) M rb.bops s.n rb.ops4 s.nx (upd (upd (upd s.fr rb.tn .top) rb.c (.d (vb true))) rb.te (.d (.tup [jc x 0,jc x 1]))) s.st [] [] λfr st _=>
   evC C M f rb.rest (p++[0,1,1,0,1]) ⟨s.n,fr,st,s.nx+8 * rb.ops4.length,some (q::shL s.sh)⟩ (roundK C M f rb p s.sh.isSome rem' κ)) none) none
 | _=>none
def evAtR (rem:List (List A)):Code->List Nat->List Nat->St->(Ex->St->Option Out)->Option Out
 | .loop b,[],p,s,κ=>(match jqU b with|some rb=>evIter C M f rb p s rem κ|none=>none)
 | .loop b,0::r,p,s,κ=>evAtR rem b r (p++[0]) s λe s'=>match e with | .normal=>again M f p (C.kp f p) s'|e=>κ e s'
 | .seq a b,0::r,p,s,κ=>evAtR rem a r (p++[0]) s λe s'=>match e with | .normal=>evC C M f b (p++[1]) s' κ|e=>κ e s'
 | .seq _ b,1::r,p,s,κ=>evAtR rem b r (p++[1]) s κ
 | .cond _ x _,0::r,p,s,κ=>evAtR rem x r (p++[0]) s κ
 | .cond _ _ y,1::r,p,s,κ=>evAtR rem y r (p++[1]) s κ
 | .block id b,0::r,p,s,κ=>evAtR rem b r (p++[0]) s λe s'=>match e with | .exit id'=>if Nat.beq id' id then κ .normal s' else κ (.exit id') s'|e=>κ e s'
 | _,_,_,_,_=>none
end
def jCG (C:Cfg) (s:St):ResultVar->Option V
 | .tmp t=>some (evF s.n s.fr (.tmp t))
 | .cell a t=>(match Zl C t (evF s.n s.fr (.tmp a)) s.st with
  | .val v _=>some v
  | _=>none)
def jn6 (C:Cfg) (s:St):List ResultVar->List TypeId->Option (List V)
 | [],_=>some []
 | r::rs,[]=>(match jCG C s r,jn6 C s rs [] with|some v,some vs=>some (v::vs)|_,_=>none)
 | r::rs,t::ts=>(match jCG C s r,jn6 C s rs ts with|some v,some vs=>some (nilV C.D t v::vs)|_,_=>none)
def YT:List V->V
 | [v]=>v
 | vs=> .tup vs
def jex (C:Cfg) (fn:Func) (s:St):Option Out:=
 match jn6 C s fn.results.toList fn.resultTypes.toList with
 | some vs=>(match toA s.st 60 (YT vs) with|some (a,_)=>some (a,[])|none=>none)
 | none=>none
def jLe (C:Cfg) (fn:Func):Ex->St->Option Out
 | .normal,s=>jex C fn s
 | .ret,s=>jex C fn s
 | _,_=>none
def eqP:List Nat->List Nat->Bool
 | [],[]=>true
 | x::xs,y::ys=>Nat.beq x y && eqP xs ys
 | _,_=>false
structure MAcc where
 as:List A
 ns:List (Option Nat)
 rds:List Rd
def jHi (n:Nat) (a:A):Option (List A):=match a with | .agg ds=>if ds.length=n then some ds else none|_=>none
mutual
def mt (st:jC) (sh:List Nat):Sh->V->MAcc->Option MAcc
 | .d i,v,c=>(match toA st 60 v with
  | some (a,r)=>if Nat.beq i c.as.length then some ⟨c.as++[a],c.ns,c.rds++r⟩ else none
  | none=>none)
 | .row o,.row id,c=>(match sh[o]? with
  | some q=>if Nat.beq q id then some c else none
  | none=>if Nat.beq o (sh.length+c.ns.length) then some ⟨c.as,c.ns++[some id],c.rds⟩ else none)
 | .row o,.nil _,c=>if Nat.beq o (sh.length+c.ns.length) then some ⟨c.as,c.ns++[none],c.rds⟩ else none
 | .ptr o off,.ptr id off',c=>(match sh[o]? with
  | some q=>if Nat.beq q id && Nat.beq off off' then some c else none
  | none=>none)
 | .agg l,.agg cs,c=>Zp st sh l cs c
 | .agg l,.d a,c=>(jHi l.length a).bind λds=>Zp st sh l ((List.range l.length).map λj=> .d (jc ds j)) c
 | .tup l,.tup cs,c=>Zp st sh l cs c
 | _,_,_=>none
def Zp (st:jC) (sh:List Nat):List Sh->List V->MAcc->Option MAcc
 | [],[],c=>some c
 | s::l,v::vs,c=>(mt st sh s v c).bind λc'=>Zp st sh l vs c'
 | _,_,_=>none
end
def mtB (st:jC) (sh:List Nat):List OW->List Nat->MAcc->Option MAcc
 | [],[],c=>some c
 | .box l::ws,id::ids,c=>(match st id with
  | .box cs=>(Zp st sh l cs c).bind λc'=>mtB st sh ws ids c'
  | _=>none)
 | _::ws,_::ids,c=>mtB st sh ws ids c
 | _,_,_=>none
def ioL:List OW->List Nat->List (Option Nat)
 | .io _::ws,id::ids=>some id::ioL ws ids
 | _::ws,_::ids=>ioL ws ids
 | _,_=>[]
def jyf:List OW->Nat->Bool
 | [],_=>true
 | .io j::ws,n=>Nat.beq j n && jyf ws (n+1)
 | _::ws,n=>jyf ws n
def ioN:List OW->Nat
 | []=>0
 | .io _::ws=>ioN ws+1
 | _::ws=>ioN ws
def jeN:List OW->List Nat->List (Option Nat)
 | .cons::ws,_::ids=>none::jeN ws ids
 | _::ws,id::ids=>some id::jeN ws ids
 | _,_=>[]
def jpC (x:Nat):List (Option Nat)->Bool
 | []=>false
 | none::l=>jpC x l
 | some y::l=>Nat.beq x y || jpC x l
def jjb:List (Option Nat)->Bool
 | []=>true
 | none::l=>jjb l
 | some x::l=> !jpC x l && jjb l
def pNo (a:A):Option Unit:=match a with | .val (.bool false)=>some ()|_=>none
def ja1 (st:jC) (a:A):List Nat->List (Option Nat)->Option (List (List (List A)))
 | [],[]=>some []
 | k::ks,none::l=>(ja1 st a ks l).bind λr=>if Nat.blt (kdK k) 128 then some ([]::r) else none
 | k::ks,some id::l=>(ja1 st a ks l).bind λr=>(match st id with
  | .row k' xs=>if Nat.beq k' (kdK k) && Nat.blt (kdK k) 64 then some (xs::r) else none
  | .tre true k' xs=>if Nat.beq (k'+64) k && (!Nat.beq k 128 && Nat.blt k 256) then some (xs::r) else none
  | .map xs=>if Nat.beq k 128 then some (xs::r) else none
  | .gone=>if Nat.ble 256 k then (pNo a).bind λ_=>some ([]::r) else none
  | _=>none)
 | _,_=>none
def slL:List Nat->List (List (List A))->List A
 | k::ks,r::rs=> .sl k r::slL ks rs
 | _,_=>[]
def jHs (live:List (Option Nat)) (rds:List Rd):Bool:=rds.all λr=>match r with | .obj id o=> !o.alive || !jpC id live|_=>true
def jE6 (st:jC) (sg:SigA) (sh:List Nat) (vs:List V):Option Out:=
 (mtB st sh sg.ws sh ⟨[],[],[]⟩).bind λc1=>(mt st sh sg.r (YT vs) c1).bind λc=>
  (if Nat.beq c.as.length sg.nd && Nat.beq c.ns.length sg.nw.length && jyf sg.ws 0 && eqP sg.nw (ups (ioN sg.ws) sg.nw.length) && jjb (jeN sg.ws sh++c.ns) && jHs (jeN sg.ws sh++c.ns) c.rds then
   (ja1 st (jpf sg.ks c.as) sg.ks (ioL sg.ws sh++c.ns)).bind λrs=>some (.top,c.as++slL sg.ks rs)
  else none)
def jGH (C:Cfg) (fn:Func) (sg:SigA) (sh:List Nat) (s:St):Option Out:=
 match jn6 C s fn.results.toList fn.resultTypes.toList with
 | some vs=>jE6 s.st sg sh vs
 | none=>none
def jhH:List ResultVar->List Nat
 | []=>[]
 | .tmp t::l=>t::jhH l
 | _::l=>jhH l
def je6 (t:Nat) (s:St):St:=
 match s.fr t with
 | .win id k off n=>(match s.st id with
  | .row k' xs=>bif Nat.beq k' k && (Nat.beq off 0 && jiJ (s.st s.nx)) then { s with fr:=upd s.fr t (.row s.nx),st:=upd (upd s.st id .gone) s.nx (.row k (xs.take n)),nx:=s.nx+1 } else s
  | _=>s)
 | _=>s
def jvt:Obj->Obj
 | .tre _ k xs=> .tre true k xs
 | o=>o
def jGL (s:St):St:={ s with st:=λi=>jvt (s.st i) }
def je7:List Nat->St->St
 | [],s=>jGL s
 | t::ts,s=>je7 ts (je6 t s)
def jxT (C:Cfg) (f:FuncId) (fn:Func) (s:St):Option Out:=
 match s.sh with
 | none=>jex C fn s
 | some sh=>(match C.sig f with
  | some sgs=>(match jaa sh.length sgs with
   | some sg=>jGH C fn sg sh (je7 (jhH fn.results.toList) s)
   | none=>none)
  | none=>none)
def Yl (C:Cfg) (f:FuncId) (fn:Func):Ex->St->Option Out
 | .normal,s=>jxT C f fn s
 | .ret,s=>jxT C f fn s
 | _,_=>none
def ja5 (fn:Func) (args:List A):St:=St.of fn.ntmps (args.map V.d) [] none
def jdT (fn:Func) (args:List V) (objs:List Obj):St:=St.of fn.ntmps args objs (some (List.range objs.length))
def step (C:Cfg) (M:Node->Option Out):Node->Option Out
 | .call f args=>(match C.ext f with
  | some x=>x args
  | none=>(match C.pureF f with
   | false=>none
   | true=>(match C.P.funcs[f]? with
    | some fn=>(match fn.body with
     | some c=>brn (Nat.ble args.length fn.ntmps) (evC C M f c [] (ja5 fn args) (Yl C f fn)) none
     | none=>none)
    | none=>none)))
 | .callv f args objs=>(match C.extv f with
  | some x=>extRun C M x args objs
  | none=>(match C.P.funcs[f]? with
    | some fn=>(match fn.body with
     | some c=>brn (Nat.ble args.length fn.ntmps) (evC C M f c [] (jdT fn args objs) (Yl C f fn)) none
     | none=>none)
    | none=>none))
 | .head f p fr objs sh=>(match C.P.funcs[f]? with
   | some fn=>(match fn.body with
    | some c=>evAt C M f c p [] (St.of fn.ntmps fr objs sh) (Yl C f fn)
    | none=>none)
   | none=>none)
 | .rhead f p fr objs sh rem=>(match C.P.funcs[f]? with
   | some fn=>(match fn.body with
    | some c=>evAtR C M f rem c p [] (St.of fn.ntmps fr objs sh) (Yl C f fn)
    | none=>none)
   | none=>none)
def Mn (C:Cfg):Nat->Node->Option Out
 | 0,_=>none
 | n+1,x=>step C (Mn C n) x
open Classical in
noncomputable def MM (C:Cfg) (x:Node):Option Out:=if h:∃r n,Mn C n x=some r then some h.choose else none
def LeM (M M':Node->Option Out):Prop:=∀x r,M x=some r->M' x=some r
structure Nice (C:Cfg) {α:Type} (Φ:(Node->Option Out)->Option α):Prop where
 mono:∀M M' r,LeM M M'->Φ M=some r->Φ M'=some r
 fin:(∀n,LeM (Mn C n) (Mn C (n+1)))-> ∀r,Φ (MM C)=some r-> ∃n,Φ (Mn C n)=some r
section
variable {C:Cfg} {α β:Type}
theorem jgx (h:∀n,LeM (Mn C n) (Mn C (n+1))) {a b:Nat} (hab:a<=b):LeM (Mn C a) (Mn C b):=by
 induction hab with
 | refl=>exact λ_ _ h=>h
 | step _ ih=>exact λx r hr=>h _ x r (ih x r hr)
theorem Nice.const (x:Option α):Nice C λ_=>x:=⟨λ_ _ _ _ h=>h,λ_ _ h=>⟨0,h⟩⟩
theorem Nice.node (x:Node):Nice C λM=>M x:=
 ⟨λ_ _ _ h hr=>h _ _ hr,λ_ r h=>by
  unfold MM at h;split at h
  .rename_i hx;cases h;exact hx.choose_spec
  .cases h⟩
theorem Nice.bind {Φ:(Node->Option Out)->Option α} {Ψ:(Node->Option Out)->α->Option β} (h1:Nice C Φ) (h2:∀a,Nice C λM=>Ψ M a):Nice C λM=>(Φ M).bind (Ψ M) where
 mono:=λM M' r hM h=>by
  rw [zB] at h ⊢;obtain ⟨a,h3,h4⟩:=h;exact ⟨a,h1.mono _ _ _ hM h3,(h2 a).mono _ _ _ hM h4⟩
 fin:=λhc r h=>by
  rw [zB] at h;obtain ⟨a,h3,h4⟩:=h;obtain ⟨n1,h5⟩:=h1.fin hc _ h3;obtain ⟨n2,h6⟩:=(h2 a).fin hc _ h4;refine ⟨max n1 n2,?_⟩;rw [zB];exact ⟨a,h1.mono _ _ _ (jgx hc (Nat.le_max_left _ _)) h5,(h2 a).mono _ _ _ (jgx hc (Nat.le_max_right _ _)) h6⟩
theorem Nice.fin' (chk:Bool) {Φ:(Node->Option Out)->Option Out} (h:Nice C Φ):Nice C λM=>(Φ M).bind (Abs.fin chk):=h.bind λ_=>Nice.const _
theorem Nice.dx {C':Cfg} (x:DX):Nice C λM=>x.run C' M:=by
 cases x with
 | opt x=>exact Nice.const x
 | call f args chk=>exact (Nice.node _).fin' chk
 | callc fn args chk=>
  simp only [DX.run];split
  .split
   .exact (Nice.node _).fin' chk
   .exact Nice.const _
  .exact Nice.const _
theorem Nice.pG {t:A} {want:Bool} {Φ:(Node->Option Out)->Option A} (h:Nice C Φ):Nice C λM=>pG t want (Φ M):=by
 unfold Abs.pG;split
 .split
  .exact h
  .exact Nice.const _
 .exact Nice.const _
 .exact Nice.const _
theorem Nice.brn {α:Type} {b:Bool} {Φ Ψ:(Node->Option Out)->Option α} (h1:Nice C Φ) (h2:Nice C Ψ):Nice C λM=>Abs.brn b (Φ M) (Ψ M):=by
 cases b
 .exact h2
 .exact h1
theorem Nice.bth {Φ Ψ:(Node->Option Out)->Option Out} (h1:Nice C Φ) (h2:Nice C Ψ):Nice C λM=>Abs.bth (Φ M) (Ψ M) where
 mono:=λM M' r hM h=>by
  rw [jeq] at h ⊢;exact ⟨h1.mono _ _ _ hM h.1,h2.mono _ _ _ hM h.2⟩
 fin:=λhc r h=>by
  rw [jeq] at h;obtain ⟨n1,h5⟩:=h1.fin hc _ h.1;obtain ⟨n2,h6⟩:=h2.fin hc _ h.2;refine ⟨max n1 n2,?_⟩;rw [jeq];exact ⟨h1.mono _ _ _ (jgx hc (Nat.le_max_left _ _)) h5,h2.mono _ _ _ (jgx hc (Nat.le_max_right _ _)) h6⟩
theorem Nice.lx {κ:(Node->Option Out)->V->List Rd->List Wr->Option Out} (hκ:∀v r w,Nice C λM=>κ M v r w):∀x:LX,Nice C λM=>x.run M (κ M)
 | .fail=>Nice.const _
 | .ret v r w=>hκ v r w
 | .bnd x k=>(Nice.const x).bind λa=>Nice.lx hκ (k a)
 | .nat x k=>(Nice.const x).bind λa=>Nice.lx hκ (k a)
 | .rows x k=>(Nice.const x).bind λa=>Nice.lx hκ (k a)
 | .cells x k=>(Nice.const x).bind λa=>Nice.lx hκ (k a)
 | .chk b k=>by
  simp only [LX.run];exact Nice.brn (Nice.lx hκ k) (Nice.const _)
 | .node x k=>(Nice.node _).bind λa=>Nice.lx hκ (k a)
 | .cnd a x y=>(Nice.const (JB a)).bind λ_=>Nice.brn (Nice.lx hκ x) (Nice.lx hκ y)
theorem Nice.run1 {C':Cfg} {o:Oper} {n:Nat} {fr:Nat->V} {st:jC} {nid:Nat} {κ:(Node->Option Out)->V->List Rd->List Wr->Option Out} (hκ:∀v r w,Nice C λM=>κ M v r w):Nice C λM=>Abs.run1 C' M o n fr st nid (κ M):=by
 unfold Abs.run1;split
 .exact hκ _ _ _
 .exact (Nice.dx _).bind λa=>hκ _ _ _
 .split
  .exact Nice.lx hκ _
  .exact Nice.const _
theorem Nice.stepOp {C':Cfg} {ops:Array Oper} {o:Oper} {n:Nat} {fr:Nat->V} {st:jC} {nid:Nat} {gs:List GE} {κ:(Node->Option Out)->V->List Rd->List Wr->List GE->Option Out} (hκ:∀v r w g,Nice C λM=>κ M v r w g):Nice C λM=>Abs.stepOp C' M ops o n fr st nid gs (κ M):=by
 unfold Abs.stepOp;split
 .exact Nice.run1 (κ:=λM v r w=>κ M v r w _) λ_ _ _=>hκ _ _ _ _
 .split
  .split
   .split
    .split
     .exact (Nice.const _).bind λa=>hκ _ _ _ _
     .exact (Nice.const _).bind λa=>hκ _ _ _ _
     .exact (Nice.pG (Nice.dx _)).bind λa=>hκ _ _ _ _
     .exact (Nice.const _).bind λb=>Nice.brn (Nice.run1 (κ:=λM v r w=>κ M v r w _) λ_ _ _=>hκ _ _ _ _) (hκ _ _ _ _)
    .exact Nice.const _
   .exact Nice.const _
  .exact Nice.const _
theorem Nice.evOps {C':Cfg} {ops:Array Oper} {n:Nat} {κ:(Node->Option Out)->(Nat->V)->jC->List Log->Option Out} (hκ:∀f s l,Nice C λM=>κ M f s l):∀(l:List Oper) (nid:Nat) (fr:Nat->V) (st:jC) (gs:List GE) (logs:List Log),
  Nice C λM=>Abs.evOps C' M ops n l nid fr st gs logs (κ M)
 | [],_,fr,st,_,logs=>hκ fr st logs
 | o::os,nid,fr,st,gs,logs=>Nice.stepOp (C':=C') (κ:=λM v rds wrs gs'=>Abs.evOps C' M ops n os (nid+8) (J8 fr o.dst v) (kV st wrs) gs' (logs++[(rds,wrs)]) (κ M)) λv rds wrs gs'=>Nice.evOps hκ os _ _ _ _ _
theorem Nice.evReg {C':Cfg} {ops:List Oper} {draw:Bool} {s:St} {κ:(Node->Option Out)->St->Option Out} (hκ:∀s,Nice C λM=>κ M s):Nice C λM=>Abs.evReg C' M ops draw s (κ M):=by
 unfold Abs.evReg;exact Nice.evOps (κ:=λM fr st logs=>Abs.brn (jpD (s.nx+8 * ops.length) logs) (Abs.brn (!draw || juK ops logs) (κ M ⟨s.n,fr,st,s.nx+8 * ops.length,s.sh⟩) none) none) (λ_ _ _=>Nice.brn (Nice.brn (hκ _) (Nice.const _)) (Nice.const _)) _ _ _ _ _ _
theorem Nice.again {f:FuncId} {p:List Nat} {mask:Nat} {s:St} :Nice C λM=>Abs.again M f p mask s:=by
 unfold Abs.again;dsimp only;split
 .split
  .exact Nice.node _
  .exact Nice.const _
 .exact Nice.const _
theorem Nice.againR {f:FuncId} {p:List Nat} {mask:Nat} {s:St} {rem:List (List A)} :Nice C λM=>Abs.againR M f p mask s rem:=by
 unfold Abs.againR Abs.again;dsimp only;split
 .split
  .exact Nice.node _
  .exact Nice.const _
 .exact Nice.const _
theorem Nice.evU {C':Cfg} {f:FuncId} {u:RngUn} {p:List Nat} {s:St} :Nice C λM=>Abs.evU C' M f u p s:=by
 unfold Abs.evU;refine Nice.evOps (κ:=λM fr st _=>Abs.brn (jzE C' u.t && Nat.blt u.d s.n) (match evF s.n fr u.x with
   | .d a=>(jqj a).bind λxs=>(match st (s.nx+8) with
    | .dead=>Abs.againR M f p (C'.kp f p) ⟨s.n,upd fr u.d (.ptr (s.nx+8) 0),upd st (s.nx+8) .gone,s.nx+9,s.sh⟩ xs
    | _=>none)
   | _=>none) none) (λfr st _=>Nice.brn ?_ (Nice.const _)) _ _ _ _ _ _
 split
 .refine (Nice.const _).bind λxs=> ?_;split
  .exact Nice.againR
  .exact Nice.const _
 .exact Nice.const _
theorem Nice.evC {f:FuncId} :∀(c:Code) (p:List Nat) (s:St) (κ:(Node->Option Out)->Ex->St->Option Out),(∀e s,Nice C λM=>κ M e s)->Nice C λM=>Abs.evC C M f c p s (κ M)
 | .skip,_,s,κ,h=>h _ _
 | .region _ ops draw,_,s,κ,h=>Nice.evReg (κ:=λM=>κ M .normal) λs=>h _ s
 | .seq a b,p,s,κ,h=>by
  simp only [Abs.evC];split
  .exact Nice.evU
  .refine Nice.evC a _ s (λM e s'=>match e with | .normal=>Abs.evC C M f b (p++[1]) s' (κ M)|e=>κ M e s') λe s'=> ?_;cases e
   .exact Nice.evC b _ s' κ h
   .exact h _ _
   .exact h _ _
 | .cond c x y,p,s,κ,h=>by
  simp only [Abs.evC];split
  .exact (Nice.const _).bind λt=>Nice.brn (Nice.evC x _ s κ h) (Nice.evC y _ s κ h)
  .rename_i n neg _;refine Nice.brn (Nice.bth (Nice.evC x _ s κ h) (Nice.evC y _ s κ h)) ?_;cases neg
   .exact Nice.evC y _ s κ h
   .exact Nice.evC x _ s κ h
  .exact Nice.const _
 | .block id b,p,s,κ,h=>Nice.evC b _ s (λM e s'=>match e with | .exit id'=>if Nat.beq id' id then κ M .normal s' else κ M (.exit id') s'|e=>κ M e s') λe s'=>by
  cases e
  .exact h _ _
  .dsimp only;split
   .exact h _ _
   .exact h _ _
  .exact h _ _
 | .loop _,p,s,_,_=>Nice.again
 | .exit id,_,s,κ,h=>h _ _
 | .ret,_,s,κ,h=>h _ _
 | .label _,_,s,κ,h=>h _ _
 | .rangeFunc _ _ _ _,_,_,_,_=>Nice.const _
 | .scope _,_,_,_,_=>Nice.const _
 | .goto _,_,_,_,_=>Nice.const _
 | .refuse _,_,_,_,_=>Nice.const _
theorem Nice.evAt {f:FuncId} :∀(c:Code) (r p:List Nat) (s:St) (κ:(Node->Option Out)->Ex->St->Option Out),(∀e s,Nice C λM=>κ M e s)->Nice C λM=>Abs.evAt C M f c r p s (κ M):=by
 intro c;induction c with
 | loop b ih=>
  intro r p s κ h;have hk:∀(e:Ex) (s':St),Nice C λM=>(match e with | .normal=>Abs.again M f p (C.kp f p) s'|e=>κ M e s'):=λe s'=>by
   cases e
   .exact Nice.again
   .exact h _ _
   .exact h _ _
  rcases r with _|⟨_|q,r⟩
  .exact Nice.evC b _ s (λM e s'=>match e with | .normal=>Abs.again M f p (C.kp f p) s'|e=>κ M e s') hk
  .exact ih r _ s (λM e s'=>match e with | .normal=>Abs.again M f p (C.kp f p) s'|e=>κ M e s') hk
  .exact Nice.const _
 | seq a b iha ihb=>
  intro r p s κ h;have hk:∀(e:Ex) (s':St),Nice C λM=>(match e with | .normal=>Abs.evC C M f b (p++[1]) s' (κ M)|e=>κ M e s'):=λe s'=>by
   cases e
   .exact Nice.evC b _ s' κ h
   .exact h _ _
   .exact h _ _
  rcases r with _|⟨_|_|q,r⟩
  .exact Nice.const _
  .exact iha r _ s (λM e s'=>match e with | .normal=>Abs.evC C M f b (p++[1]) s' (κ M)|e=>κ M e s') hk
  .exact ihb r _ s κ h
  .exact Nice.const _
 | cond c x y ihx ihy=>
  intro r p s κ h;rcases r with _|⟨_|_|q,r⟩
  .exact Nice.const _
  .exact ihx r _ s κ h
  .exact ihy r _ s κ h
  .exact Nice.const _
 | block id b ih=>
  intro r p s κ h;have hk:∀(e:Ex) (s':St),Nice C λM=>(match e with | .exit id'=>if Nat.beq id' id then κ M .normal s' else κ M (.exit id') s'|e=>κ M e s'):=λe s'=>by
   cases e
   .exact h _ _
   .dsimp only;split
    .exact h _ _
    .exact h _ _
   .exact h _ _
  rcases r with _|⟨_|q,r⟩
  .exact Nice.const _
  .exact ih r _ s (λM e s'=>match e with | .exit id'=>if Nat.beq id' id then κ M .normal s' else κ M (.exit id') s'|e=>κ M e s') hk
  .exact Nice.const _
 | _=>intro r p s κ h;exact Nice.const _
theorem Nice.allR {rem:List (List A)} {Z:(Node->Option Out)->Option Out} {g:(Node->Option Out)->List A->List (List A)->Option Out} (hz:Nice C Z) (hg:∀x r,Nice C λM=>g M x r):Nice C λM=>Abs.allR rem (Z M) (g M):=by
 by_cases h0:rem = []
 .subst h0;exact hz
 .refine ⟨λM M' r hM h=> ?_,λhc r h=> ?_⟩
  .rw [Q9 h0] at h ⊢;exact λi x hx=>(hg _ _).mono _ _ _ hM (h i x hx)
  .rw [Q9 h0] at h;have key:∀k,∃n,∀(i:Nat) (x:List A),i < k->rem[i]? = some x->g (Mn C n) x (rem.eraseIdx i)=some r:=by
    intro k;induction k with
    | zero=>exact ⟨0,λi x hi=>absurd hi (Nat.not_lt_zero _)⟩
    | succ k ih=>
     obtain ⟨n,hn⟩:=ih;cases hk:rem[k]? with
     | none=>
      refine ⟨n,λi x hi hx=> ?_⟩;by_cases e:i=k
      .subst e;rw [hk] at hx;cases hx
      .exact hn i x (by omega) hx
     | some y=>
      obtain ⟨n2,h2⟩:=(hg y (rem.eraseIdx k)).fin hc _ (h k y hk);refine ⟨max n n2,λi x hi hx=> ?_⟩;by_cases e:i=k
      .subst e;rw [hk] at hx;cases hx;exact (hg _ _).mono _ _ _ (jgx hc (Nat.le_max_right _ _)) h2
      .exact (hg _ _).mono _ _ _ (jgx hc (Nat.le_max_left _ _)) (hn i x (by omega) hx)
   obtain ⟨n,hn⟩:=key rem.length;refine ⟨n,?_⟩;rw [Q9 h0];exact λi x hx=>hn i x (qM.1 hx).1 hx
theorem Nice.roundK {f:FuncId} {rb:RngB} {p:List Nat} {was:Bool} {rem:List (List A)} {κ:(Node->Option Out)->Ex->St->Option Out} (h:∀e s,Nice C λM=>κ M e s) (e:Ex) (s:St):Nice C λM=>Abs.roundK C M f rb p was rem (κ M) e s:=by
 unfold Abs.roundK;split
 .refine (Nice.const _).bind λsh=> ?_;cases e with
  | normal=>exact Nice.againR
  | exit id=>
   dsimp only;split
   .exact Nice.againR
   .exact h _ _
  | ret=>exact h _ _
 .exact Nice.const _
theorem Nice.evIter {f:FuncId} {rb:RngB} {p:List Nat} {s:St} {rem:List (List A)} {κ:(Node->Option Out)->Ex->St->Option Out} (h:∀e s,Nice C λM=>κ M e s):Nice C λM=>Abs.evIter C M f rb p s rem (κ M):=by
 unfold Abs.evIter;split
 .refine Nice.brn (Nice.allR (h _ _) λx rem'=>Nice.brn ?_ (Nice.const _)) (Nice.const _);exact Nice.evOps (κ:=λM fr st _=>Abs.evC C M f rb.rest (p++[0,1,1,0,1]) ⟨s.n,fr,st,s.nx+8 * rb.ops4.length,some (_::shL s.sh)⟩ (Abs.roundK C M f rb p s.sh.isSome rem' (κ M))) (λfr st _=>Nice.evC _ _ _ _ λe s'=>Nice.roundK h e s') _ _ _ _ _ _
 .exact Nice.const _
theorem Nice.evAtR {f:FuncId} {rem:List (List A)} :∀(c:Code) (r p:List Nat) (s:St) (κ:(Node->Option Out)->Ex->St->Option Out),(∀e s,Nice C λM=>κ M e s)->Nice C λM=>Abs.evAtR C M f rem c r p s (κ M):=by
 intro c;induction c with
 | loop b ih=>
  intro r p s κ h;have hk:∀(e:Ex) (s':St),Nice C λM=>(match e with | .normal=>Abs.again M f p (C.kp f p) s'|e=>κ M e s'):=λe s'=>by
   cases e
   .exact Nice.again
   .exact h _ _
   .exact h _ _
  rcases r with _|⟨_|q,r⟩
  .simp only [Abs.evAtR];split
   .exact Nice.evIter h
   .exact Nice.const _
  .exact ih r _ s (λM e s'=>match e with | .normal=>Abs.again M f p (C.kp f p) s'|e=>κ M e s') hk
  .exact Nice.const _
 | seq a b iha ihb=>
  intro r p s κ h;have hk:∀(e:Ex) (s':St),Nice C λM=>(match e with | .normal=>Abs.evC C M f b (p++[1]) s' (κ M)|e=>κ M e s'):=λe s'=>by
   cases e
   .exact Nice.evC b _ s' κ h
   .exact h _ _
   .exact h _ _
  rcases r with _|⟨_|_|q,r⟩
  .exact Nice.const _
  .exact iha r _ s (λM e s'=>match e with | .normal=>Abs.evC C M f b (p++[1]) s' (κ M)|e=>κ M e s') hk
  .exact ihb r _ s κ h
  .exact Nice.const _
 | cond c x y ihx ihy=>
  intro r p s κ h;rcases r with _|⟨_|_|q,r⟩
  .exact Nice.const _
  .exact ihx r _ s κ h
  .exact ihy r _ s κ h
  .exact Nice.const _
 | block id b ih=>
  intro r p s κ h;have hk:∀(e:Ex) (s':St),Nice C λM=>(match e with | .exit id'=>if Nat.beq id' id then κ M .normal s' else κ M (.exit id') s'|e=>κ M e s'):=λe s'=>by
   cases e
   .exact h _ _
   .dsimp only;split
    .exact h _ _
    .exact h _ _
   .exact h _ _
  rcases r with _|⟨_|q,r⟩
  .exact Nice.const _
  .exact ih r _ s (λM e s'=>match e with | .exit id'=>if Nat.beq id' id then κ M .normal s' else κ M (.exit id') s'|e=>κ M e s') hk
  .exact Nice.const _
 | _=>intro r p s κ h;exact Nice.const _
theorem Nice.askAll {C':Cfg} :∀(qs:List (FuncId × List A)),Nice C λM=>Abs.askAll C' M qs
 | []=>Nice.const _
 | (f,as)::l=>by
  simp only [Abs.askAll];split
  .exact (Nice.node _).bind λ_=>(Nice.askAll l).bind λ_=>Nice.const _
  .exact Nice.const _
theorem Nice.extRun {C':Cfg} (x:ExtV) (args:List V) (objs:List Obj):Nice C λM=>Abs.extRun C' M x args objs:=
 (Nice.const _).bind λ_=>(Nice.askAll _).bind λ_=>Nice.const _
theorem Nice.step (x:Node):Nice C λM=>Abs.step C M x:=by
 cases x with
 | call f args=>
  simp only [Abs.step];split
  .exact Nice.const _
  .split
   .exact Nice.const _
   .split
    .split
     .exact Nice.brn (Nice.evC _ _ _ (λ_=>Yl C _ _) λe s=>Nice.const _) (Nice.const _)
     .exact Nice.const _
    .exact Nice.const _
 | callv f args objs=>
  simp only [Abs.step];split
  .exact Nice.extRun _ _ _
  .split
   .split
    .exact Nice.brn (Nice.evC _ _ _ (λ_=>Yl C _ _) λe s=>Nice.const _) (Nice.const _)
    .exact Nice.const _
   .exact Nice.const _
 | head f p fr objs sh=>
  simp only [Abs.step];split
  .split
   .exact Nice.evAt _ _ _ _ (λ_=>Yl C _ _) λe s=>Nice.const _
   .exact Nice.const _
  .exact Nice.const _
 | rhead f p fr objs sh rem=>
  simp only [Abs.step];split
  .split
   .exact Nice.evAtR _ _ _ _ (λ_=>Yl C _ _) λe s=>Nice.const _
   .exact Nice.const _
  .exact Nice.const _
theorem jbM:∀n,LeM (Mn C n) (Mn C (n+1))
 | 0,x,r,h=>by simp [Mn] at h
 | n+1,x,r,h=>(Nice.step x).mono _ _ _ (jbM n) h
theorem jDd {n:Nat} {x:Node} {r:Out} (h:Mn C n x=some r):MM C x=some r:=by
 unfold MM;have hx:∃r n,Mn C n x=some r:=⟨r,n,h⟩;rw [dif_pos hx];obtain ⟨n',h'⟩:=hx.choose_spec;have h1:=jgx jbM (Nat.le_max_left n n') x r h;have h2:=jgx jbM (Nat.le_max_right n n') x _ h';rw [h1] at h2;exact h2.symm
theorem jtZ {x:Node} {r:Out} (h:MM C x=some r):∃n,Mn C n x=some r:=(Nice.node x).fin jbM r h
theorem jHd (n:Nat):LeM (Mn C n) (MM C):=λ_ _ h=>jDd h
theorem jkR (x:Node):MM C x=step C (MM C) x:=by
 apply Option.ext;intro r;constructor
 .intro h;obtain ⟨n,hn⟩:=jtZ h;cases n with
  | zero=>simp [Mn] at hn
  | succ n=>exact (Nice.step x).mono _ _ _ (jHd n) hn
 .intro h;obtain ⟨n,hn⟩:=(Nice.step x).fin jbM r h;exact jDd (n:=n+1) hn
end
end
noncomputable section
def QO {α:Type} (d:α) (x:Nat):List (Nat × α)->α
 | []=>d
 | (y,a)::l=>bif Nat.beq x y then a else QO d x l
def jxo (p:List Nat):List (List Nat × Nat)->Nat
 | []=>0
 | (q,m)::l=>bif eqP p q then m else jxo p l
def jKs (tab:List (Nat × List (List Nat × Nat))) (f:FuncId) (p:List Nat):Nat:=jxo p (QO [] f tab)
theorem jBa {C:Cfg} {f:FuncId} {fn:Func} {c:Code} {args:List A} (h1:C.ext f=none) (h2:C.pureF f=true) (h3:C.P.funcs[f]? = some fn) (h4:fn.body=some c) (h5:Nat.ble args.length fn.ntmps=true) :
  MM C (.call f args)=evC C (MM C) f c [] (ja5 fn args) (Yl C f fn):=by
 rw [jkR];simp only [step,h1,h2,h3,h4,h5,brn,Jm]
theorem jEo {C:Cfg} {f:FuncId} {x:List A->Option Out} {args:List A} (h1:C.ext f=some x):MM C (.call f args)=x args:=by
 rw [jkR];simp only [step,h1]
theorem jxe {C:Cfg} {f:FuncId} {fn:Func} {c:Code} {args:List V} {objs:List Obj} (h1:C.extv f=none) (h3:C.P.funcs[f]? = some fn) (h4:fn.body=some c) (h5:Nat.ble args.length fn.ntmps=true) :
  MM C (.callv f args objs)=evC C (MM C) f c [] (jdT fn args objs) (Yl C f fn):=by
 rw [jkR];simp only [step,h1,h3,h4,h5,brn,Jm]
theorem jBb {C:Cfg} {f:FuncId} {args:List V} {objs:List Obj} {x:ExtV} (h1:C.extv f=some x):MM C (.callv f args objs)=extRun C (MM C) x args objs:=by
 rw [jkR];simp only [step,h1]
theorem jBc {C:Cfg} {f:FuncId} {fn:Func} {c:Code} {p:List Nat} {fr:List V} {objs:List Obj} {sh:Option (List Nat)} (h3:C.P.funcs[f]? = some fn) (h4:fn.body=some c) :
  MM C (.head f p fr objs sh)=evAt C (MM C) f c p [] (St.of fn.ntmps fr objs sh) (Yl C f fn):=by
 rw [jkR];simp only [step,h3,h4]
theorem jxf {C:Cfg} {f:FuncId} {fn:Func} {c:Code} {p:List Nat} {fr:List V} {objs:List Obj} {sh:Option (List Nat)} {rem:List (List A)} (h3:C.P.funcs[f]? = some fn) (h4:fn.body=some c) :
  MM C (.rhead f p fr objs sh rem)=evAtR C (MM C) f rem c p [] (St.of fn.ntmps fr objs sh) (Yl C f fn):=by
 rw [jkR];simp only [step,h3,h4]
end
end Go.Proofs.YtbidbdhamhbebaaGreatDoor.Abs
