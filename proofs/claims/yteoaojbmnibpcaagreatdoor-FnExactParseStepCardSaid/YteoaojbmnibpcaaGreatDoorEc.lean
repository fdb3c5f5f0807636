/- Ec -/
import Derived.Test.YteoaojbmnibpcaaGreatDoorEb
namespace Go.Proofs.YteoaojbmnibpcaaGreatDoor.Abs
open Go Go.RowKit
set_option linter.unusedSimpArgs false
set_option linter.unusedVariables false
noncomputable section
def jtJ(bytes:Nat)(l c:Int):Prop:=0<=l/\l<=c/\(bytes:Int)*c<=281474976710656/\c<=9223372036854775807
noncomputable instance(b:Nat)(l c:Int):Decidable (jtJ b l c):=Classical.propDecidable _
def jes(bytes:Nat)(a b:A):Option Nat:=
 match a,b with
 |.val (.int _ l),.val (.int _ c)=>if jtJ bytes l c then some l.toNat else none
 |_,_=>none
def jbh(xs:Xc)(i:Nat):Option Xd:=xs[i]?
def kS(cs:Xd)(j:Nat)(ds:Xd):Xd:=over cs j ds
def jjI(n:Nat)(z:Xd):Xc:=List.replicate n z
def J4(us ys:Xc):Xc:=us++ys
def kg(xs:Xc):Nat:=xs.length
def zq(n bytes:Nat):Bool:=decide (n*bytes<=140737488355328/\n<=9223372036854775807)
def Jh(k:Nat)(a:A):Option Xc:=match a with|.sl k' xs=>if k'=k then some xs else none|_=>none
def jf6(id:Nat):Xn->Bool
 | []=>true
 |w::ws=> !Nat.beq w.id id && jf6 id ws
def jcQ(C:Cfg)(e:Nat)(i:TI)(st:jg):List (Nat×V)->List (Nat×Xd)->Xm->Xn->(List (Nat×Xd)->Xm->Xn->LX)->LX
 | [],acc,r,ws,k=>k acc r ws
 |(q,v)::ps,acc,r,ws,k=>Ki i.kind.plain i.size (nilV C.D e v) λvs=>match zL st vs with
  |some (ds,r',ws')=>if Nat.beq ds.length i.size then jcQ C e i st ps (acc++[(q,ds)]) (r++r') (ws++ws') k else .fail
  |none=>.fail
def jcS(C:Cfg)(s:Nat):List (Nat×V)->Xj->(Xj->LX)->LX
 | [],cs,k=>k cs
 |(q,v)::ps,cs,k=>match zg C s q with
  |some (off,j)=>Ki j.kind.plain j.size v λds=>if Nat.beq ds.length j.size && Nat.ble (off+j.size) cs.length then jcS C s ps (over cs off ds) k else .fail
  |none=>.fail
def setRows(rows:Xc):List (Nat×Xd)->Xc
 | []=>rows
 |(q,ds)::ps=>setRows (rows.set q ds) ps
def Ql(n:Nat):List (Nat×Xd)->Bool
 | []=>true
 |(q,_)::ps=>Nat.blt q n && Ql n ps
def jpz(xs:Xc):Bool:=xs.flatten.all j6
def jjZ(st:jg)(k:Nat)(v:V)(kk:Xc->Xm->LX):LX:=
 match v with
 |.nil _=>kk [] []
 |.d a=>.rows (Jh k a) λys=>kk ys []
 |.row id=>(match st id with
  |.row k' ys=>if Nat.beq k' k then kk ys [.obj id (.row k' ys)]else .fail
  |.fro k' ys=>if Nat.beq k' k then kk ys [.obj id (.fro k' ys)]else .fail
  |.tre f k' ys=>if Nat.beq k' k then .chk (jpz ys) (kk ys [.obj id (.tre f k' ys)])else .fail
  |_=>.fail)
 |.sub id ii kw j=>(match st id with
  |.tre true k' xs=>if Nat.beq k' kw && Nat.blt j kw then .cells (jbh xs ii) λcs=>.rows (Jh k (jd cs j)) λys=>.chk (jpz ys) (kk ys [.telem id true ii kw cs])else .fail
  |_=>.fail)
 |.win _ _ _ _=>(match jav st v with
  |some p=>if Nat.beq p.k k then kk (jw1 p.xs p.off p.n) [.obj p.id (.row p.k p.xs)]else .fail
  |none=>.fail)
 |_=>.fail
def jxu:V->Bool
 |.win _ _ _ _=>true
 |_=>false
def jrp(st:jg)(k:Nat)(v:V)(l h:Xl):LX:=
 match jav st v with
 |some p=>if Nat.beq p.k k then .nat (pB p.n (juL p.xs p.off) h) λh'=>.nat (pLo h' l) λl'=>.ret (.win p.id p.k (jqJ p.off l') (jwU h' l')) [.len p.id p.k p.xs.length] []else .fail
 |none=>.fail
def jac:Abs.Obj->Bool
 |.dead=>true
 |_=>false
def jbQ(o:Out):Nat->Nat->(Xd->LX)->LX
 |0,_,k=>k []
 |n+1,i,k=>.bnd (hD o i) λa=>jbQ o n (i+1) λas=>k (a::as)
def jgY(o:Out):Xf->Nat->(List Xc->LX)->LX
 | [],_,k=>k []
 |w::ks,i,k=>.rows (hR w o i) λr=>jgY o ks (i+1) λrs=>k (r::rs)
def jgv(b:Bool)(sg:SigA)(st:jg)(nid:Nat)(ids:Xf)(p:Nat)(as:Xd)(rs:List Xc):LX:=
 .ret (bk (ids++KD nid (p+sg.nw.length)) (sg.r.toV as)) (Qk st ids++K3 (KD nid (p+sg.nw.length))) (Z7 (ids++KD nid (p+sg.nw.length)) ((sg.objsB b as rs).map (bkO (ids++KD nid (p+sg.nw.length)))))
def jsi(sg:SigA)(st:jg)(nid:Nat)(ids:Xf)(p:Nat)(as:Xd)(rs:List Xc):LX:=
 match jkC sg.ks with
 |none=>jgv true sg st nid ids p as rs
 |some i=>.cnd (as.getD i .top) (jgv true sg st nid ids p as rs) (jgv false sg st nid ids p as rs)
def jj0(ex keep:Bool)(st:jg)(nid:Nat)(g:FuncId)(sgs:Sig)(vs:Xj):LX:=
 match Zk keep st vs with
 |some (ids,vs2,objs,p)=>(match qT objs.length sgs with
  |some sg=>if(objs.all jcz || (ex && objs.all jaW)) && (KD nid (p+sg.nw.length)).all (λi=>jac (st i))then
    .node (.callv g vs2 objs) λout=>jbQ out sg.nd 0 λas=>jgY out sg.ks sg.nd λrs=>
     jsi sg st nid ids p as rs
   else .fail
  |none=>.fail)
 |none=>.fail
def eqA(a b:A):Bool:=@decide (a=b) (Classical.propDecidable _)
def jg3:Xj->Xj->LX->LX
 | [],[],k=>k
 |.d a::xs,.d b::ys,k=>.chk (eqA a b) (jg3 xs ys k)
 |_,_,_=>.fail
def jp2(st:jg):Xn->LX->LX
 | [],k=>k
 |.obj i (.box ys)::ws,k=>(match st i with
  |.box xs=>jg3 xs ys (jp2 st ws k)
  |_=>.fail)
 |_::_,_=>.fail
def jcA(keep:Bool)(st:jg)(nid:Nat)(g:FuncId)(sgs:Sig)(vs:Xj):LX:=
 match Zk keep st vs with
 |some (ids,vs2,objs,p)=>(match qT objs.length sgs with
  |some sg=>if objs.all jcz && (KD nid (p+sg.nw.length)).all (λi=>jac (st i))then
    .node (.callv g vs2 objs) λout=>jbQ out sg.nd 0 λas=>jgY out sg.ks sg.nd λrs=>
     jp2 st (Z7 (ids++KD nid (p+sg.nw.length)) ((sg.objs as rs).map (bkO (ids++KD nid (p+sg.nw.length)))))
      (.ret (bk (ids++KD nid (p+sg.nw.length)) (sg.r.toV as)) (Qk st ids++K3 (KD nid (p+sg.nw.length))) [])
   else .fail
  |none=>.fail)
 |none=>.fail
def jsF:Xd->LX->LX
 | [],k=>k
 |a::as,k=>.chk (kT a) (jsF as k)
def jg2:Xf->List Xc->LX->LX
 |kk::ks,r::rs,k=>if Nat.ble 64 kk then jg2 ks rs k else .chk (jca r) (jg2 ks rs k)
 |_,_,k=>k
def jgj(b th:Bool)(sg:SigA)(nid:Nat)(rds:Xm)(as:Xd)(rs:List Xc):LX:=
 .ret (bk (KD nid sg.nw.length) (sg.r.toV as)) (rds++K3 (KD nid sg.nw.length)) (Z7 (KD nid sg.nw.length) ((sg.objsB b as rs).map λo=>thO th (bkO (KD nid sg.nw.length) o)))
def jsd(th:Bool)(sg:SigA)(nid:Nat)(rds:Xm)(as:Xd)(rs:List Xc):LX:=
 match jkC sg.ks with
 |none=>jgj true th sg nid rds as rs
 |some i=>.cnd (as.getD i .top) (jgj true th sg nid rds as rs) (jgj false th sg nid rds as rs)
def jjK(th:Bool)(st:jg)(nid:Nat)(g:FuncId)(sgs:Sig)(vs:Xj):LX:=
 match zZ st 60 vs,qT 0 sgs with
 |some (as0,rds),some sg=>if(KD nid sg.nw.length).all (λi=>jac (st i)) && sg.ks.all rdK then
   .node (.callv g (as0.map V.d) []) λout=>jbQ out sg.nd 0 λas=>jgY out sg.ks sg.nd λrs=>
    jsF as (jg2 sg.ks rs <|jsd th sg nid rds as rs)
  else .fail
 |_,_=>.fail
def QP(cs:Xd)(j n:Nat):Bool:=((cs.drop j).take n).all j6
def Y9:Xj->LX->LX
 | [],k=>k
 |.d a::vs,k=>.chk (j6 a) (Y9 vs k)
 |_::vs,k=>Y9 vs k
def jdp(st:jg)(id ii k j n:Nat)(f:Bool)(xs:Xc)(vs:Xj):LX:=
 match f with
 |false=>(match Qp st vs with
  |some (as,is,rs)=>if YF is && (!Yu id is && Nat.beq vs.length n)then Y9 vs (.cells (jbh xs ii) λcs=>.ret (.d (.val undef)) (.telem id false ii k cs::rs) (ky is++[.elem id ii (kS cs j as)]))else .fail
  |none=>.fail)
 |true=>(match K1 vs with
  |some ds=>if Nat.beq ds.length n then Y9 (ds.map V.d) (.cells (jbh xs ii) λcs=>.chk (QP cs j n) (.ret (.d (.val undef)) [.telem id true ii k cs] [.elem id ii (kS cs j ds)]))else .fail
  |none=>.fail)
def jn5:TK->Bool
 |.slice _=>true
 |_=>false
def jw6(D:Nat->Option TI)(i:TI):Option Nat:=
 match i.kind with
 |.struct fs=>(match fs[1]? with
  |some (_,t)=>(match D t with
   |some j=>(match j.kind with
    |.slice e=>(match D e with|some je=>some je.size|none=>none)
    |_=>none)
   |none=>none)
  |none=>none)
 |_=>none
def jj7(D:Nat->Option TI)(st:jg)(nid:Nat)(i:TI)(v:V):LX:=
 match v,jw6 D i with
 |.rptr id ii k j,some l=>(match st id with
  |.tre false k' xs=>if(Nat.beq k' 2 && (Nat.beq k 2 && Nat.beq j 0)) && (i.kind.known && (Nat.beq i.size 2 && (jac (st nid) && !Nat.beq nid id)))then(.cells (jbh xs ii) λcs=>.chk (j6 (jd cs 0)) (.rows (Jh l (jd cs 1)) λys=>.ret (.agg [.d (jd cs 0),.row nid]) [.telem id false ii 2 cs,.fresh nid] [.obj nid (.tre true l ys),.elem id ii (kS cs 1 [.top])]))else .fail
  |_=>.fail)
 |_,_=>.fail
def jgB(D:Nat->Option TI)(nid:Nat)(st:jg)(i:TI)(v:V):LX:=
 if i.kind.plain then(match v with
  |.rptr id ii k j=>(match st id with
   |.tre f k' xs=>if Nat.beq k' k then(.cells (jbh xs ii) λcs=>if jn5 i.kind && f then .chk (jaP (jd cs j)) (.ret (.sub id ii k j) [.telem id true ii k cs] [])else .chk (j6 (jd cs j)) (.ret (.d (jd cs j)) [.telem id f ii k cs] []))else .fail
   |_=>.fail)
  |_=>.fail)else jj7 D st nid i v
def jfx:Xj->Option Xj
 | []=>some []
 |.d a::vs=>(jfx vs).map (.d a::·)
 |_=>none
def jap:Xj->Option (Xj×(Nat×Nat×Nat×Nat))
 | []=>none
 |.d a::vs=>(jap vs).map λp=>(.d a::p.1,p.2)
 |.sub id i k j::vs=>(jfx vs).map λvs'=>(.row 0::vs',(id,i,k,j))
 |_=>none
def jgx(st:jg)(g:FuncId)(sgs:Sig)(p:Xj×(Nat×Nat×Nat×Nat)):LX:=
 match p with
 |(vs2,id,i,k,j)=>(match qT 1 sgs,st id with
  |some sg,.tre true k' xs=>(match sg.ws,sg.nw,sg.ks with
   | [.io 0],[],[kk]=>if Nat.beq k' k && (Nat.beq (kk-64+64) kk && Nat.blt kk 128)then
     .cells (jbh xs i) λcs=>.rows (Jh (kk-64) (jd cs j)) λys=>.node (.callv g vs2 [.tre true (kk-64) ys]) λout=>jbQ out sg.nd 0 λas=>.rows (hR kk out sg.nd) λr=>.ret (bk [] (sg.r.toV as)) [.telem id true i k cs] [.elem id i (kS cs j [.sl (kk-64) r])]
    else .fail
   |_,_,_=>.fail)
  |_,_=>.fail)
def jdk:Xj->Option (Xj×Nat)
 | []=>none
 |.d a::vs=>(jdk vs).map λp=>(.d a::p.1,p.2)
 |.row id::vs=>(jfx vs).map λvs'=>(.row 0::vs',id)
 |_=>none
def jbr(st:jg)(sgs:Sig)(vs:Xj):Option (Xj×Nat×Nat×Xc):=
 match jdk vs with
 |some (vs2,id)=>(match st id,qT 1 sgs with
  |.row k xs,some sg=>(match sg.ks with
   | [kk]=>if Nat.beq (k+64) kk then some (vs2,id,k,xs)else none
   |_=>none)
  |_,_=>none)
 |none=>none
def jb9(g:FuncId)(sgs:Sig)(q:Xj×Nat×Nat×Xc):LX:=
 match q with
 |(vs2,id,k,xs)=>(match qT 1 sgs with
  |some sg=>(match sg.ws,sg.nw,sg.ks with
   | [.io 0],[],[kk]=>if Nat.beq (k+64) kk && Nat.blt kk 128 then
     .chk (jpz xs) (.node (.callv g vs2 [.tre true k xs]) λout=>jbQ out sg.nd 0 λas=>.rows (hR kk out sg.nd) λr=>.ret (bk [] (sg.r.toV as)) [.obj id (.row k xs)] [.obj id (.row k r)])
    else .fail
   |_,_,_=>.fail)
  |none=>.fail)
def Qi(C:Cfg)(st:jg)(g:FuncId)(vs:Xj):LX:=
 match zZ st 60 vs with
 |some (as,rds)=>if C.pureF g then .node (.call g as) λout=>.bnd (fin false out) λx=>.ret (.d x) rds (ky (zi rds))else .fail
 |none=>.fail
def jdc(C:Cfg)(st:jg)(g:FuncId)(vs:Xj):LX:=
 match Zr st vs with
 |some (as,p)=>if C.pureF g then .node (.call g as) λout=>.bnd (fin false out) λx=>.ret (.d x) (qp p) (qt p)else .fail
 |none=>match vs with
 | [v]=>(match jiv st v with
  |some (a,r,ws)=>if C.pureF g then .node (.call g [a]) λout=>.bnd (fin false out) λx=>.ret (.d x) r ws else .fail
  |none=>Qi C st g [v])
 |_=>Qi C st g vs
def jjl(C:Cfg)(t:Nat):Bool:=match C.D t with|some i=>(match i.kind with|.int _=>true|_=>false)|none=>false
def juK(a:A):Option Xc:=match a with|.sl _ xs=>some xs|_=>none
def jr4(st:jg)(v:V)(neg:Bool):LX:=
 match v with
 |.d a=>.rows (juK a) λys=>.ret (.ub (jmy ys) neg) [] []
 |.nil _=>.ret (.ub 0 neg) [] []
 |.row id=>(match st id with
  |.row k xs=>.ret (.ub (jmy xs) neg) [.obj id (.row k xs)] []
  |.fro k xs=>.ret (.ub (jmy xs) neg) [.obj id (.fro k xs)] []
  |_=>.fail)
 |_=>.fail
def jcR(C:Cfg)(e:Nat)(i:TI):List (Nat×V)->Nat->List Xj->(List Xj->LX)->LX
 | [],_,acc,k=>k acc
 |(q,v)::ps,n,acc,k=>if Nat.beq q n then Ki i.kind.plain i.size (nilV C.D e v) λvs=>if Nat.beq vs.length i.size then jcR C e i ps (n+1) (acc++[vs]) k else .fail else .fail
def Ju(st:jg):Xj->LX->LX
 | [],k=>k
 |.d a::vs,k=>.chk (j6 a) (Ju st vs k)
 |.row id::vs,k=>(match st id with|.row _ ys=>.chk (jpz ys) (Ju st vs k)|_=>Ju st vs k)
 |_::vs,k=>Ju st vs k
def jnw(C:Cfg)(st:jg)(nid:Nat)(e:Nat)(i:TI)(n:Nat)(ps:List (Nat×V)):LX:=
 if Nat.beq ps.length n then jcR C e i ps 0 [] λvss=>Ju st vss.flatten (match Ko st vss with
  |some (xs,is,rs)=>if YF is then .ret (.row nid) (.fresh nid::rs) (ky is++[.obj nid (.tre true i.size xs)])else .fail
  |none=>.fail)else .fail
def jnm(st:jg)(nid:Nat)(tr mf:Bool)(i:TI)(s x:V):Option LX:=
 match s with
 |.nil _=>if tr then(match x with
   |.row id2=>(match st id2 with
    |.tre f2 k2 ys=>some (if Nat.beq k2 i.size then .chk (zq (kg ys) i.bytes) (.ret (.row nid) [.fresh nid,.obj id2 (.tre f2 i.size ys)] (ky [id2]++[.obj nid (.tre (!mf) i.size ys)]))else .fail)
    |_=>none)
   |_=>none)else none
 |.row id=>(match st id with
  |.tre f k us=>(match x with
   |.row id2=>(match st id2 with
    |.tre f2 k2 ys=>some (if Nat.beq k i.size && (Nat.beq k2 i.size && !Nat.beq id id2)then .chk (zq (kg us+kg ys) i.bytes) (.ret (.row nid) [.fresh nid,.obj id (.tre f i.size us),.obj id2 (.tre f2 i.size ys)] (ky [id,id2]++[.obj nid (.tre (!mf) i.size (J4 us ys))]))else .fail)
    |_=>some .fail)
   |_=>some .fail)
  |_=>none)
 |.sub id ii k j=>(match st id with
  |.tre true k' xs=>some (if Nat.beq k' k && Nat.blt j k then .cells (jbh xs ii) λcs=>.rows (Jh i.size (jd cs j)) λys=>.chk (jpz ys) (jjZ st i.size x λzs r=>.chk (zq (kg ys+kg zs) i.bytes) (.ret (.row nid) (.fresh nid:: .obj id (.tre true k xs)::r) (ky [id]++[.obj nid (.row i.size (J4 ys zs))])))else .fail)
  |_=>some .fail)
 |_=>none
def evL(C:Cfg)(o:Oper)(ρ:Operand->V)(st:jg)(nid:Nat):LX:=
 match o.op with
 |.box t x=>(match C.D t with
  |some i=>if i.kind.known then Ki i.kind.plain i.size (nilV C.D t (ρ x)) λds=>.ret (.ptr nid 0) [.fresh nid] [.obj nid (.box ds)]else .fail
  |none=>.fail)
 |.alloc t=>(match C.D t with
  |some i=>qW (zeroV C t i) (.ret (.ptr nid 0) [.fresh nid] [.obj nid (.box (zeroV C t i))])
  |none=>.fail)
 |.makeMap _ none=>.ret (.row nid) [.fresh nid] [.obj nid (.map [])]
 |.mapUpdate t x k y=>(match C.D t,dat (ρ k)with
  |some ti,some ka=>(match ti.kind with
   |.map kt et=>(match C.D kt with
    |some ki=>(match jqw ki.kind,ρ x,jg7 (nilV C.D et (ρ y))with
     |some ks,.row id,some va=>(match st id with
      |.map xs=>.rows (jte ks xs ka va) λys=>.ret (.d (.val undef)) [.obj id (.map xs)] [.obj id (.map ys)]
      |_=>.fail)
     |_,_,_=>.fail)
    |none=>.fail)
   |_=>.fail)
  |_,_=>.fail)
 |.store t a x=>(match C.D t with
  |some i=>if i.kind.known then(match ρ a with
   |.ptr id off=>(match st id with
    |.box cs=>Ki i.kind.plain i.size (nilV C.D t (ρ x)) λds=>if Nat.beq ds.length i.size && Nat.ble (off+i.size) cs.length then .ret (.d (.val undef)) [.blen id cs.length] (Zy id off ds)else .fail
    |_=>.fail)
   |.rptr id ii k j=>(match st id with
    |.row k' xs=>if Nat.beq k' k && Nat.ble (j+i.size) k then Ki i.kind.plain i.size (nilV C.D t (ρ x)) λvs=>(match zL st vs with
      |some (ds,r,ws)=>if Nat.beq ds.length i.size && jf6 id ws then .cells (jbh xs ii) λcs=>.ret (.d (.val undef)) (.elem id ii k cs::r) (ws++[.elem id ii (kS cs j ds)])else .fail
      |none=>.fail)
     else .fail
    |.tre f k' xs=>if Nat.beq k' k && Nat.ble (j+i.size) k then Ki i.kind.plain i.size (nilV C.D t (ρ x)) λvs=>jdp st id ii k j i.size f xs vs else .fail
    |_=>.fail)
   |_=>.fail)else .fail
  |none=>.fail)
 |.load t x=>(match C.D t with
  |some i=>jgB C.D nid st i (ρ x)
  |none=>.fail)
 |.binOp op t x y _=>if jfO y && jsZ op then(match C.D t with
  |some ti=>(match ti.kind with
   |.slice _=>jr4 st (ρ x) (jhx op)
   |_=>.fail)
  |none=>.fail)else .fail
 |.makeSlice t x y=>(match C.D t with
  |some ti=>(match ti.kind with
   |.slice e=>(match C.D e,dat (ρ x),dat (ρ y)with
    |some i,some a,some b=>if C.tr then(match jmZ (zeroV C e i)with
     |some z=>.nat (jes i.bytes a b) λl=>.chk (z.all kj) (.ret (.row nid) [.fresh nid] [.obj nid (.tre false i.size (jjI l z))])
     |none=>.fail)else(match K1 (zeroV C e i)with
     |some z=>.nat (jes i.bytes a b) λl=>.chk (z.all kj) (.ret (.row nid) [.fresh nid] [.obj nid (.row i.size (jjI l z))])
     |none=>.fail)
    |_,_,_=>.fail)
   |_=>.fail)
  |none=>.fail)
 |.buildSlice t n ps=>(match C.D t with
  |some ti=>(match ti.kind with
   |.slice e=>(match C.D e with
    |some i=>if Nat.beq n 0 then(if ps.size=0 then .ret (.nil i.size) [] []else .fail)else
     if i.kind.known && Nat.blt 0 i.size && Nat.ble (n*i.size) 16777216 then(if C.tr then jnw C st nid e i n (ps.toList.map λp=>(p.1,ρ p.2))else match K1 (zeroV C e i)with
     |some z=>.chk (z.all kj) (jcQ C e i st (ps.toList.map λp=>(p.1,ρ p.2)) [] [] [] λparts r ws=>
       if Ql n parts then .ret (.row nid) (.fresh nid::r) (ws++[.obj nid (.row i.size (setRows (List.replicate n z) parts))])else .fail)
     |none=>.fail)else .fail
    |none=>.fail)
   |_=>.fail)
  |none=>.fail)
 |.indexAddr t x ix=>(match C.D t with
  |some ti=>(match ti.kind with
   |.slice e=>(match C.D e,ρ x,dat (ρ ix)with
    |some i,.row id,some b=>(match st id with
     |.row k xs=>if Nat.beq k i.size then .nat (pIx (kg xs) b) λn=>.ret (.rptr id n i.size 0) [.len id i.size xs.length] []else .fail
     |.tre f k xs=>if Nat.beq k i.size then .nat (pIx (kg xs) b) λn=>.ret (.rptr id n i.size 0) [.tlen id f i.size xs.length] []else .fail
     |_=>.fail)
    |some i,.win id k off n,some b=>(match st id with
     |.row k' xs=>if Nat.beq k' i.size && Nat.beq k i.size then .nat (pIx n b) λj=>.ret (.rptr id (jqJ off j) i.size 0) [.len id i.size xs.length] []else .fail
     |_=>.fail)
    |_,_,_=>.fail)
   |_=>.fail)
  |none=>.fail)
 |.slice t x lo hi none=>(match C.D t with
  |some ti=>(match ti.kind with
   |.slice e=>(match C.D e,ρ x,(match lo with|none=>some none|some y=>(dat (ρ y)).map some),(match hi with|none=>some none|some y=>(dat (ρ y)).map some)with
    |some i,.win id k off n,some l,some h=>jrp st i.size (.win id k off n) l h
    |some i,.nil _,some l,some h=>.nat (pB 0 0 h) λh'=>.nat (pLo h' l) λ_=>.ret (.nil i.size) [] []
    |some i,.row id,some l,some h=>if C.win then jrp st i.size (.row id) l h else(match st id with
     |.row k xs=>if Nat.beq k i.size then .bnd (jai i.size (.sl i.size xs) l h) λr=>.ret (.d r) [.obj id (.row i.size xs)] [.obj id (.fro i.size xs)]else .fail
     |_=>.fail)
    |_,_,_,_=>.fail)
   |_=>.fail)
  |none=>.fail)
 |.slice t x (some l) (some h) (some m)=>if !jch l h m then(match C.D t with
  |some ti=>(match ti.kind with
   |.slice e=>(match C.D e,jav st (ρ x),dat (ρ l),dat (ρ h),dat (ρ m)with
    |some i,some p,some l',some h',some m'=>if Nat.beq p.k i.size then .nat (pB 0 (juL p.xs p.off) (some m')) λmm=>.nat (pB 0 mm (some h')) λhh=>.nat (pB 0 hh (some l')) λ_=>.ret .top [.len p.id p.k p.xs.length] []else .fail
    |_,_,_,_,_=>.fail)
   |_=>.fail)
  |none=>.fail)else(match C.D t,ρ l,ρ h,ρ m with
  |some ti,.d (.val (.int _ 0)),.d (.val (.int _ 0)),.d (.val (.int _ 0))=>(match ti.kind with
   |.slice e=>(match C.D e,ρ x with
    |some i,.d a=>.rows (Jh i.size a) λ_=>.ret (.nil i.size) [] []
    |_,_=>.fail)
   |_=>.fail)
  |_,_,_,_=>.fail)
 |.build t ps=>(match C.D t with
  |some i=>(match i.kind with
   |.struct fs=>if Jv C fs then jcS C t (y7 C fs (ps.toList.map λp=>(p.1,ρ p.2))) (zeroV C t i) λcs=>.ret (.agg cs) [] []else .fail
   |_=>.fail)
  |none=>.fail)
 |.call c=>(match c.callee with
  |.builtin .append=>(match c.args.toList,c.argTypes.toList with
   | [s,x],[t,t']=>if jjl C t' then(match C.D t with
    |some ti=>(match ti.kind with
     |.slice e=>(match C.D e with
      |some i=>(match ρ s,dat (ρ x),K1 (zeroV C e i)with
       |.nil _,some a,some z=>.nat (jes i.bytes a a) λl=>.chk (zq l i.bytes) (.chk (z.all kj) (.ret (.row nid) [.fresh nid] [.obj nid (.row i.size (jjI l z))]))
       |_,_,_=>.fail)
      |none=>.fail)
     |_=>.fail)
    |none=>.fail)else if Nat.beq t t' then(match C.D t with
    |some ti=>(match ti.kind with
     |.slice e=>(match C.D e with
      |some i=>(match jnm st nid C.tr C.mf i (ρ s) (ρ x)with|some l=>l|none=>match ρ s with
       |.nil _=>jjZ st i.size (ρ x) λys r=>.chk (zq (kg ys) i.bytes) (.ret (.row nid) (.fresh nid::r) [.obj nid (.row i.size ys)])
       |.row id=>(match st id with
        |.row k us=>if Nat.beq k i.size && !Nat.beq nid id then jjZ st i.size (ρ x) λys r=>.chk (zq (kg us+kg ys) i.bytes) (.ret (.row nid) (.fresh nid:: .obj id (.row i.size us)::r) [.obj id .gone,.obj nid (.row i.size (J4 us ys))])else .fail
        |_=>.fail)
       |.win id k off n=>(match jav st (.win id k off n)with
        |some p=>if Nat.beq p.k i.size then jjZ st i.size (ρ x) λys r=>.chk (jr8 p.off p.n ys p.xs) (.ret (.win p.id p.k p.off (jqJ p.n (jmy ys))) (.obj p.id (.row p.k p.xs)::r) [.obj p.id (.row p.k (KJ p.xs (jqJ p.off p.n) ys))])else .fail
        |none=>.fail)
       |_=>.fail)
      |none=>.fail)
     |_=>.fail)
    |none=>.fail)else .fail
   |_,_=>.fail)
  |.builtin .cap=>(match c.args.toList,c.argTypes.toList with
   | [x],[t]=>(match C.D t with
    |some ti=>(match ti.kind with
     |.slice _=>(match ρ x with
      |.nil _=>.ret (.d (vi 0)) [] []
      |_=>.fail)
     |_=>.fail)
    |none=>.fail)
   |_,_=>.fail)
  |.builtin .copy=>(match c.args.toList,c.argTypes.toList with
   | [s,x],[t,_]=>(match C.D t with
    |some ti=>(match ti.kind with
     |.slice e=>(match C.D e,jav st (ρ s)with
      |some i,some p=>if Nat.beq p.k i.size then jjZ st i.size (ρ x) λys r=>.ret (.d (jw0 ys p.n)) (.obj p.id (.row p.k p.xs)::r) [.obj p.id (.row p.k (KJ p.xs p.off (juM ys p.n)))]else .fail
      |_,_=>.fail)
     |_=>.fail)
    |none=>.fail)
   |_,_=>.fail)
  |.builtin .clear=>(match c.args.toList,c.argTypes.toList with
   | [x],[t]=>(match C.D t with
    |some ti=>(match ti.kind with
     |.slice e=>(match C.D e,jav st (ρ x)with
      |some i,some p=>if Nat.beq p.k i.size then(match K1 (zeroV C e i)with
       |some z=>.chk (z.all kj) (.ret (.tup []) [.obj p.id (.row p.k p.xs)] [.obj p.id (.row p.k (KJ p.xs p.off (jjI p.n z)))])
       |none=>.fail)else .fail
      |_,_=>.fail)
     |_=>.fail)
    |none=>.fail)
   |_,_=>.fail)
  |.value f=>(match ρ f with
   |.fn g caps=>(match C.sig g with
    |some sgs=>if C.sl g && !C.stf g then jdc C st g (qo C.D c.argTypes.toList (c.args.toList.map ρ)++caps)else if C.rd g then jjK (C.th g) st nid g sgs (qo C.D c.argTypes.toList (c.args.toList.map ρ)++caps)else match jap (qo C.D c.argTypes.toList (c.args.toList.map ρ)++caps)with|some p=>jgx st g sgs p|none=>match jbr st sgs (qo C.D c.argTypes.toList (c.args.toList.map ρ)++caps)with|some q=>jb9 g sgs q|none=>if C.th g then jcA (C.kn g) st nid g sgs (qo C.D c.argTypes.toList (c.args.toList.map ρ)++caps)else jj0 (C.extv g).isSome (C.kn g) st nid g sgs (qo C.D c.argTypes.toList (c.args.toList.map ρ)++caps)
    |none=>.fail)
   |_=>.fail)
  |_=>.fail)
 |_=>.fail
section
variable{P:Program}{X:Ctx}{o:Oper}{ρ:Operand->V}{C:Cfg}{M:Node->Xe}{st:jg}
theorem jd2{w:World}{O:Nat->Prop}{k:Nat} :∀(parts:List (Nat×Xd))(vals:List (Nat×Value))(rows:Xc)(cells:Array Value),parts.map Prod.fst=vals.map Prod.fst->
  (∀(n:Nat)(p:Nat×Xd)(v:Nat×Value),parts[n]? = some p->vals[n]? = some v->p.2.length=k/\p.1<rows.length/\jm w O p.2 v.2.cells.toList/\jk v.2.cells.toList)->(∀x∈rows,x.length=k)->jm w O rows.flatten cells.toList->jk cells.toList->
  ∃cells',Instr.fill (λq=>some (q*k,k)) cells vals=some cells'/\jm w O (setRows rows parts).flatten cells'.toList/\jk cells'.toList/\(∀x∈setRows rows parts,x.length=k)/\(setRows rows parts).length=rows.length
 | [],vals,rows,cells,h1,_,h3,h4,h5=>by
  have hv:vals=[]:=by simpa using h1.symm
  subst hv;exact⟨cells,rfl,h4,h5,h3,rfl⟩
 |(q,ds)::parts,[],rows,cells,h1,_,_,_,_=>by simp at h1
 |(q,ds)::parts,(q',u)::vals,rows,cells,h1,h2,h3,h4,h5=>by
  simp only[List.map_cons,List.cons.injEq]at h1;obtain⟨rfl,h1⟩:=h1;obtain⟨a1,a2,a3,a4⟩:=h2 0 (q,ds) (q,u) rfl rfl;simp only at a1 a2 a3 a4;have l1:=jy a3;have l2:=jy h4;rw[zx h3]at l2;simp only[Array.length_toList]at l1 l2;have hfit:q*k+k<=rows.length*k:=by
   have:(q+1)*k<=rows.length*k:=Nat.mul_le_mul_right k a2;rwa[Nat.add_mul,Nat.one_mul]at this
  simp only[Instr.fill];rw[if_neg (by simp;omega)];have hz:(u.cells.zipIdx.foldl (λ(cs:Array Value)(p:Value×Nat)=>cs.setIfInBounds (q*k+p.2) p.1) cells).toList=over cells.toList (q*k) u.cells.toList:=by
   have:=zG (off:=q*k) u.cells.toList 0 cells (by simp;omega)
   rw[<-Array.foldl_toList,Array.toList_zipIdx];simpa[over]using this
  have hx:∃x,rows[q]? = some x:=⟨_,List.getElem?_eq_getElem a2⟩;obtain⟨x,hx⟩:=hx;have hxl:=h3 x (List.mem_of_getElem? hx);have hov:over x 0 ds=ds:=by
   unfold over;rw[List.drop_of_length_le (by omega)];simp
  have hfl:(rows.set q ds).flatten=over rows.flatten (q*k) ds:=by
   have:=kz rows q 0 x ds h3 hx (by omega);rw[hov]at this;simpa using this
  obtain⟨cells',g1,g2,g3,g4,g5⟩:=jd2 parts vals (rows.set q ds) (u.cells.zipIdx.foldl (λ(cs:Array Value)(p:Value×Nat)=>cs.setIfInBounds (q*k+p.2) p.1) cells) h1
   (λn p v hp hv=>by
    have:=h2 (n+1) p v (by simpa using hp) (by simpa using hv);simpa using this)
   (λy hy=>by rcases List.mem_or_eq_of_mem_set hy with hy|rfl;exact h3 y hy;exact a1) (by rw[hz,hfl];exact ZO h4 a3) (by rw[hz];exact jk.over h5 a4 _)
  exact⟨cells',g1,g2,g3,g4,by simpa[setRows]using g5⟩
def jfu(ps:List (Nat×V))(st:jg)(i:TI)(acc:List (Nat×Xd))(r:Xm)(ws:Xn):Prop:=
 ps.map Prod.fst=acc.map Prod.fst/\(∀x∈r,kr st x)/\(∀(n:Nat) p q,ps[n]? = some p->acc[n]? = some q-> ∃vs r' ws',Kb p.2 vs/\jdO vs/\zL st vs=some (q.2,r',ws')/\(∀x∈r',x∈r)/\(∀x∈ws',x∈ws)/\q.2.length=i.size)/\
  (∀st':jg,(∀x∈r,kr st' x)->YZ st' ws)
theorem Kb.nilV{t:Nat}{v:V}{ds:Xj}(h:Kb (nilV C.D t v) ds):Kb v ds:=λw O m u hu=>h w O m u (zk hu)
theorem jet{e:Nat}{i:TI}{k:List (Nat×Xd)->Xm->Xn->LX} :∀(ps:List (Nat×V))(done:List (Nat×V))(acc:List (Nat×Xd))(r:Xm)(ws:Xn),jfu done st i acc r ws->
  (∀acc r ws,jfu (done++ps) st i acc r ws->j8 P X M o ρ st (k acc r ws))->j8 P X M o ρ st (jcQ C e i st ps acc r ws k)
 | [],done,acc,r,ws,hd,hk=>by simpa[jcQ]using hk acc r ws (by simpa using hd)
 |(q,v)::ps,done,acc,r,ws,hd,hk=>by
  simp only[jcQ];refine yI λvs h1 h2 h3=>?_;cases hs:zL st vs with
  |none=>trivial
  |some x=>
   obtain⟨ds,r',ws'⟩:=x;simp only;split
   .rename_i hl;refine jet ps (done++[(q,v)]) _ _ _ ?_ (by simpa using hk);obtain⟨d1,d2,d3,d4⟩:=hd;have hlen:done.length=acc.length:=by simpa using congrArg List.length d1
    refine⟨by simp[d1],λx hx=>?_,λn p qq hp hq=>?_,λst' hg=>?_⟩
    .rcases List.mem_append.1 hx with hx|hx
     .exact d2 x hx
     .exact yW hs x hx
    .by_cases hn:n<done.length
     .rw [List.getElem?_append_left hn]at hp;rw[List.getElem?_append_left (by omega)]at hq;obtain⟨vs',r2,ws2,e1,e2,e3,e4,e5,e6⟩:=d3 n p qq hp hq;exact⟨vs',r2,ws2,e1,e2,e3,λx hx=>by simp[e4 x hx],λx hx=>by simp[e5 x hx],e6⟩
     .rw [List.getElem?_append_right (by omega)]at hp hq;have hn0:n-done.length=0:=by
       have:=(List.getElem?_eq_some_iff.1 hp).1;simp at this;omega
      rw[hn0]at hp;rw[show n-acc.length=0 by omega]at hq;simp only[List.getElem?_cons_zero,Option.some.injEq]at hp hq;subst hp hq;exact⟨vs,r',ws',h1.nilV,h2,hs,λx hx=>by simp[hx],λx hx=>by simp[hx],Nat.eq_of_beq_eq_true hl⟩
    .intro y hy;rcases List.mem_append.1 hy with hy|hy
     .exact d4 st' (λx hx=>hg x (by simp[hx])) y hy
     .exact yg hs (λx hx=>hg x (by simp[hx])) y hy
   .trivial
theorem jev(hD:zl C.P C.D){s:Nat}{k:Xj->LX} :∀(ps:List (Nat×V))(cs:Xj),(∀cs',(∀(w:World)(O:Nat->Prop)(m:jG)(vals:List (Nat×Value))(cells:Array Value),jb w O m cs cells.toList->ps.map Prod.fst=vals.map Prod.fst->jb w O m (ps.map Prod.snd) (vals.map Prod.snd)->
   ∃cells',Instr.fill (λq=>(zg C s q).map λx=>(x.1,x.2.size)) cells vals=some cells'/\jb w O m cs' cells'.toList)->j8 P X M o ρ st (k cs'))->j8 P X M o ρ st (jcS C s ps cs k)
 | [],cs,hk=>by
  simp only[jcS];refine hk cs λw O m vals cells h1 h2 _=>?_;have hv:vals=[]:=by simpa using h2.symm
  subst hv;exact⟨cells,rfl,h1⟩
 |(q,v)::ps,cs,hk=>by
  simp only[jcS];cases hf:zg C s q with
  |none=>trivial
  |some x=>
   obtain⟨off,j⟩:=x;simp only;refine yI λds h1 h2 h3=>?_;split
   .rename_i hl;simp only[Bool.and_eq_true,Nat.ble_eq]at hl;have hl1:=Nat.eq_of_beq_eq_true hl.1;refine jev hD ps (over cs off ds) λcs' hcs=>hk cs' λw O m vals cells g1 g2 g3=>?_;cases vals with
    |nil=>simp at g2
    |cons y vals=>
     obtain⟨q',u⟩:=y;simp only[List.map_cons,List.cons.injEq]at g2;obtain⟨rfl,g2⟩:=g2;simp only[List.map_cons,jb,List.cons.injEq]at g3;obtain⟨u',rr,⟨rfl,rfl⟩,g4,g5⟩:=g3;obtain⟨k1,k2⟩:=h1 w O m u g4;have l1:=jZ k1;have l2:=jZ g1;simp only[Array.length_toList]at l1 l2;simp only[Instr.fill,hf,Option.map_some];rw[if_neg (by simp;omega)];have hz:(u.cells.zipIdx.foldl (λ(cs:Array Value)(p:Value×Nat)=>cs.setIfInBounds (off+p.2) p.1) cells).toList=over cells.toList off u.cells.toList:=by
      have:=zG (off:=off) u.cells.toList 0 cells (by simp;omega)
      rw[<-Array.foldl_toList,Array.toList_zipIdx];simpa[over]using this
     refine hcs w O m vals (u.cells.zipIdx.foldl (λ(cs:Array Value)(p:Value×Nat)=>cs.setIfInBounds (off+p.2) p.1) cells) ?_ g2 g5;rw[hz];exact jc3 g1 k1
   .trivial
theorem Qx{w:World}{O:Nat->Prop} :∀{as:Xd}{us:Xh},jm w O as us->as.all kj=true->jk us
 | [],us,h,_=>by simp only[jm]at h;subst h;intro v hv;cases hv
 |a::as,us,h,hk=>by
  simp only[jm,List.all_cons,Bool.and_eq_true]at h hk;obtain⟨v,t,rfl,e1,e2⟩:=h;intro y hy;rcases List.mem_cons.1 hy with rfl|hy
  .exact JC e1 hk.1
  .exact Qx e2 hk.2 y hy
theorem run_buildSlice(hD:zl P C.D){t:TypeId}{n:Nat}{ps:Array (Nat×Operand)}{ev:Operand->Value}(ho:o.op = .buildSlice t n ps){e:Nat}(ht:P.underlying t=some (.slice e)){i:TI}(hi:C.D e=some i)(hpos:0<i.size)(hn:0<n)(hb:n*i.size<=16777216)
  {cells':Array Value} (hf:Instr.fill (λq=>some (q*i.size,i.size)) ((Array.range (n*i.size)).map (λq=>i.zero.cells[q % i.zero.cells.size]!)) (ps.toList.map λp=>(p.1,ev p.2))=some cells') (w:World) :
  (execOp ev o).run P w = .ok (.value (.slice (some ⟨w.heap.size,0,none⟩) n n)) (w.alloc (.cells cells' e)):=by
 have hok:=hD e i hi;have hnb:¬(n*i.size > 2 ^ 24):=by omega
 have h0:¬n*i.size=0:=by
  have:=Nat.mul_pos hn hpos;omega
 have hparts:(ps.map λ(p:Nat×Operand)=>(p.1,ev p.2)).toList=ps.toList.map λp=>(p.1,ev p.2):=by simp
 have hrun:(Instr.buildSlice t n (ps.map λ(p:Nat×Operand)=>(p.1,ev p.2))).run P w = .ok (.slice (some ⟨w.heap.size,0,none⟩) n n) (w.alloc (.cells cells' e)):=by
  simp only[Instr.buildSlice,Sem.run_bind,run_underlying ht,Result.andThen_ok,hok.run_sizeOf w,if_neg hnb,if_neg h0,hok.run_zero w,hparts,Sem.run_pure,hf,newRow,run_newObj_alloc]
 simp only[execOp,ho];show((do pure (.value (<-Instr.buildSlice t n (ps.map λ(p:Nat×Operand)=>(p.1,ev p.2)))):Sem Next)).run P w=_;simp only[Sem.run_bind,hrun,Result.andThen_ok,Sem.run_pure]
theorem jbk(hD:zl P C.D){t:TypeId}{ps:Array (Nat×Operand)}{ev:Operand->Value}(ho:o.op = .buildSlice t 0 ps)(hps:ps = #[]){e:Nat}(ht:P.underlying t=some (.slice e)){i:TI}(hi:C.D e=some i)(w:World) :
  (execOp ev o).run P w = .ok (.value (.slice (some ⟨w.heap.size,0,none⟩) 0 0)) (w.alloc (.cells #[] e)):=by
 subst hps;have hok:=hD e i hi;have hrun:(Instr.buildSlice t 0 #[]).run P w = .ok (.slice (some ⟨w.heap.size,0,none⟩) 0 0) (w.alloc (.cells #[] e)):=by
  simp[Instr.buildSlice,run_underlying ht,hok.run_sizeOf w,Instr.fill,newRow,Array.range_zero']
 simp only[execOp,ho];have e0:(#[]:Array (Nat×Operand)).map (λx=>(x.1,ev x.2)) = #[]:=by simp
 rw[e0];simp only[Sem.run_bind,hrun,Result.andThen_ok,Sem.run_pure]
theorem jfb{w:World}{O:Nat->Prop}{i:TI}{z:Xd}(hz:jm w O z i.zero.cells.toList)(hsz:i.zero.cells.size=i.size)(hpos:0<i.size):∀n,jm w O (List.replicate n z).flatten ((Array.range (n*i.size)).map (λq=>i.zero.cells[q % i.zero.cells.size]!)).toList:=by
 intro n;have key:((Array.range (n*i.size)).map (λq=>i.zero.cells[q % i.zero.cells.size]!)).toList=(List.replicate n i.zero.cells.toList).flatten:=by
  apply List.ext_getElem?
  intro q;simp only[Array.toList_map,Array.toList_range,List.getElem?_map];by_cases hq:q<n*i.size
  .rw [List.getElem?_range hq];have hzl:i.zero.cells.toList.length=i.size:=by simpa using hsz
   have h1:(List.replicate n i.zero.cells.toList).flatten[q]? = i.zero.cells.toList[q % i.size]? :=by
    clear hz;induction n generalizing q with
    |zero=>simp at hq
    |succ n ih=>
     rw[List.replicate_succ,List.flatten_cons];by_cases hq2:q<i.size
     .rw [List.getElem?_append_left (by omega),Nat.mod_eq_of_lt hq2]
     .have hq3:q-i.size<n*i.size:=by
       rw[Nat.add_mul,Nat.one_mul]at hq;omega
      have hm2:=Nat.mod_eq_sub_mod (a:=q) (b:=i.size) (by omega);rw[List.getElem?_append_right (by omega),hzl,ih (q-i.size) hq3,<-hm2]
   have hm:q % i.size<i.zero.cells.size:=by rw[hsz];exact Nat.mod_lt _ hpos
   rw[h1,hsz];simp only[Option.map_some];rw[getElem!_pos i.zero.cells (q % i.size) hm];simp[Array.getElem?_toList,Array.getElem?_eq_getElem hm]
  .rw [List.getElem?_eq_none (by simp;omega),List.getElem?_eq_none (by simp[List.sum_replicate_nat,hsz];omega)]
   rfl
 rw[key];induction n with
 |zero=>simp[jm]
 |succ n ih=>simp only[List.replicate_succ,List.flatten_cons];exact kH hz (ih (by
   apply List.ext_getElem?
   intro q;simp only[Array.toList_map,Array.toList_range,List.getElem?_map];by_cases hq:q<n*i.size
   .have:=congrArg (λl=>l[q]?) key;simp only[Array.toList_map,Array.toList_range,List.getElem?_map]at this;rw[List.getElem?_range (by rw[Nat.add_mul];omega)]at this;rw[List.getElem?_range hq,this];have e:(List.replicate (n+1) i.zero.cells.toList).flatten=(List.replicate n i.zero.cells.toList).flatten++i.zero.cells.toList:=by
     rw[List.replicate_succ',List.flatten_append];simp
    rw[e,List.getElem?_append_left (by simp[List.sum_replicate_nat,hsz];omega)]
   .rw [List.getElem?_eq_none (by simp;omega),List.getElem?_eq_none (by simp[List.sum_replicate_nat,hsz];omega)]
    rfl))
end
end
noncomputable section
section
variable{X:Ctx}{o:Oper}{ρ:Operand->V}{C:Cfg}{M:Node->Xe}{st:jg}
theorem jdY{k j:Nat}{cs:Xd}{ys:Xc}(h:Jh k (jd cs j)=some ys):cs[j]? = some (.sl k ys):=by
 unfold Jh at h;split at h
 .rename_i k' xs hx;split at h
  .rename_i hk;cases h;subst hk;unfold jd at hx;rw[List.getD_eq_getElem?_getD]at hx;cases e:cs[j]? with
   |none=>rw[e]at hx;cases hx
   |some a=>rw[e]at hx;simp only[Option.getD_some]at hx;rw[hx]
  .cases h
 .cases h
theorem QM{P:Program}{k:Nat}{v:V}{kk:Xc->Xm->LX}
  (h:∀ys r,(∀x∈r,kr st x)->(∀(w:World)(O0:Nat->Prop)(m:jG)(st':jg)(u:Value),Sto X w O0 m st'->(∀x∈r,kr st' x)->relV w (Ow O0 m st') m v u->KH w (Ow O0 m st') k ys u)->j8 P X M o ρ st (kk ys r)) :
  j8 P X M o ρ st (jjZ st k v kk):=by
 unfold jjZ;split
 .refine h [] [] (by simp) λw O0 m st' u hs _ hr=>?_;simp only[relV]at hr;exact jrg hr
 .rename_i a;intro ys hys;unfold Jh at hys;split at hys
  .split at hys
   .rename_i hk;subst hk;cases hys;refine h _ [] (by simp) λw O0 m st' u hs _ hr=>?_;simp only[relV]at hr;exact jiz hr
   .cases hys
  .cases hys
 .rename_i id;split
  .rename_i k' ys hst;split
   .rename_i hk;have hk:=Nat.eq_of_beq_eq_true hk;subst hk;refine h ys _ (by simpa[kr]using hst) λw O0 m st' u hs hg hr=>?_;obtain⟨hd,q1,q2,q3⟩:=jal hs (hg _ (List.mem_singleton.2 rfl)) hr;exact jlr q3 q2
   .trivial
  .rename_i k' ys hst;split
   .rename_i hk;have hk:=Nat.eq_of_beq_eq_true hk;subst hk;refine h ys _ (by simpa[kr]using hst) λw O0 m st' u hs hg hr=>?_;exact jiz (yZ hs (hg _ (List.mem_singleton.2 rfl)) hr)
   .trivial
  .rename_i f k' ys hst;split
   .rename_i hk;have hk:=Nat.eq_of_beq_eq_true hk;subst hk;intro hval;refine h ys _ (by simpa[kr]using hst) λw O0 m st' u hs hg hr=>?_;have hid:st' id = .tre f k' ys:=hg _ (List.mem_singleton.2 rfl);simp only[relV]at hr;obtain⟨hd,m1,e2⟩:=hr;exact jls (qu hs hid m1).1 hval e2
   .trivial
  .trivial
 .rename_i id ii kw j;split
  .rename_i k' xs hst;split
   .rename_i hc;simp only[Bool.and_eq_true,Nat.blt_eq]at hc;have hk:=Nat.eq_of_beq_eq_true hc.1;subst hk;intro cs hcs ys hys hval;refine h ys _ (by simpa[kr]using⟨xs,hst,hcs⟩) λw O0 m st' u hs hg hr=>?_;obtain⟨xs',g1,g2⟩:=hg (.telem id true ii k' cs) (List.mem_singleton.2 rfl);obtain⟨hd,kid,_,e2,e5,_⟩:=jpt hs g1 g2 hc.2 (jdY hys) hr;exact jls e5 hval e2
   .trivial
  .trivial
 .split
  .rename_i p hp;split
   .rename_i hk;have hk:=Nat.eq_of_beq_eq_true hk;subst hk;have hok:=yy (X:=X) hp;refine h _ _ (by simpa[kr]using hok.1) λw O0 m st' u hs hg hr=>?_;have hid:st' p.id = .row p.k p.xs:=hg _ (List.mem_singleton.2 rfl);obtain⟨hd,xs',e1,e2,e3,e4,e5⟩:=hok.2 w O0 m st' u hs ⟨p.xs,hid,rfl⟩ hr;rw[hid]at e2;cases e2;exact jrh e5 e4
   .trivial
  .trivial
 .trivial
theorem jlB{P:Program}{t:TypeId}{x:Operand}{lo hi:Option Operand}(ho:o.op = .slice t x lo hi none){e:Nat}(ht:P.underlying t=some (.slice e)){i:TI}(hi':TI.ok P e i)
  {alo ahi:Xl} (hlo:∀y,lo=some y-> ∃a,alo=some a/\dat (ρ y)=some a) (hlo0:lo=none->alo=none) (hhi:∀y,hi=some y-> ∃a,ahi=some a/\dat (ρ y)=some a) (hhi0:hi=none->ahi=none) :
  j8 P X M o ρ st (jrp st i.size (ρ x) alo ahi):=by
 unfold jrp;split
 .rename_i p hp;split
  .rename_i hk;have hk:=Nat.eq_of_beq_eq_true hk;intro h' hh' l' hl';rw[jo0]at hl';exact⟨jB.winSlice ho ht hi' hp hk hlo hlo0 hhi hhi0 hh' hl',by simpa[kr]using⟨_,(yy (X:=X) hp).1,rfl⟩⟩
  .trivial
 .trivial
theorem ja0{id:Nat} :∀{ws:Xn},jf6 id ws=true-> ∀k xs,Wr.obj id (.fro k xs) ∉ ws
 | [],_,_,_,h=>by cases h
 |w::ws,hn,k,xs,h=>by
  simp only[jf6,Bool.and_eq_true,Bool.not_eq_true']at hn;rcases List.mem_cons.1 h with rfl|h
  .simp [Wr.id]at hn
  .exact ja0 hn.2 k xs h
theorem Qm{n:Nat} :∀{ps:List (Nat×Xd)},Ql n ps=true-> ∀p∈ps,p.1<n
 | [],_,_,h=>by cases h
 |(q,ds)::ps,hn,p,h=>by
  simp only[Ql,Bool.and_eq_true,Nat.blt_eq]at hn;rcases List.mem_cons.1 h with rfl|h
  .exact hn.1
  .exact Qm hn.2 p h
theorem qM{n b:Nat}(h:zq n b=true):n*b<=140737488355328/\n<=9223372036854775807:=by
 unfold zq at h;simpa using h
theorem jB.buildSlice(hD:zl C.P C.D){t:TypeId}{n:Nat}{ps:Array (Nat×Operand)}(ho:o.op = .buildSlice t n ps){e:Nat}(ht:C.P.underlying t=some (.slice e)){i:TI}(hi:C.D e=some i)(hpos:0<i.size)(hn:0<n)(hb:n*i.size<=16777216)
  {z:Xd} (hz:K1 (zeroV C e i)=some z) (hzo:z.all kj=true) {parts:List (Nat×Xd)} {r:Xm} {ws:Xn} {st0:jg} (hp:jfu (ps.toList.map λp=>(p.1,ρ p.2)) st0 i parts r ws) (hr:Ql n parts=true) {nid:Nat} :
  jB C.P X o ρ ⟨.row nid,.fresh nid::r,ws++[.obj nid (.row i.size (setRows (List.replicate n z) parts))]⟩:=by
 intro w O0 m st ev hs hg hrel _hc;obtain⟨d1,d2,d3,d4⟩:=hp;have hgr:∀x∈r,kr st x:=λx hx=>hg x (by simp[hx]);have hab:=d4 st hgr;obtain⟨a1,a2,a3,a4,a5⟩:=jll ws st hs hab;have hfr:st nid = .dead:=hg (.fresh nid) (by simp);have hfr':jz st ws nid = .dead:=by
  rw[a5 nid λk xs h=>?_]
  .exact hfr
  .obtain ⟨id,k',xs',e1,e2⟩:=hab _ h;cases e1;rw[hfr]at e2;rcases e2 with e2|e2<;>cases e2
 have hkeep:∀id k xs,st id = .fro k xs->jz st ws id = .fro k xs:=by
  intro id k xs h;by_cases hin:∃k' xs',Wr.obj id (.fro k' xs')∈ws
  .obtain ⟨k',xs',hin⟩:=hin;rw[a4 id k' xs' hin];obtain⟨id2,k2,xs2,e1,e2⟩:=hab _ hin;cases e1;rw[h]at e2;rcases e2 with e2|e2<;>cases e2<;>rfl
  .rw [a5 id λk' xs' h'=>hin ⟨k',xs',h'⟩,h]
 have hok:=hD e i hi;have hzr:jm w (Ow O0 m (jz st ws)) z i.zero.cells.toList:=zR (m:=m) hz (kQ e i);have hlen:ps.toList.length=parts.length:=by simpa using congrArg List.length d1
 have hfill:=jd2 (w:=w) (O:=Ow O0 m (jz st ws)) (k:=i.size) parts (ps.toList.map λp=>(p.1,ev p.2)) (List.replicate n z) ((Array.range (n*i.size)).map (λq=>i.zero.cells[q % i.zero.cells.size]!))
  (by rw[<-d1,List.map_map,List.map_map];rfl)
  (λq p v hq hv=>by
   have hv':∃pp,ps.toList[q]? = some pp/\v=(pp.1,ev pp.2):=by
    rw[List.getElem?_map,Option.map_eq_some_iff]at hv;obtain⟨pp,h1,h2⟩:=hv;exact⟨pp,h1,h2.symm⟩
   obtain⟨pp,hpp,rfl⟩:=hv';obtain⟨vs,r',ws',e1,e2,e3,e4,e5,e6⟩:=d3 q (pp.1,ρ pp.2) p (by rw[List.getElem?_map,hpp];rfl) hq;have hmem:pp.2∈o.op.operands:=by
    rw[ho];simp only[Op.operands];have:=List.mem_of_getElem? hpp;simpa using⟨pp.1,by simpa using this⟩
   obtain⟨k1,k2⟩:=e1 _ _ _ _ (hrel _ hmem);have k3:=qP (st0:=st0) (st:=st) (st1:=jz st ws) a1 a3 e3 (λx hx=>hgr x (e4 x hx)) (λid k xs hm=>a4 id k xs (e5 _ hm)) hkeep k1;exact⟨e6,by have:=Qm hr p (List.mem_of_getElem? hq);simpa using this,k3,k2⟩)
  (λx hx=>by rw[(List.mem_replicate.1 hx).2,<-jy hzr];simpa using hok.zsize)
  (jfb hzr hok.zsize hpos n)
  (by
   have h1:=jfb hzr hok.zsize hpos n;refine Qx h1 ?_;rw[List.all_eq_true];intro x hx;obtain⟨y,hy,hxy⟩:=List.mem_flatten.1 hx;rw[(List.mem_replicate.1 hy).2]at hxy;exact List.all_eq_true.1 hzo x hxy)
 obtain⟨cells',f1,f2,f3,f4,f5⟩:=hfill;rw[run_buildSlice hD ho ht hi hpos hn hb f1 w];have hn63:n<=16777216:=Nat.le_trans (Nat.le_mul_of_pos_right n hpos) hb;have hcs:cells'.toList.length=n*i.size:=by
  rw[jy f2,zx f4,f5];simp
 have hl:(setRows (List.replicate n z) parts).length=n:=by rw[f5];simp
 have htk:cells'.toList.take (n*i.size)=cells'.toList:=List.take_of_length_le (by omega);refine zO.after (X:=X) a2 (zJ a1 (zm w _) hfr' (hd:= .blk w.heap.size n n) rfl (Or.inr ⟨n,cells',e,by rw[hl],by rw[zc];omega,by rw[hl];exact Nat.le_refl _,by omega,f4,heap_alloc_new w _,?_,?_,?_⟩))
 .simpa using hcs
 .rw [hl,htk];exact f3
 .rw [hl,htk];exact f2
def PT(i:TI)(ps:List (Nat×V))(vss:List Xj):Prop:=vss.length=ps.length/\ ∀(j:Nat) p vs,ps[j]? = some p->vss[j]? = some vs->p.1=j/\Kb p.2 vs/\vs.length=i.size
theorem jeu{P:Program}{e:Nat}{i:TI}{k:List Xj->LX} :∀(ps done:List (Nat×V))(acc:List Xj),PT i done acc->(∀vss,PT i (done++ps) vss->j8 P X M o ρ st (k vss))->j8 P X M o ρ st (jcR C e i ps done.length acc k)
 | [],done,acc,hd,hk=>by simpa[jcR]using hk acc (by simpa using hd)
 |(q,v)::ps,done,acc,hd,hk=>by
  simp only[jcR];split
  .rename_i hq;have hq:=Nat.eq_of_beq_eq_true hq;refine yI λvs h1 h2 h3=>?_;split
   .rename_i hl;have hl:=Nat.eq_of_beq_eq_true hl;have:=jeu (P:=P) (e:=e) (i:=i) (k:=k) ps (done++[(q,v)]) (acc++[vs]) ⟨by simp[hd.1],λj p us hp hu=>?_⟩ (by simpa using hk)
    .simpa using this
    .by_cases hj:j<done.length
     .rw [List.getElem?_append_left hj]at hp;rw[List.getElem?_append_left (by rw[hd.1];exact hj)]at hu;exact hd.2 j p us hp hu
     .rw [List.getElem?_append_right (by omega)]at hp;rw[List.getElem?_append_right (by rw[hd.1];omega)]at hu;have hj0:j-done.length=0:=by
       have:=(List.getElem?_eq_some_iff.1 hp).1;simp at this;omega
      rw[hj0]at hp;rw[hd.1,hj0]at hu;simp only[List.getElem?_cons_zero,Option.some.injEq]at hp hu;subst hp hu;exact⟨by show q=j;omega,h1.nilV,hl⟩
   .trivial
  .trivial
theorem jbU{P:Program}{k:LX} :∀{vs:Xj},((∀v∈vs,jbG st v)->j8 P X M o ρ st k)->j8 P X M o ρ st (Ju st vs k)
 | [],h=>h (by simp)
 |v::vs,h=>by
  have more:jbG st v->j8 P X M o ρ st (Ju st vs k):=λhv=>jbU λhvs=>h λu hu=>by
   rcases List.mem_cons.1 hu with rfl|hu
   .exact hv
   .exact hvs u hu
  cases v with
  |d a=>exact λha=>more ⟨λa' e=>(by cases e;exact ha),λ_ _ _ e=>(by cases e)⟩
  |row id=>
   simp only[Ju];split
   .rename_i l ys hst;exact λhv=>more ⟨λa' e=>(by cases e),λid' l' ys' e1 e2=>(by cases e1;rw[hst]at e2;cases e2;exact hv)⟩
   .rename_i hst;exact more ⟨λa' e=>(by cases e),λid' l' ys' e1 e2=>(by cases e1;exact(hst _ _ e2).elim)⟩
  |_=>exact more ⟨λa' e=>(by cases e),λ_ _ _ e=>(by cases e)⟩
theorem ja2{w:World}{O:Nat->Prop}{m:jG} :∀{vss:List Xj}{vals:List (Nat×Value)},vss.length=vals.length->(∀(j:Nat) vs p,vss[j]? = some vs->vals[j]? = some p->jb w O m vs p.2.cells.toList)->jb w O m vss.flatten (vals.flatMap λp=>p.2.cells.toList)
 | [],[],_,_=>by simp[jb]
 | [],_::_,h,_=>by simp at h
 |_::_,[],h,_=>by simp at h
 |vs::vss,p::vals,h,hg=>by
  rw[List.flatten_cons,List.flatMap_cons];exact jY (hg 0 vs p rfl rfl) (ja2 (by simpa using h) λj us q h1 h2=>hg (j+1) us q (by simpa using h1) (by simpa using h2))
theorem jeg:∀{vs:Xj}{as:Xd}{is:Xf}{rs:Xm},yr st vs=some (as,is,rs)-> ∀r∈rs,kr st r
 | [],_,_,_,h=>by simp only[yr]at h;cases h;simp
 |v::vs,_,_,_,h=>by
  simp only[yr]at h;split at h
  .rename_i a i r as is rs h1 h2;cases h;intro x hx;rcases List.mem_append.1 hx with hx|hx
   .unfold jqy at h1;split at h1
    .cases h1;cases hx
    .cases h1;cases hx
    .split at h1
     .rename_i e;cases h1;rw[List.mem_singleton.1 hx];exact e
     .rename_i e;cases h1;rw[List.mem_singleton.1 hx];exact e
     .cases h1
    .cases h1
   .exact jeg h2 x hx
  .cases h
theorem jhF{vss:List Xj}{xs:Xc}{is:Xf}{rs:Xm}(h:Ko st vss=some (xs,is,rs)):∀r∈rs,kr st r:=jeg (Kq h).1
theorem jB.buildTre(hD:zl C.P C.D){t:TypeId}{n:Nat}{ps:Array (Nat×Operand)}(ho:o.op = .buildSlice t n ps){e:Nat}(ht:C.P.underlying t=some (.slice e)){i:TI}(hi:C.D e=some i)(hpos:0<i.size)(hn:0<n)(hb:n*i.size<=16777216)
  (hlen:ps.toList.length=n) {vss:List Xj} (hP:PT i (ps.toList.map λp=>(p.1,ρ p.2)) vss) {xs:Xc} {is:Xf} {rs:Xm} {st0:jg} (hk:Ko st0 vss=some (xs,is,rs)) (hv:∀v∈vss.flatten,jbG st0 v) (hnd:is.Nodup) {nid:Nat} :
  jB C.P X o ρ ⟨.row nid,.fresh nid::rs,ky is++[.obj nid (.tre true i.size xs)]⟩:=by
 intro w O0 m st ev hs hg hrel _hc;have hgr:∀x∈rs,kr st x:=λx hx=>hg x (by simp[hx]);have hfr:st nid = .dead:=hg (.fresh nid) (by simp);obtain⟨hf1,hf2,hf3⟩:=Kq hk;obtain⟨p1,p2⟩:=hP;have hvl:vss.length=n:=by rw[p1];simpa using hlen
 have hpart:∀(j:Nat) vs (p:Nat×Value),vss[j]? = some vs->(ps.toList.map λp=>(p.1,ev p.2))[j]? = some p->p.1=j/\jb w (Ow O0 m st) m vs p.2.cells.toList/\vs.length=i.size:=λj vs p h1 h2=>by
  rw[List.getElem?_map,Option.map_eq_some_iff]at h2;obtain⟨pp,h2,rfl⟩:=h2;obtain⟨g1,g2,g3⟩:=p2 j (pp.1,ρ pp.2) vs (by rw[List.getElem?_map,h2];rfl) h1;have hmem:pp.2∈o.op.operands:=by
   rw[ho];simp only[Op.operands];have:=List.mem_of_getElem? h2;simpa using⟨pp.1,by simpa using this⟩
  exact⟨g1,(g2 _ _ _ _ (hrel _ hmem)).1,g3⟩
 have hall:=ja2 (w:=w) (O:=Ow O0 m st) (m:=m) (vss:=vss) (vals:=ps.toList.map λp=>(p.1,ev p.2)) (by rw[p1];simp) λj vs p h1 h2=>(hpart j vs p h1 h2).2.1
 obtain⟨t1,t2,t3,t4,t5⟩:=jhH hs hf1 hgr hv hnd hall;have hok:=hD e i hi;have hsome:∀(j:Nat)(p:Nat×Value),(ps.toList.map λp=>(p.1,ev p.2))[j]? = some p->p.1=0+j/\p.2.cells.size=i.size:=λj p h=>by
  have hj:j<vss.length:=by
   have:=(List.getElem?_eq_some_iff.1 h).1;rw[p1];simpa using this
  obtain⟨g1,g2,g3⟩:=hpart j vss[j] p (List.getElem?_eq_getElem hj) h;have:=jZ g2;exact⟨by omega,by simp only[Array.length_toList]at this;omega⟩
 obtain⟨cells',f1,f2⟩:=jhe (k:=i.size) (N:=n) (ps.toList.map λp=>(p.1,ev p.2)) 0 ((Array.range (n*i.size)).map (λq=>i.zero.cells[q % i.zero.cells.size]!)) hsome (by simp) (by simp only[List.length_map,hlen];omega)
 rw[run_buildSlice hD ho ht hi hpos hn hb f1 w];have hcs:cells'.toList=(ps.toList.map λp=>(p.1,ev p.2)).flatMap λp=>p.2.cells.toList:=by
  rw[f2,Nat.zero_mul,List.take_zero,List.nil_append,List.drop_of_length_le (by simp[hlen]),List.append_nil]
 rw[<-hcs]at t1 t2;have hn63:n<=16777216:=Nat.le_trans (Nat.le_mul_of_pos_right n hpos) hb;have hxk:∀x∈xs,x.length=i.size:=λx hx=>by
  obtain⟨j,hj,rfl⟩:=List.mem_iff_getElem.1 hx;obtain⟨vs,e1,e2⟩:=hf3 j _ (List.getElem?_eq_getElem hj);have hjp:j<ps.toList.length:=by rw[hlen,<-hvl,<-hf2];exact hj
  rw[e2];exact(p2 j _ vs (List.getElem?_eq_getElem (by simpa using hjp)) e1).2.2
 have hxl:xs.length=n:=by rw[hf2,hvl]
 have hcl:cells'.toList.length=n*i.size:=by rw[(J9 t1).2,<-(J9 t1).1,zx hxk,hxl]
 have htk:cells'.toList.take (xs.length*i.size)=cells'.toList:=List.take_of_length_le (by rw[hxl];omega)
 have hbl:=zm w (.cells cells' e);have hsz:w.heap.size<(w.alloc (.cells cells' e)).heap.size:=by rw[zc];omega
 have blt:∀y∈Hd.blocksL (vss.flatten.map (Zc m st)),y<w.heap.size:=λy hy=>by
  obtain⟨j,hj,hd,e1,e2,e3⟩:=t3 y hy;exact(hs.blk j hd y e1 e2 e3).1
 refine k8 hs hfr t5 (o':= .tre true i.size xs) (hd':= .tre true w.heap.size n n (vss.flatten.map (Zc m st))) (λh=>by cases h) hbl.os hbl.tape hbl.output hbl.size (λy hy _=>hbl.block y hy) (λy hy=>?_) (λ_=>⟨_,rfl,?_,?_⟩) rfl
 .simp only[Hd.blocks,List.mem_cons]at hy;rcases hy with rfl|hy
  .exact Or.inr ⟨Nat.le_refl _,hsz⟩
  .obtain ⟨j,hj,hd,e1,e2,e3⟩:=t3 y hy;exact Or.inl ⟨j,hj,hd,e2,e3⟩
 .simp only[ju];refine⟨trivial,hxl.symm,by rw[hxl];exact Nat.le_refl _,by omega,hxk,cells',e,heap_alloc_new w _,by simpa using hcl,by rw[htk];exact t2,?_⟩;rw[htk];exact yh _ (λy hy=>hbl.block y (blt y hy)) t1
 .simp only[Hd.blocks,List.nodup_cons];exact⟨λh=>Nat.lt_irrefl _ (blt _ h),t4⟩
theorem jnx(hD:zl C.P C.D){t:TypeId}{n:Nat}{ps:Array (Nat×Operand)}(ho:o.op = .buildSlice t n ps){e:Nat}(ht:C.P.underlying t=some (.slice e)){i:TI}(hi:C.D e=some i)(hpos:0<i.size)(hn:0<n)(hb:n*i.size<=16777216){nid:Nat}(hnid:st nid = .dead) :
  j8 C.P X M o ρ st (jnw C st nid e i n (ps.toList.map λp=>(p.1,ρ p.2))):=by
 unfold jnw;split
 .rename_i hl;have hl:=Nat.eq_of_beq_eq_true hl;rw[List.length_map]at hl;refine jeu (P:=C.P) _ [] [] ⟨rfl,λj p vs h=>by simp at h⟩ λvss hP=>?_;refine jbU λhv=>?_;split
  .rename_i xs is rs hk;split
   .rename_i hnd;refine⟨jB.buildTre hD ho ht hi hpos hn hb hl (by simpa using hP) hk hv (J1 hnd),λx hx=>?_⟩;rcases List.mem_cons.1 hx with rfl|hx
    .exact hnid
    .exact jhF hk x hx
   .trivial
  .trivial
 .trivial
theorem jnn(hD:zl C.P C.D){s x:Operand}{t e:TypeId}(ho:o.op = .call { callee:= .builtin .append,args:=#[s,x],argTypes:=#[t,t] })(ht:C.P.underlying t=some (.slice e)){i:TI}(hi:C.D e=some i){nid:Nat}(hnid:st nid = .dead){tr mf:Bool}{l:LX}(h:jnm st nid tr mf i (ρ s) (ρ x)=some l):j8 C.P X M o ρ st l:=by
 unfold jnm at h;split at h
 .rename_i k0 hs0;split at h
  .split at h
   .rename_i id2 hx0;split at h
    .rename_i f2 k2 ys hst;cases h;split
     .rename_i hk;have hk:=Nat.eq_of_beq_eq_true hk;subst hk;intro hfit;have hf:=qM hfit;refine⟨jB.appendTre0 ho rfl rfl ht (hD _ _ hi) hs0 hx0 hf.1 hf.2,λy hy=>?_⟩;simp only[List.mem_cons,List.not_mem_nil,or_false]at hy;rcases hy with rfl|rfl
      .exact hnid
      .exact hst
     .trivial
    .cases h
   .cases h
  .cases h
 .rename_i id hs0;split at h
  .rename_i f k us hst;split at h
   .rename_i id2 hx0;split at h
    .rename_i f2 k2 ys hst2;cases h;split
     .rename_i hc;simp only[Bool.and_eq_true,Bool.not_eq_true']at hc;have hk:=Nat.eq_of_beq_eq_true hc.1;have hk2:=Nat.eq_of_beq_eq_true hc.2.1;subst hk;subst hk2;have hne:id≠id2:=λe=>by
       have:=hc.2.2;subst e;simp at this
      intro hfit;have hf:=qM hfit;refine⟨jB.appendTre ho rfl rfl ht (hD _ _ hi) hs0 hx0 hne hf.1 hf.2,λy hy=>?_⟩;simp only[List.mem_cons,List.not_mem_nil,or_false]at hy;rcases hy with rfl|rfl|rfl
      .exact hnid
      .exact hst
      .exact hst2
     .trivial
    .cases h;trivial
   .cases h;trivial
  .cases h
 .rename_i id ii k j hs0;split at h
  .rename_i k' xs hst;cases h;split
   .rename_i hc;simp only[Bool.and_eq_true,Nat.blt_eq]at hc;have hk:=Nat.eq_of_beq_eq_true hc.1;subst hk;intro cs hcs ys hys hval;refine QM λzs r hg hsrc hfit=>?_;have hf:=qM hfit;refine⟨jB.appendSub ho rfl rfl ht (hD _ _ hi) hs0 hcs hc.2 (jdY hys) hval hsrc hf.1 hf.2,λy hy=>?_⟩;rcases List.mem_cons.1 hy with rfl|hy
    .exact hnid
    .rcases List.mem_cons.1 hy with rfl|hy
     .exact hst
     .exact hg y hy
   .trivial
  .cases h;trivial
 .cases h
theorem JS{P:Program}{o':Out} :∀(n i:Nat)(k:Xd->LX),(∀as,as.length=n->(∀j a,as[j]? = some a->hD o' (i+j)=some a)->j8 P X M o ρ st (k as))->j8 P X M o ρ st (jbQ o' n i k)
 |0,i,k,h=>h [] rfl (by simp)
 |n+1,i,k,h=>by
  intro a ha;refine JS n (i+1) _ λas hl has=>h (a::as) (by simp[hl]) λj b hb=>?_;cases j with
  |zero=>simp at hb;subst hb;exact ha
  |succ j=>have:=has j b (by simpa using hb);rwa[show i+1+j=i+(j+1) by omega]at this
theorem Y4{P:Program}{o':Out} :∀(ks:Xf)(i:Nat)(k:List Xc->LX),(∀rs,rs.length=ks.length->(∀(j:Nat)(r:Xc)(w:Nat),rs[j]? = some r->ks[j]? = some w->hR w o' (i+j)=some r)->j8 P X M o ρ st (k rs))->j8 P X M o ρ st (jgY o' ks i k)
 | [],i,k,h=>h [] rfl (by simp)
 |w::ks,i,k,h=>by
  intro a ha;refine Y4 ks (i+1) _ λas hl has=>h (a::as) (by simp[hl]) λj b v hb hv=>?_;cases j with
  |zero=>simp at hb hv;subst hb hv;exact ha
  |succ j=>have:=has j b v (by simpa using hb) (by simpa using hv);rwa[show i+1+j=i+(j+1) by omega]at this
theorem Kc{n:Nat}{sg:SigA} :∀{l:Sig},qT n l=some sg->sg.ws.length=n
 | [],h=>by cases h
 |s::l,h=>by
  simp only[qT]at h;split at h
  .rename_i hb;cases h;exact Nat.eq_of_beq_eq_true hb
  .exact Kc h
theorem jmT(hS:StM X C M){nid:Nat}{f:Operand}{xs:Array Operand}{ts:Array TypeId}(ho:o.op = .call { callee:= .value f,args:=xs,argTypes:=ts }){g:FuncId}{caps:Xj}(hf:ρ f = .fn g caps){sgs:Sig}(hsig:C.sig g=some sgs) :
    j8 C.P X M o ρ st (jj0 (C.extv g).isSome (C.kn g) st nid g sgs (qo C.D ts.toList (xs.toList.map ρ)++caps)):=by
  have mf:f∈o.op.operands:=by simp[ho,Op.operands,Call.operands]
  have mx:∀x∈xs.toList,x∈o.op.operands:=λx hx=>by simp[ho,Op.operands,Call.operands];exact Or.inr (by simpa using hx)
  unfold jj0;split;rotate_left
  . trivial
  rename_i ids vs2 objs p hprep;split;rotate_left
  . trivial
  rename_i sg halt;split;rotate_left
  . trivial
  rename_i hc;simp only[Bool.and_eq_true,Bool.or_eq_true]at hc;intro out hout;have hp:=hS g vs2 objs sgs sg out hsig halt (hc.1.imp id And.left) hout;have hlt:objs.all jaW=true:=hc.1.elim (λh=>List.all_eq_true.2 λx hx=>jhP (List.all_eq_true.1 h x hx)) And.right;refine JS _ _ _ λas la da=>Y4 _ _ _ λrs lr dr=>?_;have main:j8 C.P X M o ρ st (jgv (zC (jaI sg.ks as)) sg st nid ids p as rs):=by
   refine⟨jB.stcall ho hp hprep hlt (Kc halt) (λw O0 m st' ev hs hr=>?_) ⟨la,λi a h=>by simpa using da i a h,lr,λj r k h1 h2=>dr j r k h1 h2⟩,?_⟩
   . have hf':=hr f mf
     rw[hf]at hf';simp only[relV]at hf';obtain⟨us,g1,g2⟩:=hf';have g3:=k9 (w:=w) (O:=Ow O0 m st') (m:=m) (ρ:=ρ) (ev:=ev) xs.toList λx hx=>hr x (mx x hx);exact⟨us,g1,jY (kP g3) g2⟩
   . intro r hr
     rcases List.mem_append.mp hr with hr|hr
     . exact Yv r hr
     . refine Qh (λid hid=>?_) r hr
       have:=List.all_eq_true.mp hc.2 id hid;cases hst:st id<;>rw[hst]at this<;>first|rfl|cases this
  unfold jsi;unfold jaI at main;split
  . rename_i hci
    rw[hci]at main;exact main
  . rename_i i hci
    rw[hci]at main;have key:∀b,zD (as.getD i .top)=some b->zC (as.getD i .top)=b:=λb hb=>by
      unfold zD at hb;split at hb
      . rename_i e;cases hb;rw[e];rfl
      . cases hb
    exact⟨λh=>by have:=key _ h;simp only[this]at main;exact main,λh=>by have:=key _ h;simp only[this]at main;exact main⟩
theorem jlC:∀{l:Xf}{os:List Abs.Obj}{x:Wr},x∈Z7 l os->x.id∈l
 | [],_,x,h=>by simp only[Z7,List.not_mem_nil]at h
 |_::_,[],x,h=>by simp only[Z7,List.not_mem_nil]at h
 |id::l,o::os,x,h=>by
  simp only[Z7,List.mem_cons]at h;rcases h with rfl|h
  .exact List.mem_cons_self ..
  .exact List.mem_cons_of_mem _ (jlC h)
theorem jnI{k:LX}(xs ys:Xj)(h:xs=ys->j8 C.P X M o ρ st k):j8 C.P X M o ρ st (jg3 xs ys k):=by
 induction xs generalizing ys with
 |nil=>
  cases ys with
  |nil=>exact h rfl
  |cons y ys=>unfold jg3;exact trivial
 |cons x xs ih=>
  unfold jg3;split
  .rename_i h1;cases h1
  .rename_i a xs' b ys' h1;cases h1;exact λhe=>ih _ λe=>h (by rw[@of_decide_eq_true _ (Classical.propDecidable _) he,e])
  .trivial
theorem jp3{k:LX} :∀{W:Xn},((∀st',(∀x∈W,st' x.id=st x.id)->jz st' W=st')->j8 C.P X M o ρ st k)->j8 C.P X M o ρ st (jp2 st W k):=by
 intro W h;induction W with
 |nil=>exact h λ_ _=>rfl
 |cons x W ih=>
  unfold jp2;split
  .rename_i h1;cases h1
  .rename_i i ys ws h1;cases h1;split
   .rename_i xs hst;refine jnI _ _ λe=>ih λh2=>h λst' h3=>?_;have h4:app st' (.obj i (.box ys))=st':=by
     funext j;have h5:=h3 _ (List.mem_cons_self ..);simp only[Wr.id]at h5;simp only[app,upd,Wr.id,Wr.on];cases hj:Nat.beq j i with
     |false=>rfl
     |true=>rw[Nat.eq_of_beq_eq_true hj,h5,hst,e];rfl
    show jz (app st' (.obj i (.box ys))) W=st';rw[h4];exact h2 st' λx hx=>h3 x (List.mem_cons_of_mem _ hx)
   .trivial
  .trivial
theorem jB.look{P:Program}{v:V}{rds:Xm}{W:Xn}(h:jB P X o ρ ⟨v,rds,W⟩)(h2:∀st,(∀r∈rds,kr st r)->jz st W=st):jB P X o ρ ⟨v,rds,[]⟩:=by
 intro w O0 m st ev hs hg hr hc;have e:=h2 st hg;have hP:zO X w O0 m st [] v=zO X w O0 m st W v:=by
  funext a b;unfold zO;rw[e];rfl
 show Upon P (zO X w O0 m st [] v) w _;rw[hP];exact h w O0 m st ev hs hg hr hc
theorem jhQ(hS:StM X C M){nid:Nat}{f:Operand}{xs:Array Operand}{ts:Array TypeId}(ho:o.op = .call { callee:= .value f,args:=xs,argTypes:=ts }){g:FuncId}{caps:Xj}(hf:ρ f = .fn g caps){sgs:Sig}(hsig:C.sig g=some sgs) :
  j8 C.P X M o ρ st (jcA (C.kn g) st nid g sgs (qo C.D ts.toList (xs.toList.map ρ)++caps)):=by
 have mf:f∈o.op.operands:=by simp[ho,Op.operands,Call.operands]
 have mx:∀x∈xs.toList,x∈o.op.operands:=λx hx=>by simp[ho,Op.operands,Call.operands];exact Or.inr (by simpa using hx)
 unfold jcA;split;rotate_left
 .trivial
 rename_i ids vs2 objs p hprep;split;rotate_left
 .trivial
 rename_i sg halt;split;rotate_left
 .trivial
 rename_i hc;simp only[Bool.and_eq_true]at hc;intro out hout;have hp:=hS g vs2 objs sgs sg out hsig halt (Or.inl hc.1) hout;refine JS _ _ _ λas la da=>Y4 _ _ _ λrs lr dr=>jp3 λhw=>?_;have hdead:∀id∈KD nid (p+sg.nw.length),st id = .dead:=λid hid=>by
  have:=List.all_eq_true.mp hc.2 id hid;cases hst:st id<;>rw[hst]at this<;>first|rfl|cases this
 refine⟨jB.look (jB.stcall ho hp hprep (List.all_eq_true.2 λx hx=>jhP (List.all_eq_true.1 hc.1 x hx)) (Kc halt) (λw O0 m st' ev hs hr=>?_) ⟨la,λi a h=>by simpa using da i a h,lr,λj r k h1 h2=>dr j r k h1 h2⟩) (λst' hg=>hw st' λx hx=>?_),?_⟩
 .have hf':=hr f mf;rw[hf]at hf';simp only[relV]at hf';obtain⟨us,g1,g2⟩:=hf';have g3:=k9 (w:=w) (O:=Ow O0 m st') (m:=m) (ρ:=ρ) (ev:=ev) xs.toList λx hx=>hr x (mx x hx);exact⟨us,g1,jY (kP g3) g2⟩
 .have hx:=jlC hx;rcases List.mem_append.mp hx with hx|hx
  .exact jab (st0:=st) (st:=st') (l:=ids) (λr hr=>hg r (List.mem_append_left _ hr)) _ hx
  .rw [ZF (st:=st') (l:=KD nid (p+sg.nw.length)) (λr hr=>hg r (List.mem_append_right _ hr)) _ hx,hdead _ hx]
 .intro r hr;rcases List.mem_append.mp hr with hr|hr
  .exact Yv r hr
  .exact Qh hdead r hr
theorem jp1{k:LX}{as:Xd}(h:as.all kT=true->j8 C.P X M o ρ st k):j8 C.P X M o ρ st (jsF as k):=by
 induction as with
 |nil=>exact h rfl
 |cons a as ih=>intro ha;exact ih λhv=>h (by simp only[List.all_cons,Bool.and_eq_true];exact⟨ha,hv⟩)
theorem jbV{k:LX} :∀{ks:Xf}{rs:List Xc},(Yr ks rs=true->j8 C.P X M o ρ st k)->j8 C.P X M o ρ st (jg2 ks rs k)
 | [],[],h=>h rfl
 | [],_::_,h=>h rfl
 |_::_,[],h=>h rfl
 |kk::ks,r::rs,h=>by
  unfold jg2;split
  .rename_i hk;exact jbV λhv=>h (by simp only[Yr,hk,Bool.true_or,Bool.true_and];exact hv)
  .intro hr;exact jbV λhv=>h (by simp only[Yr,hr,Bool.or_true,Bool.true_and];exact hv)
mutual
theorem jd3{as:Xd}(h:as.all kT=true):∀s:Sh,qa (s.toV as)=true
 |.d i=>by
  simp only[Sh.toV,qa];rw[List.getD_eq_getElem?_getD];cases hi:as[i]? with
  |none=>rfl
  |some a=>exact List.all_eq_true.1 h a (List.mem_of_getElem? hi)
 |.row _=>rfl
 |.ptr _ _=>rfl
 |.agg l=>by simp only[Sh.toV,qa];exact Ys h l
 |.tup l=>by simp only[Sh.toV,qa];exact Ys h l
theorem Ys{as:Xd}(h:as.all kT=true):∀l:List Sh,JH (Sh.toVL as l)=true
 | []=>rfl
 |s::l=>by simp only[Sh.toVL,JH,Bool.and_eq_true];exact⟨jd3 h s,Ys h l⟩
end
theorem jmA{th:Bool}(hS:StM X C M){nid:Nat}{f:Operand}{xs:Array Operand}{ts:Array TypeId}(ho:o.op = .call { callee:= .value f,args:=xs,argTypes:=ts }){g:FuncId}{caps:Xj}(hf:ρ f = .fn g caps){sgs:Sig}(hsig:C.sig g=some sgs) :
  j8 C.P X M o ρ st (jjK th st nid g sgs (qo C.D ts.toList (xs.toList.map ρ)++caps)):=by
 have mf:f∈o.op.operands:=by simp[ho,Op.operands,Call.operands]
 have mx:∀x∈xs.toList,x∈o.op.operands:=λx hx=>by simp[ho,Op.operands,Call.operands];exact Or.inr (by simpa using hx)
 unfold jjK;split
 .rename_i as0 rds sg hto halt;split
  .rename_i hc;simp only[Bool.and_eq_true]at hc;intro out hout;refine JS _ _ _ λas hla hda=>Y4 _ _ _ λrs hlr hdr=>jp1 λhf1=>jbV λhf2=>?_;have hws:sg.ws=[]:=List.eq_nil_of_length_eq_zero (Kc halt);have hp:=hS g (as0.map V.d) [] sgs sg out hsig halt (Or.inl rfl) hout;have main:j8 C.P X M o ρ st (jgj (zC (jaI sg.ks as)) th sg nid rds as rs):=by
    refine⟨jB.rdcall ho hp hws (λw O0 m st' ev hs hg hr=>?_) ⟨hla,λi a h=>by simpa using hda i a h,hlr,λj r k h1 h2=>hdr j r k h1 h2⟩ (jd3 hf1 _) hf2 hc.2,λr hr=>?_⟩
    .have hf':=hr f mf;rw[hf]at hf';simp only[relV]at hf';obtain⟨us,g1,g2⟩:=hf';have g3:=k9 (w:=w) (O:=Ow O0 m st') (m:=m) (ρ:=ρ) (ev:=ev) xs.toList λx hx=>hr x (mx x hx);exact⟨us,g1,yu hs 60 _ (yw 60 _ hto hg) (jY (kP g3) g2)⟩
    .rcases List.mem_append.1 hr with hr|hr
     .exact yx 60 _ hto r hr
     .refine Qh (λid hid=>?_) r hr;have:=List.all_eq_true.mp hc.1 id hid;cases hst:st id<;>rw[hst]at this<;>first|rfl|cases this
   unfold jsd;unfold jaI at main;split
   .rename_i hci;rw[hci]at main;exact main
   .rename_i i hci;rw[hci]at main;have key:∀b,zD (as.getD i .top)=some b->zC (as.getD i .top)=b:=λb hb=>by
     unfold zD at hb;split at hb
     .rename_i e;cases hb;rw[e];rfl
     .cases hb
    exact⟨λh=>by have:=key _ h;simp only[this]at main;exact main,λh=>by have:=key _ h;simp only[this]at main;exact main⟩
  .trivial
 .trivial
theorem jof{v:V}{a:A}{is:Xf}{rs:Xm}(h:joe st v=some (a,is,rs)):∀r∈rs,kr st r:=by
 unfold joe at h;split at h
 .cases h;simp
 .cases h;simp
 .split at h
  .rename_i he;cases h;intro r hr;rw[List.mem_singleton.1 hr];exact he
  .cases h
 .cases h
theorem jef:∀{vs:Xj}{as:Xd}{is:Xf}{rs:Xm},Qp st vs=some (as,is,rs)-> ∀r∈rs,kr st r
 | [],_,_,_,h=>by simp only[Qp]at h;cases h;simp
 |v::vs,_,_,_,h=>by
  simp only[Qp]at h;split at h
  .rename_i h1 h2;cases h;intro r hr;rcases List.mem_append.1 hr with hr|hr
   .exact jof h1 r hr
   .exact jef h2 r hr
  .cases h
theorem jbW{k:LX}{vs:Xj}(h:KL vs=true->j8 C.P X M o ρ st k):j8 C.P X M o ρ st (Y9 vs k):=by
 induction vs with
 |nil=>exact h rfl
 |cons v vs ih=>
  cases v with
  |d a=>
   intro ha;exact ih λhv=>h (by simp only[KL,Bool.and_eq_true];exact⟨ha,hv⟩)
  |_=>exact ih λhv=>h (by simp only[KL];exact hv)
theorem jku{id i k j:Nat} :∀{vs vs':Xj},jfx vs=some vs'->JK id i k j vs=some vs'
 | [],_,h=>by simp only[jfx]at h;cases h;rfl
 |v::vs,_,h=>by
  unfold jfx at h;split at h
  .rename_i e;cases e
  .rename_i a vs1 e;cases e;obtain⟨l,hl,rfl⟩:=Option.map_eq_some_iff.1 h;simp only[JK,jao,jku hl]
  .cases h
theorem jeU{id i k j:Nat} :∀{vs vs2:Xj},jap vs=some (vs2,(id,i,k,j))->JK id i k j vs=some vs2
 | [],_,h=>by simp only[jap]at h;cases h
 |v::vs,_,h=>by
  unfold jap at h;split at h
  .cases h
  .rename_i a vs1 e;cases e;obtain⟨⟨l,q⟩,hl,he⟩:=Option.map_eq_some_iff.1 h;simp only[Prod.mk.injEq]at he;obtain⟨rfl,rfl⟩:=he;simp only[JK,jao,jeU hl]
  .rename_i id' i' k' j' vs1 e;cases e;obtain⟨l,hl,he⟩:=Option.map_eq_some_iff.1 h;simp only[Prod.mk.injEq]at he;obtain⟨rfl,rfl,rfl,rfl,rfl⟩:=he;have:∀n:Nat,Nat.beq n n=true:=λn=>Nat.beq_refl n;simp only[JK,jao,this,Bool.and_self,if_true,jku hl]
  .cases h
theorem je6:∀{ds:Xd},KL (ds.map V.d)=true->ds.all j6=true
 | [],_=>rfl
 |d::ds,h=>by
  simp only[List.map_cons,KL,Bool.and_eq_true]at h;simp only[List.all_cons,Bool.and_eq_true];exact⟨h.1,je6 h.2⟩
theorem jiK{t:TypeId}{a x:Operand}(ho:o.op = .store t a x){i:TI}(hi:TI.ok C.P t i){id ii k j:Nat}{f:Bool}(ha:ρ a = .rptr id ii k j){xs:Xc}(hst:st id = .tre f k xs){vs:Xj}
  (hx:∀(w:World)(O:Nat->Prop)(m:jG)(u:Value),relV w O m (ρ x) u->jb w O m vs u.cells.toList) (hl:j+i.size<=k):j8 C.P X M o ρ st (jdp st id ii k j i.size f xs vs):=by
 unfold jdp;split
 .split
  .rename_i as is rs hk;split
   .rename_i hc;simp only[Bool.and_eq_true,Bool.not_eq_true']at hc;obtain⟨h1,h2,h3⟩:=hc;have h3:=Nat.eq_of_beq_eq_true h3;refine jbW λhv=>?_;intro cs hcs;refine⟨jB.storeKids ho hi ha hx hk hv (J1 h1) (λh=>?_) h3 (by omega),λr hr=>?_⟩
    .rw [jce.2 h]at h2;cases h2
    .rcases List.mem_cons.1 hr with rfl|hr
     .exact ⟨xs,hst,hcs⟩
     .exact jef hk r hr
   .trivial
  .trivial
 .split
  .rename_i ds hd;split
   .rename_i hc;have hc:=Nat.eq_of_beq_eq_true hc;refine jbW λhv=>?_;intro cs hcs ho';refine⟨jB.storeTre ho hi ha (λw O m u hu=>zR hd (hx w O m u hu)) (je6 hv) hc (by omega) (by rw[hc];exact ho'),λr hr=>?_⟩;rw[List.mem_singleton.1 hr];exact⟨xs,hst,hcs⟩
   .trivial
  .trivial
theorem jmY{t:TypeId}{x:Operand}(ho:o.op = .load t x){i:TI}(hi:TI.ok C.P t i)(hnp:i.kind.plain=false){nid:Nat} :j8 C.P X M o ρ st (jj7 C.D st nid i (ρ x)):=by
 unfold jj7;split
 .rename_i id ii k j l hx hl;split
  .rename_i k' xs hst;split
   .rename_i hc;simp only[Bool.and_eq_true,Bool.not_eq_true']at hc;obtain⟨⟨c1,c2,c3⟩,c4,c5,c6,c7⟩:=hc;have c1:=Nat.eq_of_beq_eq_true c1;have c2:=Nat.eq_of_beq_eq_true c2;have c3:=Nat.eq_of_beq_eq_true c3;have c5:=Nat.eq_of_beq_eq_true c5;subst c1 c2 c3;intro cs hcs hv ys hys;have hd:st nid = .dead:=by cases h:st nid<;>rw[h]at c6<;>first|rfl|cases c6
    have hsl:jd cs 1 = .sl l ys:=by
     unfold Jh at hys;split at hys
     .rename_i k2 ys2 e;split at hys
      .rename_i e2;cases hys;rw[e,e2]
      .cases hys
     .cases hys
    refine⟨jB.loadDetach ho hi c4 hnp c5 hx hv hsl (λe=>by rw[e]at c7;simp at c7),λr hr=>?_⟩
    simp only[List.mem_cons,List.not_mem_nil,or_false]at hr;rcases hr with rfl|rfl
    .exact ⟨xs,hst,hcs⟩
    .exact hd
   .trivial
  .trivial
 .trivial
theorem jj9{nid:Nat}{t:TypeId}{x:Operand}(ho:o.op = .load t x){i:TI}(hi:TI.ok C.P t i):j8 C.P X M o ρ st (jgB C.D nid st i (ρ x)):=by
 unfold jgB;split
 .rename_i hp;split
  .rename_i id ii k j hx;split
   .rename_i f k' xs hst;split
    .rename_i hk;have hk:=Nat.eq_of_beq_eq_true hk;subst hk;intro cs hcs;split
     .rename_i hc;simp only[Bool.and_eq_true]at hc;obtain⟨_,rfl⟩:=hc;intro hs;exact⟨jB.loadSub ho hi hp hx hs,λr hr=>by rw[List.mem_singleton.1 hr];exact⟨xs,hst,hcs⟩⟩
     .intro hs;exact⟨jB.loadVal ho hi hp hx hs,λr hr=>by rw[List.mem_singleton.1 hr];exact⟨xs,hst,hcs⟩⟩
    .trivial
   .trivial
  .trivial
 .rename_i hp;exact jmY ho hi (by simpa using hp)
theorem jj2(hS:StM X C M){f:Operand}{xs:Array Operand}{ts:Array TypeId}(ho:o.op = .call { callee:= .value f,args:=xs,argTypes:=ts }){g:FuncId}{caps:Xj}(hf:ρ f = .fn g caps){sgs:Sig}(hsig:C.sig g=some sgs)(p:Xj×(Nat×Nat×Nat×Nat))(hp0:jap (qo C.D ts.toList (xs.toList.map ρ)++caps)=some p) :
  j8 C.P X M o ρ st (jgx st g sgs p):=by
 have mf:f∈o.op.operands:=by simp[ho,Op.operands,Call.operands]
 have mx:∀x∈xs.toList,x∈o.op.operands:=λx hx=>by simp[ho,Op.operands,Call.operands];exact Or.inr (by simpa using hx)
 obtain⟨vs2,id,i,k,j⟩:=p;have hsub:=jeU hp0;unfold jgx;dsimp only;split;rotate_left
 .trivial
 rename_i sg k' rows halt hst;split;rotate_left
 .trivial
 rename_i kk hws hnw hks;split;rotate_left
 .trivial
 rename_i hc;simp only[Bool.and_eq_true]at hc;have hk:=Nat.eq_of_beq_eq_true hc.1;have hkk:=Nat.eq_of_beq_eq_true hc.2.1;have h128:Nat.blt (kk-64+64) 128=true:=by rw[hkk];exact hc.2.2
 subst hk;intro cs hcs ys hys out hout;have hp:=hS g vs2 [.tre true (kk-64) ys] sgs sg out hsig halt (Or.inl rfl) hout;have hca:cs[j]? = some (.sl (kk-64) ys):=by
  unfold Jh at hys;split at hys
  .rename_i k2 xs2 he;split at hys
   .rename_i h2;cases hys;subst h2;unfold jd at he;rw[List.getD_eq_getElem?_getD]at he;cases hq:cs[j]? with
    |none=>rw[hq]at he;cases he
    |some a=>rw[hq]at he;simp at he;rw[he]
   .cases hys
  .cases hys
 refine JS _ _ _ λas la da=>?_;intro r hr;refine⟨?_,λq hq=>by rw[List.mem_singleton.1 hq];exact⟨rows,hst,hcs⟩⟩;have hov:kS cs j [.sl (kk-64) r]=cs.set j (.sl (kk-64) r):=by
  have hlt:=(List.getElem?_eq_some_iff.1 hca).1;have:=qL (cs:=cs) (off:=j) (d:=A.sl (kk-64) r) (ds:=[]) (by simp;omega);unfold kS;rw[<-this];simp[over]
 rw[hov];refine jB.subcall ho hp hws hnw (by rw[hks,hkk]) h128 hca hsub (λw O0 m st' ev hs hr=>?_) ⟨la,λq a h=>by simpa using da q a h,by rw[hks];rfl,λq r' k2 h1 h2=>?_⟩
 .have hf':=hr f mf;rw[hf]at hf';simp only[relV]at hf';obtain⟨us,g1,g2⟩:=hf';have g3:=k9 (w:=w) (O:=Ow O0 m st') (m:=m) (ρ:=ρ) (ev:=ev) xs.toList λx hx=>hr x (mx x hx);exact⟨us,g1,jY (kP g3) g2⟩
 .rw [hks]at h2;cases q with
  |zero=>simp at h1 h2;subst h1 h2;simpa using hr
  |succ q=>simp at h1
theorem jgS{id:Nat} :∀{vs vs':Xj},jfx vs=some vs'->Jm id vs=some vs'
 | [],_,h=>by simp only[jfx]at h;cases h;rfl
 |v::vs,_,h=>by
  unfold jfx at h;split at h
  .rename_i e;cases e
  .rename_i a vs1 e;cases e;obtain⟨l,hl,rfl⟩:=Option.map_eq_some_iff.1 h;simp only[Jm,ZV,jgS hl]
  .cases h
theorem jeV{id:Nat} :∀{vs vs2:Xj},jdk vs=some (vs2,id)->Jm id vs=some vs2
 | [],_,h=>by simp only[jdk]at h;cases h
 |v::vs,_,h=>by
  unfold jdk at h;split at h
  .cases h
  .rename_i a vs1 e;cases e;obtain⟨⟨l,q⟩,hl,he⟩:=Option.map_eq_some_iff.1 h;simp only[Prod.mk.injEq]at he;obtain⟨rfl,rfl⟩:=he;simp only[Jm,ZV,jeV hl]
  .rename_i id' vs1 e;cases e;obtain⟨l,hl,he⟩:=Option.map_eq_some_iff.1 h;simp only[Prod.mk.injEq]at he;obtain⟨rfl,rfl⟩:=he;have:∀n:Nat,Nat.beq n n=true:=λn=>Nat.beq_refl n;simp only[Jm,ZV,this,if_true,jgS hl]
  .cases h
theorem jjf{sgs:Sig}{vs vs2:Xj}{id k:Nat}{xs:Xc}(h:jbr st sgs vs=some (vs2,id,k,xs)):Jm id vs=some vs2/\st id = .row k xs:=by
 unfold jbr at h;split at h
 .rename_i vs3 id3 hg;split at h
  .rename_i k3 xs3 sg hst _;split at h
   .split at h
    .cases h;exact⟨jeV hg,hst⟩
    .cases h
   .cases h
  .cases h
 .cases h
theorem jhf(hS:StM X C M){f:Operand}{xs:Array Operand}{ts:Array TypeId}(ho:o.op = .call { callee:= .value f,args:=xs,argTypes:=ts }){g:FuncId}{caps:Xj}(hf:ρ f = .fn g caps){sgs:Sig}(hsig:C.sig g=some sgs)(q:Xj×Nat×Nat×Xc)(hp0:jbr st sgs (qo C.D ts.toList (xs.toList.map ρ)++caps)=some q) :
  j8 C.P X M o ρ st (jb9 g sgs q):=by
 have mf:f∈o.op.operands:=by simp[ho,Op.operands,Call.operands]
 have mx:∀x∈xs.toList,x∈o.op.operands:=λx hx=>by simp[ho,Op.operands,Call.operands];exact Or.inr (by simpa using hx)
 obtain⟨vs2,id,k,ys⟩:=q;obtain⟨hsub,hst⟩:=jjf hp0;unfold jb9;dsimp only;split;rotate_left
 .trivial
 rename_i sg halt;split;rotate_left
 .trivial
 rename_i kk hws hnw hks;split;rotate_left
 .trivial
 rename_i hc;simp only[Bool.and_eq_true]at hc;have hkk:=Nat.eq_of_beq_eq_true hc.1;have h128:Nat.blt (k+64) 128=true:=by rw[hkk];exact hc.2
 intro hval out hout;have hp:=hS g vs2 [.tre true k ys] sgs sg out hsig halt (Or.inl rfl) hout;refine JS _ _ _ λas la da=>?_;intro r hr;refine⟨?_,λq hq=>by rw[List.mem_singleton.1 hq];exact hst⟩;refine jB.flatcall ho hp hws hnw (by rw[hks,hkk]) h128 hval hsub (λw O0 m st' ev hs hr=>?_) ⟨la,λq a h=>by simpa using da q a h,by rw[hks];rfl,λq r' k2 h1 h2=>?_⟩
 .have hf':=hr f mf;rw[hf]at hf';simp only[relV]at hf';obtain⟨us,g1,g2⟩:=hf';have g3:=k9 (w:=w) (O:=Ow O0 m st') (m:=m) (ρ:=ρ) (ev:=ev) xs.toList λx hx=>hr x (mx x hx);exact⟨us,g1,jY (kP g3) g2⟩
 .rw [hks]at h2;cases q with
  |zero=>simp at h1 h2;subst h1 h2;simpa using hr
  |succ q=>simp at h1
theorem jaM(hM:yD X C M){f:Operand}{xs:Array Operand}{ts:Array TypeId}(ho:o.op = .call { callee:= .value f,args:=xs,argTypes:=ts }){g:FuncId}{caps:Xj}(hf:ρ f = .fn g caps){vs:Xj}(hv:qo C.D ts.toList (xs.toList.map ρ)++caps=vs) :
  j8 C.P X M o ρ st (Qi C st g vs):=by
 have mf:f∈o.op.operands:=by simp[ho,Op.operands,Call.operands]
 have mx:∀x∈xs.toList,x∈o.op.operands:=λx hx=>by simp[ho,Op.operands,Call.operands];exact Or.inr (by simpa using hx)
 unfold Qi;split
 .rename_i as rds hto;split
  .rename_i hpure;intro out hout x hx;refine⟨jB.giveall ho hto (hM g as out hpure hout) hx (λw O0 m st' ev hs hr=>?_),yx 60 _ hto⟩;have hf':=hr f mf;rw[hf]at hf';simp only[relV]at hf';obtain⟨us,g1,g2⟩:=hf';have g3:=k9 (w:=w) (O:=Ow O0 m st') (m:=m) (ρ:=ρ) (ev:=ev) xs.toList λx hx=>hr x (mx x hx);refine⟨us,g1,?_⟩;rw[<-hv];exact jY (kP g3) g2
  .trivial
 .trivial
theorem jis(hM:yD X C M){f:Operand}{xs:Array Operand}{ts:Array TypeId}(ho:o.op = .call { callee:= .value f,args:=xs,argTypes:=ts }){g:FuncId}{caps:Xj}(hf:ρ f = .fn g caps) :
  j8 C.P X M o ρ st (jdc C st g (qo C.D ts.toList (xs.toList.map ρ)++caps)):=by
 have mf:f∈o.op.operands:=by simp[ho,Op.operands,Call.operands]
 have mx:∀x∈xs.toList,x∈o.op.operands:=λx hx=>by simp[ho,Op.operands,Call.operands];exact Or.inr (by simpa using hx)
 unfold jdc;split
 .rename_i as p hseal;split
  .rename_i hpure;intro out hout x hx;refine⟨jB.sealmap ho hseal (hM g as out hpure hout) hx (λw O0 m st' ev hs hr=>?_),jeM hseal⟩;have hf':=hr f mf;rw[hf]at hf';simp only[relV]at hf';obtain⟨us,g1,g2⟩:=hf';have g3:=k9 (w:=w) (O:=Ow O0 m st') (m:=m) (ρ:=ρ) (ev:=ev) xs.toList λx hx=>hr x (mx x hx);exact⟨us,g1,jY (kP g3) g2⟩
  .trivial
 rename_i hnone;clear hnone;split
 .rename_i v hv;split
  .rename_i a r ws hseal;split
   .rename_i hpure;intro out hout x hx;refine⟨jB.sealcall ho hseal (hM g [a] out hpure hout) hx (λw O0 m st' ev hs hr=>?_),jmL hseal⟩;have hf':=hr f mf;rw[hf]at hf';simp only[relV]at hf';obtain⟨us,g1,g2⟩:=hf';have g3:=k9 (w:=w) (O:=Ow O0 m st') (m:=m) (ρ:=ρ) (ev:=ev) xs.toList λx hx=>hr x (mx x hx);refine⟨us,g1,?_⟩;rw[<-hv];exact jY (kP g3) g2
   .trivial
  .exact jaM hM ho hf hv
 .exact jaM hM ho hf rfl
theorem jhw(hD:zl C.P C.D){t:Nat}(h:jjl C t=true):∃k,C.P.underlying t=some (.int k):=by
 unfold jjl at h;split at h
 .rename_i i hi;split at h
  .rename_i k hk;exact⟨k,jr hD hi hk⟩
  .cases h
 .cases h
theorem jlP(hD:zl C.P C.D)(hM:yD X C M)(hS:StM X C M)(nid:Nat)(hnid:st nid = .dead):j8 C.P X M o ρ st (evL C o ρ st nid):=by
 have hfresh:∀x ∈ [Rd.fresh nid],kr st x:=by simpa[kr]using hnid
 unfold evL;split
 .rename_i t x ho;split
  .rename_i i hi;split
   .refine yI λds h1 h2 h3=>⟨jB.box ho (λw O m u hu=>zk hu) h1,hfresh⟩
   .trivial
  .trivial
 .rename_i t ho;split
  .rename_i i hi;refine y9 λh1 h2=>⟨jB.alloc ho (hD _ _ hi) (λw O m=>kQ t i) ?_,hfresh⟩;exact Kw (w:=default) (O:=λ_=>False) (m:=λ_=>none) (kQ t i) h1 h2
  .trivial
 .rename_i t ho;exact⟨jB.makeMap ho,hfresh⟩
 .rename_i t x k y ho;split
  .rename_i ti ka ht hka;split
   .rename_i kt et hk;split
    .rename_i ki hki;split
     .rename_i ks id va hks hx hva;split
      .rename_i xs hst;intro ys hys;exact⟨jB.mapUpdate ho (jr hD ht hk) (jee hks (hD _ _ hki).desc) hx hka (λw O m u hu=>QF hva (zk hu)) hys,by simpa[kr]using hst⟩
      .trivial
     .trivial
    .trivial
   .trivial
  .trivial
 .rename_i t a x ho;split
  .rename_i i hi;split
   .split
    .rename_i id off ha;split
     .rename_i cs hst;refine yI λds h1 h2 h3=>?_;split
      .rename_i hl;simp only[Bool.and_eq_true,Nat.ble_eq]at hl;have hl1:=Nat.eq_of_beq_eq_true hl.1;exact⟨jB.storeBox ho (hD _ _ hi) ha (λw O m u hu=>h1 w O m u (zk hu)) hl1 (by omega),by simpa[kr]using⟨cs,hst,rfl⟩⟩
      .trivial
     .trivial
    .rename_i id ii k j ha;split
     .rename_i k' xs hst;split
      .rename_i hk;simp only[Bool.and_eq_true,Nat.ble_eq]at hk;have hk1:=Nat.eq_of_beq_eq_true hk.1;subst hk1;refine yI λvs h1 h2 h3=>?_;cases hs:zL st vs with
       |none=>trivial
       |some y=>
        obtain⟨ds,r,ws⟩:=y;simp only;split
        .rename_i hl;simp only[Bool.and_eq_true]at hl;have hl1:=Nat.eq_of_beq_eq_true hl.1;intro cs hcs;refine⟨jB.storeRow ho (hD _ _ hi) ha (λw O m u hu=>(h1 w O m u (zk hu)).1) hs (ZT hs h2).1 hl1 (by omega) (ja0 hl.2),λx hx=>?_⟩;rcases List.mem_cons.1 hx with rfl|hx
         .exact ⟨xs,hst,hcs⟩
         .exact yW hs x hx
        .trivial
      .trivial
     .rename_i f k' xs hst;split
      .rename_i hk;simp only[Bool.and_eq_true,Nat.ble_eq]at hk;have hk1:=Nat.eq_of_beq_eq_true hk.1;subst hk1;exact yI λvs h1 h2 h3=>jiK ho (hD _ _ hi) ha hst (λw O m u hu=>(h1 w O m u (zk hu)).1) hk.2
      .trivial
     .trivial
    .trivial
   .trivial
  .trivial
 .rename_i t x ho;split
  .rename_i i hi;exact jj9 ho (hD _ _ hi)
  .trivial
 .rename_i op t x y u ho;split
  .rename_i hc;rw[Bool.and_eq_true]at hc;split
   .rename_i ti ht;split
    .rename_i e hk;have hu:=jr hD ht hk;have gen:∀rds N,(∀(w:World)(O0:Nat->Prop)(m:jG)(st':jg)(v:Value),Sto X w O0 m st'->(∀r∈rds,kr st' r)->relV w (Ow O0 m st') m (ρ x) v-> ∃a n c,v = .slice a n c/\(N≠0->a.isNone=false))->jB C.P X o ρ ⟨.ub N (jhx op),rds,[]⟩:=
      λrds N hv=>jB.nilEq ho hc.2 hc.1 hu hv
     have hsl:∀{w:World}{O:Nat->Prop}{k:Nat}{xs:Xc}{v:Value},rel w O (.sl k xs) v-> ∃a n c,v = .slice a n c/\(jmy xs≠0->a.isNone=false):=by
      intro w O k xs v hr;simp only[rel]at hr;obtain⟨a,c,h,_,_,h4⟩:=hr;refine⟨a,_,c,h,λh0=>?_⟩;rcases h4 with rfl|⟨b,off,rfl,_⟩
      .exact absurd rfl h0
      .rfl
     unfold jr4;split
     .rename_i a hx;intro ys hys;refine⟨gen [] _ λw O0 m st' v _ _ hr=>?_,by simp⟩;rw[hx]at hr;unfold juK at hys;split at hys
      .cases hys;simp only[relV]at hr;exact hsl hr
      .cases hys
     .rename_i hx;refine⟨gen [] 0 λw O0 m st' v _ _ hr=>?_,by simp⟩;rw[hx]at hr;simp only[relV]at hr;obtain⟨a,h⟩:=hr;exact⟨a,_,_,h,λh=>absurd rfl h⟩
     .rename_i id hx;split
      .rename_i k xs hst;refine⟨gen _ _ λw O0 m st' v hs hg hr=>?_,by simpa[kr]using hst⟩;rw[hx]at hr;obtain⟨hd,q1,q2,q3⟩:=jal hs (hg _ (List.mem_singleton.2 rfl)) hr;cases hd with
       |tre=>exact q3.elim
       |mp=>exact q3.elim
       |none=>
        simp only[rowOk]at q3;simp only[hdr]at q2;subst q3;obtain⟨a,h⟩:=q2;exact⟨a,_,_,h,λh=>absurd rfl h⟩
       |blk b c n=>
        simp only[hdr]at q2;exact⟨_,_,_,q2,λ_=>rfl⟩
      .rename_i k xs hst;refine⟨gen _ _ λw O0 m st' v hs hg hr=>?_,by simpa[kr]using hst⟩;rw[hx]at hr;exact hsl (yZ hs (hg _ (List.mem_singleton.2 rfl)) hr)
      .trivial
     .trivial
    .trivial
   .trivial
  .trivial
 .rename_i t x y ho;split
  .rename_i ti ht;split
   .rename_i e hk;split
    .rename_i i a b hi ha hb;split
     .split
      .rename_i z hz;intro l hl hzo;unfold jes at hl;split at hl
       .rename_i kl l' kc c';split at hl
        .rename_i hc;cases hl;have hxd:ρ x = .d (.val (.int kl l')):=by cases hx:ρ x<;>rw[hx]at ha<;>simp[dat]at ha;rw[ha]
         have hyd:ρ y = .d (.val (.int kc c')):=by cases hy:ρ y<;>rw[hy]at hb<;>simp[dat]at hb;rw[hb]
         simp only[jjI];have hz':∀w O,jm w O z i.zero.cells.toList:=λw O=>jpe (jbD (w:=default) (w':=w) (O:=λ_=>False) (m:=λ_=>none) hz (kQ e i)).1;exact⟨jB.makeTre ho (jr hD ht hk) (hD _ _ hi) hxd hyd rfl rfl hc.1 hc.2.1 hc.2.2.1 hc.2.2.2 hz' (λw=>(jbD (w:=default) (w':=w) (O:=λ_=>False) (m:=λ_=>none) hz (kQ e i)).1) (Qx (hz' default λ_=>False) hzo),hfresh⟩
        .cases hl
       .cases hl
      .trivial
     split
     .rename_i z hz;intro l hl hzo;unfold jes at hl;split at hl
      .rename_i kl l' kc c';split at hl
       .rename_i hc;cases hl;have hxd:ρ x = .d (.val (.int kl l')):=by cases hx:ρ x<;>rw[hx]at ha<;>simp[dat]at ha;rw[ha]
        have hyd:ρ y = .d (.val (.int kc c')):=by cases hy:ρ y<;>rw[hy]at hb<;>simp[dat]at hb;rw[hb]
        simp only[jjI];have hz':∀w O,jm w O z i.zero.cells.toList:=λw O=>zR (m:=λ_=>none) hz (kQ e i);exact⟨jB.make ho (jr hD ht hk) (hD _ _ hi) hxd hyd rfl rfl hc.1 hc.2.1 hc.2.2.1 hc.2.2.2 hz' (Qx (hz' default λ_=>False) hzo),hfresh⟩
       .cases hl
      .cases hl
     .trivial
    .trivial
   .trivial
  .trivial
 .rename_i t n ps ho;split
  .rename_i ti ht;split
   .rename_i e hk;split
    .rename_i i hi;split
     .rename_i hn;have hn0:=Nat.eq_of_beq_eq_true hn;subst hn0;split
      .rename_i hps;have hps':ps = #[]:=by simpa using hps
       refine⟨λw O0 m st' ev hs hg hr _=>?_,by simp⟩;rw[jbk hD ho hps' (jr hD ht hk) hi w];have hb:=zm w (.cells #[] e);exact⟨m,Chg.below hb,hs.below hb,by simp only[relV];exact⟨_,rfl⟩⟩
      .trivial
     .rename_i hn;split
      .rename_i hc;simp only[Bool.and_eq_true,Nat.ble_eq,Nat.blt_eq]at hc;split
       .exact jnx hD ho (jr hD ht hk) hi hc.1.2 (Nat.pos_of_ne_zero λe0=>hn (by rw[e0];rfl)) hc.2 hnid
       split
       .rename_i z hz;intro hzo;refine jet _ [] [] [] [] ⟨rfl,by simp,λn p q hp=>by simp at hp,λst' _ x hx=>by cases hx⟩ λacc r ws hp=>?_;simp only[List.nil_append]at hp;split
        .rename_i hr;have hn0:0<n:=Nat.pos_of_ne_zero λe0=>hn (by rw[e0];rfl);refine⟨jB.buildSlice hD ho (jr hD ht hk) hi hc.1.2 hn0 hc.2 hz hzo hp hr,λx hx=>?_⟩;rcases List.mem_cons.1 hx with rfl|hx
         .exact hnid
         .exact hp.2.1 x hx
        .trivial
       .trivial
      .trivial
    .trivial
   .trivial
  .trivial
 .rename_i t x ix ho;split
  .rename_i ti ht;split
   .rename_i e hk;split
    .rename_i i id b hi hx hb;split
     .rename_i k xs hst;split
      .rename_i hk';have hk':=Nat.eq_of_beq_eq_true hk';subst hk';intro n hn;exact⟨jB.indexRow ho (jr hD ht hk) (hD _ _ hi) hx hb hn,by simp[kr,hst]⟩
      .trivial
     .rename_i f k xs hst;split
      .rename_i hk';have hk':=Nat.eq_of_beq_eq_true hk';subst hk';intro n hn;exact⟨jB.indexTre ho (jr hD ht hk) (hD _ _ hi) hx hb hn,by simp[kr,hst]⟩
      .trivial
     .trivial
    .rename_i i id k off n b hi hx hb;split
     .rename_i k' xs hst;split
      .rename_i hkk;simp only[Bool.and_eq_true]at hkk;have hk1:=Nat.eq_of_beq_eq_true hkk.1;have hk2:=Nat.eq_of_beq_eq_true hkk.2;subst hk1;subst hk2;intro j hj;exact⟨jB.winIndex ho (jr hD ht hk) (hD _ _ hi) hx hb hj,by simp[kr,hst]⟩
      .trivial
     .trivial
    .trivial
   .trivial
  .trivial
 .rename_i t x lo hi ho;split
  .rename_i ti ht;split
   .rename_i e hk;split
    .rename_i i id k off n l h hii hx hl hh;obtain⟨l1,l2⟩:=zu hl;obtain⟨u1,u2⟩:=zu hh;rw[<-hx];exact jlB ho (jr hD ht hk) (hD _ _ hii) l1 l2 u1 u2
    .rename_i i k l h hii hx hl hh;obtain⟨l1,l2⟩:=zu hl;obtain⟨u1,u2⟩:=zu hh;intro h' hh' l' hl';rw[jo0]at hl';exact⟨jB.sliceNil ho (jr hD ht hk) (hD _ _ hii) hx l1 l2 u1 u2 hh' hl',by simp⟩
    .rename_i i id l h hii hx hl hh;split
     .obtain ⟨l1,l2⟩:=zu hl;obtain⟨u1,u2⟩:=zu hh;rw[<-hx];exact jlB ho (jr hD ht hk) (hD _ _ hii) l1 l2 u1 u2
     split
     .rename_i k xs hst;split
      .rename_i hk';have hk':=Nat.eq_of_beq_eq_true hk';subst hk';obtain⟨l1,l2⟩:=zu hl;obtain⟨u1,u2⟩:=zu hh;intro r hr;exact⟨jB.sliceRow ho (jr hD ht hk) (hD _ _ hii) hx l1 l2 u1 u2 hr,by simpa[kr]using hst⟩
      .trivial
     .trivial
    .trivial
   .trivial
  .trivial
 .rename_i t x l h m ho;have m1:x∈o.op.operands:=by simp[ho,Op.operands]
  have m2:l∈o.op.operands:=by simp[ho,Op.operands]
  have m3:h∈o.op.operands:=by simp[ho,Op.operands]
  have m4:m∈o.op.operands:=by simp[ho,Op.operands]
  split
  .split
   .rename_i ti ht;split
    .rename_i e hk;split
     .rename_i i p l' h' m' hi hp hl hh hm;split
      .rename_i hkk;intro mm e1 hh' e2 ll e3;exact⟨jB.win3 ho (jr hD ht hk) (hD _ _ hi) hp hl hh hm e1 e2 e3,by simpa[kr]using⟨_,(yy (X:=X) hp).1,rfl⟩⟩
      .trivial
     .trivial
    .trivial
   .trivial
  split
  .rename_i ti k1 k2 k3 ht hl hh hm;split
   .rename_i e hk;split
    .rename_i i a hi hx;intro ys hys;refine⟨jB.same λw O0 mm st' ev hs hg hr=>?_,by simp⟩;have hx':=hr x m1;have e1:=hr l m2;have e2:=hr h m3;have e3:=hr m m4;rw[hx]at hx';rw[hl]at e1;rw[hh]at e2;rw[hm]at e3;simp only[relV,rel]at e1 e2 e3;simp only[relV]at hx';unfold Jh at hys;split at hys
     .simp only[rel]at hx';obtain⟨ad,c,hv,_⟩:=hx';exact⟨_,jdb ho (jr hD ht hk) (hD _ _ hi) hv e1 e2 e3,by simp only[relV];exact⟨ad,rfl⟩⟩
     .cases hys
    .trivial
   .trivial
  .trivial
 .rename_i t ps ho;split
  .rename_i i hi;split
   .rename_i fs hk;split
    .rename_i hfs;refine jev hD _ _ λcs hcs=>⟨jB.same λw O0 m st' ev hs hg hrel=>?_,by simp⟩;have h1:jb w (Ow O0 m st') m ((ps.toList.map λp=>(p.1,ρ p.2)).map Prod.snd) ((ps.toList.map λp=>(p.1,ev p.2)).map Prod.snd):=by
      rw[List.map_map,List.map_map];have:=k9 (w:=w) (O:=Ow O0 m st') (m:=m) (ρ:=ρ) (ev:=ev) (ps.toList.map Prod.snd) λx hx=>hrel x (by
       rw[ho];simp only[Op.operands];simpa using hx)
      rw[List.map_map,List.map_map]at this;exact this
     obtain⟨h2,h3⟩:=Zh (C:=C) (fs:=fs) h1;obtain⟨cells',h6,h7⟩:=hcs w (Ow O0 m st') m (ps.toList.map λp=>(p.1,ev p.2)) i.zero.cells (kQ t i) (by rw[h3];simp) h2;refine⟨_,run_build hD ho hi hk hfs h6 (w:=w),?_⟩;simp only[relV];exact⟨cells'.toList,by simp,h7⟩
    .trivial
   .trivial
  .trivial
 .rename_i c ho;obtain⟨callee,args,ts⟩:=c;dsimp only;split
  .split
   .rename_i s x t t' hxs hts;split
    .rename_i hint;obtain⟨l,rfl⟩:∃l:List Operand,args=l.toArray:=⟨args.toList,by simp⟩;have hxs:l=[s,x]:=by simpa using hxs
     subst hxs;obtain rfl:ts = #[t,t']:=by apply Array.ext';simpa using hts
     split
     .rename_i ti ht;split
      .rename_i e hk;split
       .rename_i i hi;split
        .rename_i k a z hs0 ha hz;intro n hn hfit hzo;unfold jes at hn;split at hn
         .rename_i kl l' kc c';split at hn
          .rename_i hc;cases hn;have hf:=qM hfit;simp only[jjI];have hz':∀w O,jm w O z i.zero.cells.toList:=λw O=>zR (m:=λ_=>none) hz (kQ e i);obtain⟨kk,hu⟩:=jhw hD hint;exact⟨jB.appendZ ho rfl rfl (jr hD ht hk) hu (hD _ _ hi) hs0 ha hc.1 hf.1 hf.2 hz' (Qx (hz' default λ_=>False) hzo),hfresh⟩
          .cases hn
         .cases hn
        .trivial
       .trivial
      .trivial
     .trivial
    split
    .rename_i htt;have htt:=Nat.eq_of_beq_eq_true htt;subst htt;obtain rfl:ts = #[t,t]:=by apply Array.ext';simpa using hts
     obtain⟨l,rfl⟩:∃l:List Operand,args=l.toArray:=⟨args.toList,by simp⟩;have hxs:l=[s,x]:=by simpa using hxs
     subst hxs;split
     .rename_i ti ht;split
      .rename_i e hk;split
       .rename_i i hi;split
        .rename_i l hap;exact jnn hD ho (jr hD ht hk) hi hnid hap
        split
        .rename_i hs0;refine QM λys r hg hsrc hfit=>?_;have hf:=qM hfit;exact⟨jB.append0 ho rfl rfl (jr hD ht hk) (hD _ _ hi) hs0 hsrc hf.1 hf.2,λy hy=>by
          rcases List.mem_cons.1 hy with rfl|hy
          .exact hnid
          .exact hg y hy⟩
        .rename_i id hs0;split
         .rename_i k us hst;split
          .rename_i hc;simp only[Bool.and_eq_true,Bool.not_eq_true']at hc;have hk':=Nat.eq_of_beq_eq_true hc.1;subst hk';have hne:nid≠id:=λe=>by subst e;rw[hnid]at hst;cases hst
           refine QM λys r hg hsrc hfit=>?_;have hf:=qM hfit;exact⟨jB.append ho rfl rfl (jr hD ht hk) (hD _ _ hi) hs0 hne hsrc hf.1 hf.2,λy hy=>by
            rcases List.mem_cons.1 hy with rfl|hy
            .exact hnid
            .rcases List.mem_cons.1 hy with rfl|hy
             .exact hst
             .exact hg y hy⟩
          .trivial
         .trivial
        .rename_i id k off n hs0;split
         .rename_i p hp;split
          .rename_i hkk;have hkk:=Nat.eq_of_beq_eq_true hkk;have hp':=hp;have hst:=(yy (X:=X) hp).1;refine QM λys r hg hsrc hfit=>?_;have hf:p.off+p.n+ys.length<=p.xs.length:=by simpa[jr8]using hfit
           rw[<-hs0]at hp';exact⟨jB.winAppend ho rfl rfl (jr hD ht hk) (hD _ _ hi) hp' hkk hsrc hf,λy hy=>by
            rcases List.mem_cons.1 hy with rfl|hy
            .exact hst
            .exact hg y hy⟩
          .trivial
         .trivial
        .trivial
       .trivial
      .trivial
     .trivial
    .trivial
   .trivial
  .split
   .rename_i x t hxs hts;obtain⟨l,rfl⟩:∃l:List Operand,args=l.toArray:=⟨args.toList,by simp⟩;have hxs:l=[x]:=by simpa using hxs
    subst hxs;obtain rfl:ts = #[t]:=by apply Array.ext';simpa using hts
    split
    .rename_i ti ht;split
     .rename_i e hk;split
      .rename_i k hx;refine⟨jB.data λw O0 m st' ev hs hg hr=>?_,by simp⟩;have hx':=hr x (by simp[ho,Op.operands,Call.operands]);rw[hx]at hx';simp only[relV]at hx';obtain⟨a,hv⟩:=hx';refine⟨.int .i64 0,?_,by simp[rel]⟩;simp[execOp,ho,resolve,invoke,builtin,Builtin.cap_,hv,run_underlying (jr hD ht hk),goInt]
      .trivial
     .trivial
    .trivial
   .trivial
  .split
   .rename_i s x t t' hxs hts;obtain⟨l,rfl⟩:∃l:List Operand,args=l.toArray:=⟨args.toList,by simp⟩;have hxs:l=[s,x]:=by simpa using hxs
    subst hxs;obtain rfl:ts = #[t,t']:=by apply Array.ext';simpa using hts
    split
    .rename_i ti ht;split
     .rename_i e hk;split
      .rename_i i p hi hp;split
       .rename_i hkk;have hkk:=Nat.eq_of_beq_eq_true hkk;refine QM λys r hg hsrc=>?_;exact⟨jB.winCopy ho rfl rfl (jr hD ht hk) (hD _ _ hi) hp hkk hsrc,λy hy=>by
         rcases List.mem_cons.1 hy with rfl|hy
         .exact (yy (X:=X) hp).1
         .exact hg y hy⟩
       .trivial
      .trivial
     .trivial
    .trivial
   .trivial
  .split
   .rename_i x t hxs hts;obtain⟨l,rfl⟩:∃l:List Operand,args=l.toArray:=⟨args.toList,by simp⟩;have hxs:l=[x]:=by simpa using hxs
    subst hxs;obtain rfl:ts = #[t]:=by apply Array.ext';simpa using hts
    split
    .rename_i ti ht;split
     .rename_i e hk;split
      .rename_i i p hi hp;split
       .rename_i hkk;have hkk:=Nat.eq_of_beq_eq_true hkk;split
        .rename_i z hz;intro hzo;exact⟨jB.winClear ho rfl rfl (jr hD ht hk) (hD _ _ hi) hp hkk (λw O=>zR (m:=λ_=>none) hz (kQ e i)) hzo,by simpa[kr]using(yy (X:=X) hp).1⟩
        .trivial
       .trivial
      .trivial
     .trivial
    .trivial
   .trivial
  .split
   .rename_i g caps hf;split
    .rename_i sgs hsig;split
     .exact jis hM ho hf
     split
     .exact jmA hS ho hf hsig
     .split
      .rename_i p hp0;exact jj2 hS ho hf hsig p hp0
      .split
       .rename_i q hq0;exact jhf hS ho hf hsig q hq0
       .split
        .exact jhQ hS ho hf hsig
        .exact jmT hS ho hf hsig
    .trivial
   .trivial
  .trivial
 .trivial
end
end
noncomputable section
def YV(P:Program):Nat->List (Option TI)->Prop
 |_,[]=>True
 |n,none::l=>YV P (n+1) l
 |n,some i::l=>TI.ok P n i/\YV P (n+1) l
theorem YV.get{P:Program} :∀{l:List (Option TI)}{n k:Nat}{i:TI},YV P n l->l[k]? = some (some i)->TI.ok P (n+k) i
 | [],_,_,_,_,h=>by simp at h
 |none::l,n,k,i,ha,h=>by
  cases k with
  |zero=>simp at h
  |succ k=>have:=YV.get (l:=l) (n:=n+1) (k:=k) ha (by simpa using h);rwa[show n+1+k=n+(k+1) by omega]at this
 |some j::l,n,k,i,ha,h=>by
  cases k with
  |zero=>simp at h;subst h;exact ha.1
  |succ k=>have:=YV.get (l:=l) (n:=n+1) (k:=k) ha.2 (by simpa using h);rwa[show n+1+k=n+(k+1) by omega]at this
def tyD(l:List (Option TI))(t:Nat):Option TI:=l.getD t none
theorem YV.ok{P:Program}{l:List (Option TI)}(h:YV P 0 l):zl P (tyD l):=by
 intro t i hi;unfold tyD at hi;rw[List.getD_eq_getElem?_getD]at hi;have:l[t]? = some (some i):=by
  cases hl:l[t]? with
  |none=>rw[hl]at hi;cases hi
  |some x=>rw[hl]at hi;simp at hi;rw[hi]
 simpa using h.get this
def pG(t:A)(want:Bool)(x:Xl):Xl:=
 match t with
 |.val (.bool b)=>if b=want then x else some (.val undef)
 |.val (.tuple _)=>some (.val undef)
 |_=>none
def qx(t:A)(want:Bool):Option Bool:=
 match t with
 |.val (.bool b)=>some (decide (b=want))
 |.val (.tuple _)=>some false
 |_=>none
abbrev QZ:=Xm×Xn
structure GE where
 dst:Nat
 gd:Nat
 want:Bool
 v:V
def jhR(i d:Nat)(w:Bool):List GE->Option V
 | []=>none
 |g::gs=>bif Nat.beq g.dst i && (Nat.beq g.gd d && (g.want == w))then some g.v else jhR i d w gs
def jep(gs:List GE)(d:Nat)(w:Bool)(fr:Nat->V):Nat->V:=λi=>match jhR i d w gs with|some v=>v|none=>fr i
def Z9(gs:List GE):Option Tmp->List GE
 |none=>gs
 |some x=>gs.filter λg=> !(Nat.beq g.dst x) && !(Nat.beq g.gd x)
def jss(gs:List GE)(dst:Option Tmp)(d:Nat)(want:Bool)(v:V):List GE:=
 match dst with
 |none=>gs
 |some x=>bif Nat.beq x d then Z9 gs dst else⟨x,d,want,v⟩::Z9 gs dst
section
variable(C:Cfg)(M:Node->Xe)
def run1(o:Oper)(n:Nat)(fr:Nat->V)(st:jg)(nid:Nat)(k:V->Xm->Xn->Xe):Xe:=
 match evD C o (QS n fr) st with
 |.val v rds=>k v rds []
 |.opt x rds=>(x.run C M).bind λa=>k (.d a) rds []
 |.no=>(match st nid with
  |.dead=>(evL C o (QS n fr) st nid).run M k
  |_=>none)
def jnN(ops:Array Oper)(j:Nat):Option Nat:=match ops[j]? with|some o=>o.dst|none=>none
def stepOp(ops:Array Oper)(o:Oper)(n:Nat)(fr:Nat->V)(st:jg)(nid:Nat)(gs:List GE)(k:V->Xm->Xn->List GE->Xe):Xe:=
 match o.guard with
 |none=>run1 C M o n fr st nid λv rds wrs=>k v rds wrs (Z9 gs o.dst)
 |some (j,want)=>(match jnN ops j with
  |some d=>if Nat.blt d n then(match fr d with
   |.d t=>(match evD C o (QS n (jep gs d want fr)) st with
    |.val (.d a) rds=>(pG t want (some a)).bind λa=>k (.d a) rds [] (Z9 gs o.dst)
    |.val v rds=>(qx t want).bind λ_=>k .top rds [] (jss gs o.dst d want v)
    |.opt x rds=>(pG t want (x.run C M)).bind λa=>k (.d a) rds [] (Z9 gs o.dst)
    |.no=>(qx t want).bind λb=>brn b (run1 C M o n (jep gs d want fr) st nid λv rds wrs=>k v rds wrs (Z9 gs o.dst)) (k (.d (.val undef)) [] [] (Z9 gs o.dst)))
   |_=>none)else none
  |none=>none)
def evOps(ops:Array Oper)(n:Nat):List Oper->Nat->(Nat->V)->jg->List GE->List QZ->((Nat->V)->jg->List QZ->Xe)->Xe
 | [],_,fr,st,_,logs,k=>k fr st logs
 |o::os,nid,fr,st,gs,logs,k=>stepOp C M ops o n fr st nid gs λv rds wrs gs'=>evOps ops n os (nid+8) (zY fr o.dst v) (jz st wrs) gs' (logs++[(rds,wrs)]) k
end
def cWR:Wr->Rd->Option Xk
 |.cell id off _,.cell id' off' _=>if Nat.beq id id' && Nat.beq off off' then none else some []
 |.elem id i _,.elem id' i' _ _=>if Nat.beq id id' then some [(i,i')]else some []
 |.elem id i _,.telem id' _ i' _ _=>if Nat.beq id id' then some [(i,i')]else some []
 |.elem _ _ _,.tlen _ _ _ _=>some []
 |.cell _ _ _,.blen _ _=>some []
 |.elem _ _ _,.len _ _ _=>some []
 |w,r=>if Nat.beq w.id r.id then none else some []
def cWW:Wr->Wr->Option Xk
 |.cell id off _,.cell id' off' _=>if Nat.beq id id' && Nat.beq off off' then none else some []
 |.elem id i _,.elem id' i' _=>if Nat.beq id id' then some [(i,i')]else some []
 |w,r=>if Nat.beq w.id r.id then none else some []
def jg1{α β:Type}(f:α->β->Option Xk):List α->List β->Option Xk
 | [],_=>some []
 |a::as,bs=>match cOne (f a) bs,jg1 f as bs with
  |some x,some y=>some (x++y)
  |_,_=>none
where cOne (g:β->Option Xk):List β->Option Xk
 | []=>some []
 |b::bs=>match g b,cOne g bs with
  |some x,some y=>some (x++y)
  |_,_=>none
def jnD(a b:QZ):Option Xk:=
 match jg1 cWR a.2 b.1,jg1 cWR b.2 a.1,jg1 cWW a.2 b.2 with
 |some x,some y,some z=>some (x++y++z)
 |_,_,_=>none
def jv5(o:Oper)(i:Nat):Bool:=o.after.toList.any λe=>Region.binds .any e && Nat.beq e.on i
def jb0(all:List Oper)(i:Nat):Nat->Oper->Bool
 |0,_=>false
 |d+1,o=>o.after.toList.any λe=>Region.binds .any e && (Nat.beq e.on i || (match all[e.on]? with|some ok=>jb0 all i d ok|none=>false))
def juh(all:List Oper)(o:Oper)(i:Nat):Bool:=jb0 all i 2 o
def jt9(all:List Oper)(o:Oper)(i:Nat)(x:Option Xk):Option Xk:=
 match x with
 |some y=>some y
 |none=>if jb0 all i 7 o then some []else none
def jpZ(all:List Oper)(o:Oper)(b:QZ):Nat->List QZ->Option Xk
 |_,[]=>some []
 |i,a::as=>match(if juh all o i then some []else jt9 all o i (jnD a b)),jpZ all o b (i+1) as with
  |some x,some y=>some (x++y)
  |_,_=>none
def ji1(all:List Oper):List Oper->List QZ->List QZ->Option Xk
 | [],_,_=>some []
 |_::_,_,[]=>none
 |o::os,done,b::bs=>match jpZ all o b 0 done,ji1 all os (done++[b]) bs with
  |some x,some y=>some (x++y)
  |_,_=>none
def apart(ps:Xk):Bool:=ps.all λp=>decide (p.1≠p.2)
def jhr(nx:Nat)(logs:List QZ):Bool:=logs.all λl=>l.2.all λw=>Nat.blt w.id nx
def Jp:Code->Bool
 |.region _ ops draw=> !draw || Region.lexB .any ops.toList.toArray
 |.seq a b=>Jp a && Jp b
 |.cond _ a b=>Jp a && Jp b
 |.block _ b=>Jp b
 |.loop b=>Jp b
 |_=>true
def jlf(ops:List Oper)(logs:List QZ):Bool:=match ji1 ops ops [] logs with|some ps=>apart ps|none=>false
def pNe(a b:Nat):Bool:=decide (a≠b)
def apartK:Xk->Xe->Xe
 | [],k=>k
 |p::ps,k=>brn (pNe p.1 p.2) (apartK ps k) none
def juU(ops:List Oper)(logs:List QZ):Bool:=match ji1 ops ops [] logs with|some ps=>ps.isEmpty|none=>false
def regK(draw:Bool)(ops:List Oper)(logs:List QZ)(k:Xe):Xe:=
 brn (!draw || juU ops logs) k (match ji1 ops ops [] logs with|some ps=>apartK ps k|none=>none)
theorem jaB{r:Out}{k:Xe} :∀{ps:Xk},apartK ps k=some r->apart ps=true/\k=some r
 | [],h=>⟨rfl,h⟩
 |p::ps,h=>by
  simp only[apartK,brn]at h;split at h
  .rename_i hp;obtain⟨h1,h2⟩:=jaB h;refine⟨?_,h2⟩;unfold apart at h1⊢;rw[List.all_cons,h1,Bool.and_true];exact hp
  .cases h
theorem jmD{draw:Bool}{ops:List Oper}{logs:List QZ}{k:Xe}{r:Out}(h:regK draw ops logs k=some r):(!draw || jlf ops logs)=true/\k=some r:=by
 unfold regK brn at h;cases draw with
 |false=>exact⟨rfl,h⟩
 |true=>
  unfold jlf;unfold juU at h;cases hc:ji1 ops ops [] logs with
  |none=>rw[hc]at h;cases h
  |some ps=>
   rw[hc]at h;cases ps with
   |nil=>exact⟨rfl,h⟩
   |cons p ps=>exact jaB h
def evReg(C:Cfg)(M:Node->Xe)(ops:List Oper)(draw:Bool)(s:St)(κ:St->Xe):Xe:=
 evOps C M ops.toArray s.n ops s.nx s.fr s.st [] [] λfr st logs=>
  brn (jhr (s.nx+8*ops.length) logs) (regK draw ops logs (κ ⟨s.n,fr,st,s.nx+8*ops.length,s.sh⟩)) none
def jaT(mask:Nat)(fr:Nat->V):Nat->Nat->Xj
 |0,_=>[]
 |n+1,i=>(if Nat.testBit mask i then fr i else .top)::jaT mask fr n (i+1)
def jf3(ids:Xf):Xf->Option Xf
 | []=>some []
 |x::l=>(match qE x ids 0,jf3 ids l with|some i,some r=>some (i::r)|_,_=>none)
def jsf(ids:Xf):Option Xf->Option (Option Xf)
 |none=>some none
 |some l=>(match jf3 ids l with|some r=>some (some r)|none=>none)
def shL:Option Xf->Xf
 |none=>[]
 |some l=>l
def trO(mask:Nat):Obj->Obj
 |.row k xs=>if Nat.testBit mask (100+k)then .tre true k xs else .row k xs
 |o=>o
def again(M:Node->Xe)(f:FuncId)(p:Xf)(mask:Nat)(s:St):Xe:=
 let fr1:=jaT mask s.fr s.n 0
 let ids:=reach s.st 400 (QD fr1++shL s.sh) []
 if YF ids then
  match jsf ids s.sh with
  |some sh2=>(match qy (qf ids fr1) ids.length with
   |(fr2,os1)=>match zU (ids.map λid=>jc4 ids (s.st id)) (ids.length+os1.length)with
    |(ob,os3)=>M (.head f p fr2 (ob++os1.map (trO mask)++os3.map (trO mask)) sh2))
  |none=>none
 else none
def St.of(n:Nat)(fr:Xj)(objs:List Obj)(sh:Option Xf):St:=⟨n,λi=>fr.getD i .top,λi=>objs.getD i .dead,objs.length,sh⟩
open Classical in
noncomputable def allR(rem:Xc)(z:Xe)(g:Xd->Xc->Xe):Xe:=
 match rem with
 | []=>z
 |_::_=>if h:∃o,∀(i:Nat)(x:Xd),rem[i]? = some x->g x (rem.eraseIdx i)=some o then some h.choose else none
theorem jnl{z:Xe}{g:Xd->Xc->Xe} :allR [] z g=z:=rfl
theorem Zw{rem:Xc}(h0:rem≠ []){z:Xe}{g:Xd->Xc->Xe}{o:Out} :allR rem z g=some o↔ ∀(i:Nat)(x:Xd),rem[i]? = some x->g x (rem.eraseIdx i)=some o:=by
 cases rem with
 |nil=>exact absurd rfl h0
 |cons y ys=>
  unfold allR;dsimp only;constructor
  .intro h;split at h
   .rename_i hx;cases h;exact hx.choose_spec
   .cases h
  .intro h;have hx:∃o,∀(i:Nat)(x:Xd),(y::ys)[i]? = some x->g x ((y::ys).eraseIdx i)=some o:=⟨o,h⟩;rw[dif_pos hx];have h1:=hx.choose_spec 0 y rfl;have h2:=h 0 y rfl;rw[h1]at h2;exact h2
def yN:Code->Bool
 |.seq a b=>yN a && yN b
 |.cond _ a b=>yN a && yN b
 |.block _ b=>yN b
 |.loop _=>false
 |_=>true
structure RngB where
 it:Nat
 tn:Nat
 c:Nat
 k:Nat
 te:Nat
 b2:Nat
 bops:Array Oper
 ops4:List Oper
 rest:Code
def joC(nx ex:Oper):Option (Nat×Nat×Nat):=
 match nx.op,nx.dst,nx.guard,ex.op,ex.dst,ex.guard with
 |.next (.tmp it) false,some tn,none,.extract (.tmp tn') 0,some c,none=>bif Nat.beq tn tn' && (!Nat.beq it tn && !Nat.beq it c)then some (it,tn,c)else none
 |_,_,_,_,_,_=>none
def jkE(it:Nat)(en:Oper):Option Nat:=
 match en.op,en.dst,en.guard with
 |.entry (.tmp it'),some te,none=>bif Nat.beq it it' then some te else none
 |_,_,_=>none
def jib:Code->Option RngB
 |.seq (.region _ nops false) (.seq (.cond (.tmp c') .skip (.exit k)) (.block b2 (.seq (.region _ bops false) rest)))=>
  (match nops.toList with
  | [nx,ex]=>(match joC nx ex with
   |some (it,tn,c)=>(match bops.toList with
    |en::ops4=>(match jkE it en with
     |some te=>bif Nat.beq c c' && (!Nat.beq it te && yN rest)then some ⟨it,tn,c,k,te,b2,bops,ops4,rest⟩else none
     |none=>none)
    | []=>none)
   |none=>none)
  |_=>none)
 |_=>none
structure RngUn where
 ops:Array Oper
 mv:Oper
 rg:Oper
 t:Nat
 x:Operand
 d:Nat
 k:Nat
 lb:Code
def jlc(o:Oper):Option (Nat×Operand×Nat):=
 match o.op,o.dst,o.guard with
 |.range t x,some d,none=>some (t,x,d)
 |_,_,_=>none
def jto:Code->Code->Option RngUn
 |.region _ ops false,.block k (.loop lb)=>(match ops.toList with
  | [mv,rg]=>(match jlc rg,jib lb with
   |some (t,x,d),some rb=>bif Nat.beq d rb.it then some ⟨ops,mv,rg,t,x,d,k,lb⟩else none
   |_,_=>none)
  |_=>none)
 |_,_=>none
def js0(x:Xd):Bool:=match x with| [_,_]=>true|_=>false
def jsh(was:Bool)(q:Nat):Option Xf->Option (Option Xf)
 |some (q'::l)=>bif Nat.beq q' q then(bif was then some (some l)else(match l with| []=>some none|_=>none))else none
 |_=>none
def jrI:Xd->Xd->Bool
 |.val (.string a)::_,.val (.string b)::_=>decide (bs a<=bs b)
 |.val (.int _ a)::_,.val (.int _ b)::_=>decide (a<=b)
 |_,_=>true
def jvZ(xs:Xc):Xc:=xs.mergeSort jrI
def jlK:Obj->Obj
 |.map xs=>.map (jvZ xs)
 |o=>o
def jlM(s:St):St:={ s with st:=λi=>jlK (s.st i) }
def jov(C:Cfg)(t:Nat):Bool:=match C.D t with|some ti=>(match ti.kind with|.map _ _=>true|_=>false)|none=>false
section
variable(C:Cfg)(M:Node->Xe)(f:FuncId)
def againR(p:Xf)(mask:Nat)(s:St)(rem:Xc):Xe:=
 again (λx=>match x with|.head f p fr objs sh=>M (.rhead f p fr objs sh rem)|_=>none) f p mask (jlM s)
def evU(u:RngUn)(p:Xf)(s:St):Xe:=
 evOps (C.at f) M u.ops s.n [u.mv] s.nx s.fr s.st [] [] λfr st _=>
  brn (jov C u.t && Nat.blt u.d s.n) (match QS s.n fr u.x with
   |.d a=>(jju a).bind λxs=>(match st (s.nx+8)with
    |.dead=>againR M f p (C.kp f p) ⟨s.n,upd fr u.d (.ptr (s.nx+8) 0),upd st (s.nx+8) .gone,s.nx+9,s.sh⟩ xs
    |_=>none)
   |_=>none) none
end
open Classical in
noncomputable def bth(x y:Xe):Xe:=if x=y then x else none
theorem Y7{x y:Xe}{r:Out} :bth x y=some r↔x=some r/\y=some r:=by
 unfold bth;split
 .rename_i h;subst h;simp
 .rename_i h;constructor
  .intro h;cases h
  .rintro ⟨h1,h2⟩;exact absurd (h1.trans h2.symm) h
def nz(n:Nat):Bool:=decide (n=0)
theorem jt0(x:Xe):bth x x=x:=if_pos rfl
inductive Ex where
 |normal
 |exit (id:Nat)
 |ret
section
variable(C:Cfg)(M:Node->Xe)(f:FuncId)
def evC:Code->Xf->St->(Ex->St->Xe)->Xe
 |.skip,_,s,κ=>κ .normal s
 |.region _ ops draw,_,s,κ=>evReg (C.at f) M ops.toList draw s (κ .normal)
 |.seq a b,p,s,κ=>(match jto a b with
  |some u=>evU C M f u (p++[1]++[0]) s
  |none=>evC a (p++[0]) s λe s'=>match e with|.normal=>evC b (p++[1]) s' κ|e=>κ e s')
 |.cond c x y,p,s,κ=>(match QS s.n s.fr c with
  |.d a=>(zD a).bind λt=>brn t (evC x (p++[0]) s κ) (evC y (p++[1]) s κ)
  |.ub n neg=>brn (nz n) (bth (evC x (p++[0]) s κ) (evC y (p++[1]) s κ)) (if neg then evC x (p++[0]) s κ else evC y (p++[1]) s κ)
  |_=>none)
 |.block id b,p,s,κ=>evC b (p++[0]) s λe s'=>match e with|.exit id'=>if Nat.beq id' id then κ .normal s' else κ (.exit id') s'|e=>κ e s'
 |.loop _,p,s,_=>again M f p (C.kp f p) s
 |.exit id,_,s,κ=>κ (.exit id) s
 |.ret,_,s,κ=>κ .ret s
 |.label _,_,s,κ=>κ .normal s
 |_,_,_,_=>none
def evAt:Code->Xf->Xf->St->(Ex->St->Xe)->Xe
 |.loop b,[],p,s,κ=>evC C M f b (p++[0]) s λe s'=>match e with|.normal=>again M f p (C.kp f p) s'|e=>κ e s'
 |.loop b,0::r,p,s,κ=>evAt b r (p++[0]) s λe s'=>match e with|.normal=>again M f p (C.kp f p) s'|e=>κ e s'
 |.seq a b,0::r,p,s,κ=>evAt a r (p++[0]) s λe s'=>match e with|.normal=>evC C M f b (p++[1]) s' κ|e=>κ e s'
 |.seq _ b,1::r,p,s,κ=>evAt b r (p++[1]) s κ
 |.cond _ x _,0::r,p,s,κ=>evAt x r (p++[0]) s κ
 |.cond _ _ y,1::r,p,s,κ=>evAt y r (p++[1]) s κ
 |.block id b,0::r,p,s,κ=>evAt b r (p++[0]) s λe s'=>match e with|.exit id'=>if Nat.beq id' id then κ .normal s' else κ (.exit id') s'|e=>κ e s'
 |_,_,_,_,_=>none
def roundK(rb:RngB)(p:Xf)(was:Bool)(rem:Xc)(κ:Ex->St->Xe)(e:Ex)(s:St):Xe:=
 match s.fr rb.it with
 |.ptr q 0=>(jsh was q s.sh).bind λsh=>(match e with
  |.normal=>againR M f p (C.kp f p) { s with sh:=sh } rem
  |.exit id=>(if Nat.beq id rb.b2 then againR M f p (C.kp f p) { s with sh:=sh } rem else κ (.exit id) { s with sh:=sh })
  |.ret=>κ .ret { s with sh:=sh })
 |_=>none
def evIter(rb:RngB)(p:Xf)(s:St)(rem:Xc)(κ:Ex->St->Xe):Xe:=
 match s.fr rb.it with
 |.ptr q 0=>brn (Nat.blt rb.tn s.n && Nat.blt rb.c s.n) (allR rem (κ (.exit rb.k) { s with fr:=upd (upd s.fr rb.tn .top) rb.c (.d (vb false)) }) λx rem'=>
  brn (js0 x) (evOps (C.at f) M rb.bops s.n rb.ops4 s.nx (upd (upd (upd s.fr rb.tn .top) rb.c (.d (vb true))) rb.te (.d (.tup [jd x 0,jd x 1]))) s.st [] [] λfr st _=>
   evC C M f rb.rest (p++[0,1,1,0,1]) ⟨s.n,fr,st,s.nx+8*rb.ops4.length,some (q::shL s.sh)⟩ (roundK C M f rb p s.sh.isSome rem' κ)) none) none
 |_=>none
def evAtR(rem:Xc):Code->Xf->Xf->St->(Ex->St->Xe)->Xe
 |.loop b,[],p,s,κ=>(match jib b with|some rb=>evIter C M f rb p s rem κ|none=>none)
 |.loop b,0::r,p,s,κ=>evAtR rem b r (p++[0]) s λe s'=>match e with|.normal=>again M f p (C.kp f p) s'|e=>κ e s'
 |.seq a b,0::r,p,s,κ=>evAtR rem a r (p++[0]) s λe s'=>match e with|.normal=>evC C M f b (p++[1]) s' κ|e=>κ e s'
 |.seq _ b,1::r,p,s,κ=>evAtR rem b r (p++[1]) s κ
 |.cond _ x _,0::r,p,s,κ=>evAtR rem x r (p++[0]) s κ
 |.cond _ _ y,1::r,p,s,κ=>evAtR rem y r (p++[1]) s κ
 |.block id b,0::r,p,s,κ=>evAtR rem b r (p++[0]) s λe s'=>match e with|.exit id'=>if Nat.beq id' id then κ .normal s' else κ (.exit id') s'|e=>κ e s'
 |_,_,_,_,_=>none
end
def jq3(C:Cfg)(s:St):ResultVar->Option V
 |.tmp t=>some (QS s.n s.fr (.tmp t))
 |.cell a t=>(match yL C t (QS s.n s.fr (.tmp a)) s.st with
  |.val v _=>some v
  |_=>none)
def jgp(C:Cfg)(s:St):List ResultVar->List TypeId->Option Xj
 | [],_=>some []
 |r::rs,[]=>(match jq3 C s r,jgp C s rs []with|some v,some vs=>some (v::vs)|_,_=>none)
 |r::rs,t::ts=>(match jq3 C s r,jgp C s rs ts with|some v,some vs=>some (nilV C.D t v::vs)|_,_=>none)
def Jd:Xj->V
 | [v]=>v
 |vs=>.tup vs
def Qd(C:Cfg)(fn:Func)(s:St):Xe:=
 match jgp C s fn.results.toList fn.resultTypes.toList with
 |some vs=>(match toA s.st 60 (Jd vs)with|some (a,_)=>some (a,[])|none=>none)
 |none=>none
def jxO(C:Cfg)(fn:Func):Ex->St->Xe
 |.normal,s=>Qd C fn s
 |.ret,s=>Qd C fn s
 |_,_=>none
def eqP:Xf->Xf->Bool
 | [],[]=>true
 |x::xs,y::ys=>Nat.beq x y && eqP xs ys
 |_,_=>false
structure MAcc where
 as:Xd
 ns:List (Option Nat)
 rds:Xm
def juF(n:Nat)(a:A):Option Xd:=match a with|.agg ds=>if ds.length=n then some ds else none|_=>none
mutual
def mt(st:jg)(sh:Xf):Sh->V->MAcc->Option MAcc
 |.d i,v,c=>(match toA st 60 v with
  |some (a,r)=>if Nat.beq i c.as.length then some ⟨c.as++[a],c.ns,c.rds++r⟩else none
  |none=>none)
 |.row o,.row id,c=>(match sh[o]? with
  |some q=>if Nat.beq q id then some c else none
  |none=>if Nat.beq o (sh.length+c.ns.length)then some ⟨c.as,c.ns++[some id],c.rds⟩else none)
 |.row o,.nil _,c=>if Nat.beq o (sh.length+c.ns.length)then some ⟨c.as,c.ns++[none],c.rds⟩else none
 |.ptr o off,.ptr id off',c=>(match sh[o]? with
  |some q=>if Nat.beq q id && Nat.beq off off' then some c else none
  |none=>none)
 |.agg l,.agg cs,c=>mtL st sh l cs c
 |.agg l,.d a,c=>(juF l.length a).bind λds=>mtL st sh l ((List.range l.length).map λj=>.d (jd ds j)) c
 |.tup l,.tup cs,c=>mtL st sh l cs c
 |_,_,_=>none
def mtL(st:jg)(sh:Xf):List Sh->Xj->MAcc->Option MAcc
 | [],[],c=>some c
 |s::l,v::vs,c=>(mt st sh s v c).bind λc'=>mtL st sh l vs c'
 |_,_,_=>none
end
def mtB(st:jg)(sh:Xf):List OW->Xf->MAcc->Option MAcc
 | [],[],c=>some c
 |.box l::ws,id::ids,c=>(match st id with
  |.box cs=>(mtL st sh l cs c).bind λc'=>mtB st sh ws ids c'
  |_=>none)
 |_::ws,_::ids,c=>mtB st sh ws ids c
 |_,_,_=>none
def ioL:List OW->Xf->List (Option Nat)
 |.io _::ws,id::ids=>some id::ioL ws ids
 |_::ws,_::ids=>ioL ws ids
 |_,_=>[]
def jn4:List OW->Nat->Bool
 | [],_=>true
 |.io j::ws,n=>Nat.beq j n && jn4 ws (n+1)
 |_::ws,n=>jn4 ws n
def ioN:List OW->Nat
 | []=>0
 |.io _::ws=>ioN ws+1
 |_::ws=>ioN ws
def Qr:List OW->Xf->List (Option Nat)
 |.cons::ws,_::ids=>none::Qr ws ids
 |_::ws,id::ids=>some id::Qr ws ids
 |_,_=>[]
def jho(x:Nat):List (Option Nat)->Bool
 | []=>false
 |none::l=>jho x l
 |some y::l=>Nat.beq x y || jho x l
def jcG:List (Option Nat)->Bool
 | []=>true
 |none::l=>jcG l
 |some x::l=> !jho x l && jcG l
def pNo(a:A):Option Unit:=match a with|.val (.bool false)=>some ()|_=>none
def Ky(st:jg)(a:A):Xf->List (Option Nat)->Option (List Xc)
 | [],[]=>some []
 |k::ks,none::l=>(Ky st a ks l).bind λr=>if Nat.blt (kdK k) 128 then some ([]::r)else none
 |k::ks,some id::l=>(Ky st a ks l).bind λr=>(match st id with
  |.row k' xs=>if Nat.beq k' (kdK k) && Nat.blt (kdK k) 64 then some (xs::r)else none
  |.tre true k' xs=>if Nat.beq (k'+64) (kdK k) && !Nat.beq (kdK k) 128 then some (xs::r)else none
  |.map xs=>if Nat.beq k 128 then some (xs::r)else none
  |.gone=>if Nat.ble 256 k then(pNo a).bind λ_=>some ([]::r)else none
  |_=>none)
 |_,_=>none
def slL:Xf->List Xc->Xd
 |k::ks,r::rs=>.sl k r::slL ks rs
 |_,_=>[]
def juR(live:List (Option Nat))(rds:Xm):Bool:=rds.all λr=>match r with|.obj id o=> !o.alive || !jho id live|_=>true
def jsS(st:jg)(sg:SigA)(sh:Xf)(vs:Xj):Xe:=
 (mtB st sh sg.ws sh ⟨[],[],[]⟩).bind λc1=>(mt st sh sg.r (Jd vs) c1).bind λc=>
  (if Nat.beq c.as.length sg.nd && Nat.beq c.ns.length sg.nw.length && jn4 sg.ws 0 && eqP sg.nw (KD (ioN sg.ws) sg.nw.length) && jcG (Qr sg.ws sh++c.ns) && juR (Qr sg.ws sh++c.ns) c.rds then
   (Ky st (jaI sg.ks c.as) sg.ks (ioL sg.ws sh++c.ns)).bind λrs=>some (.top,c.as++slL sg.ks rs)
  else none)
def jui(C:Cfg)(fn:Func)(sg:SigA)(sh:Xf)(s:St):Xe:=
 match jgp C s fn.results.toList fn.resultTypes.toList with
 |some vs=>jsS s.st sg sh vs
 |none=>none
def QH:List ResultVar->Xf
 | []=>[]
 |.tmp t::l=>t::QH l
 |_::l=>QH l
def QJ(t:Nat)(s:St):St:=
 match s.fr t with
 |.win id k off n=>(match s.st id with
  |.row k' xs=>bif Nat.beq k' k && (Nat.beq off 0 && jac (s.st s.nx))then { s with fr:=upd s.fr t (.row s.nx),st:=upd (upd s.st id .gone) s.nx (.row k (xs.take n)),nx:=s.nx+1 }else s
  |_=>s)
 |_=>s
def jlR:Obj->Obj
 |.tre _ k xs=>.tre true k xs
 |o=>o
def jun(s:St):St:={ s with st:=λi=>jlR (s.st i) }
def QK:Xf->St->St
 | [],s=>jun s
 |t::ts,s=>QK ts (QJ t s)
def jj3(κ:St->Xe):Xf->St->Xe
 | [],s=>κ s
 |t::ts,s=>(match s.fr t with
  |.sub id ii k j=>(match s.st id with
   |.tre true k' xs=>bif Nat.beq k' k && Nat.blt j k then(jbh xs ii).bind λcs=>brn (jaP (jd cs j)) (jj3 κ ts { s with fr:=upd s.fr t (.d (jd cs j)),st:=upd s.st id .gone }) none else jj3 κ ts s
   |_=>jj3 κ ts s)
  |_=>jj3 κ ts s)
def jnP(C:Cfg)(f:FuncId)(fn:Func)(s:St):Xe:=
 match s.sh with
 |none=>Qd C fn s
 |some sh=>(match C.sig f with
  |some sgs=>(match qT sh.length sgs with
   |some sg=>jj3 (jui C fn sg sh) (QH fn.results.toList) (QK (QH fn.results.toList) s)
   |none=>none)
  |none=>none)
def qB(C:Cfg)(f:FuncId)(fn:Func):Ex->St->Xe
 |.normal,s=>jnP C f fn s
 |.ret,s=>jnP C f fn s
 |_,_=>none
def Kz(fn:Func)(args:Xd):St:=St.of fn.ntmps (args.map V.d) [] none
def YO(fn:Func)(args:Xj)(objs:List Obj):St:=St.of fn.ntmps args objs (some (List.range objs.length))
def step(C:Cfg)(M:Node->Xe):Node->Xe
 |.call f args=>(match C.ext f with
  |some x=>x args
  |none=>(match C.pureF f with
   |false=>none
   |true=>(match C.P.funcs[f]? with
    |some fn=>(match fn.body with
     |some c=>brn (Nat.ble args.length fn.ntmps) (evC C M f c [] (Kz fn args) (qB C f fn)) none
     |none=>none)
    |none=>none)))
 |.callv f args objs=>(match C.extv f with
  |some x=>extRun C M x args objs
  |none=>(match C.P.funcs[f]? with
    |some fn=>(match fn.body with
     |some c=>brn (Nat.ble args.length fn.ntmps) (evC C M f c [] (YO fn args objs) (qB C f fn)) none
     |none=>none)
    |none=>none))
 |.head f p fr objs sh=>(match C.P.funcs[f]? with
   |some fn=>(match fn.body with
    |some c=>evAt C M f c p [] (St.of fn.ntmps fr objs sh) (qB C f fn)
    |none=>none)
   |none=>none)
 |.rhead f p fr objs sh rem=>(match C.P.funcs[f]? with
   |some fn=>(match fn.body with
    |some c=>evAtR C M f rem c p [] (St.of fn.ntmps fr objs sh) (qB C f fn)
    |none=>none)
   |none=>none)
def Mn(C:Cfg):Nat->Node->Xe
 |0,_=>none
 |n+1,x=>step C (Mn C n) x
open Classical in
noncomputable def MM(C:Cfg)(x:Node):Xe:=if h:∃r n,Mn C n x=some r then some h.choose else none
def LeM(M M':Node->Xe):Prop:=∀x r,M x=some r->M' x=some r
structure Nice(C:Cfg){α:Type}(Φ:(Node->Xe)->Option α):Prop where
 mono:∀M M' r,LeM M M'->Φ M=some r->Φ M'=some r
 fin:(∀n,LeM (Mn C n) (Mn C (n+1)))-> ∀r,Φ (MM C)=some r-> ∃n,Φ (Mn C n)=some r
section
variable{C:Cfg}{α β:Type}
theorem jay(h:∀n,LeM (Mn C n) (Mn C (n+1))){a b:Nat}(hab:a<=b):LeM (Mn C a) (Mn C b):=by
 induction hab with
 |refl=>exact λ_ _ h=>h
 |step _ ih=>exact λx r hr=>h _ x r (ih x r hr)
theorem Nice.const(x:Option α):Nice C λ_=>x:=⟨λ_ _ _ _ h=>h,λ_ _ h=>⟨0,h⟩⟩
theorem Nice.node(x:Node):Nice C λM=>M x:=
 ⟨λ_ _ _ h hr=>h _ _ hr,λ_ r h=>by
  unfold MM at h;split at h
  .rename_i hx;cases h;exact hx.choose_spec
  .cases h⟩
theorem Nice.bind{Φ:(Node->Xe)->Option α}{Ψ:(Node->Xe)->α->Option β}(h1:Nice C Φ)(h2:∀a,Nice C λM=>Ψ M a):Nice C λM=>(Φ M).bind (Ψ M) where
 mono:=λM M' r hM h=>by
  rw[Option.bind_eq_some_iff]at h⊢;obtain⟨a,h3,h4⟩:=h;exact⟨a,h1.mono _ _ _ hM h3,(h2 a).mono _ _ _ hM h4⟩
 fin:=λhc r h=>by
  rw[Option.bind_eq_some_iff]at h;obtain⟨a,h3,h4⟩:=h;obtain⟨n1,h5⟩:=h1.fin hc _ h3;obtain⟨n2,h6⟩:=(h2 a).fin hc _ h4;refine⟨max n1 n2,?_⟩;rw[Option.bind_eq_some_iff];exact⟨a,h1.mono _ _ _ (jay hc (Nat.le_max_left _ _)) h5,(h2 a).mono _ _ _ (jay hc (Nat.le_max_right _ _)) h6⟩
theorem Nice.fin'(chk:Bool){Φ:(Node->Xe)->Xe}(h:Nice C Φ):Nice C λM=>(Φ M).bind (Abs.fin chk):=h.bind λ_=>Nice.const _
theorem Nice.dx{C':Cfg}(x:DX):Nice C λM=>x.run C' M:=by
 cases x with
 |opt x=>exact Nice.const x
 |call f args chk=>exact(Nice.node _).fin' chk
 |callc fn args chk=>
  simp only[DX.run];split
  .split
   .exact (Nice.node _).fin' chk
   .exact Nice.const _
  .exact Nice.const _
theorem Nice.pG{t:A}{want:Bool}{Φ:(Node->Xe)->Xl}(h:Nice C Φ):Nice C λM=>pG t want (Φ M):=by
 unfold Abs.pG;split
 .split
  .exact h
  .exact Nice.const _
 .exact Nice.const _
 .exact Nice.const _
theorem Nice.brn{α:Type}{b:Bool}{Φ Ψ:(Node->Xe)->Option α}(h1:Nice C Φ)(h2:Nice C Ψ):Nice C λM=>Abs.brn b (Φ M) (Ψ M):=by
 cases b
 .exact h2
 .exact h1
theorem Nice.bth{Φ Ψ:(Node->Xe)->Xe}(h1:Nice C Φ)(h2:Nice C Ψ):Nice C λM=>Abs.bth (Φ M) (Ψ M) where
 mono:=λM M' r hM h=>by
  rw[Y7]at h⊢;exact⟨h1.mono _ _ _ hM h.1,h2.mono _ _ _ hM h.2⟩
 fin:=λhc r h=>by
  rw[Y7]at h;obtain⟨n1,h5⟩:=h1.fin hc _ h.1;obtain⟨n2,h6⟩:=h2.fin hc _ h.2;refine⟨max n1 n2,?_⟩;rw[Y7];exact⟨h1.mono _ _ _ (jay hc (Nat.le_max_left _ _)) h5,h2.mono _ _ _ (jay hc (Nat.le_max_right _ _)) h6⟩
theorem Nice.lx{κ:(Node->Xe)->V->Xm->Xn->Xe}(hκ:∀v r w,Nice C λM=>κ M v r w):∀x:LX,Nice C λM=>x.run M (κ M)
 |.fail=>Nice.const _
 |.ret v r w=>hκ v r w
 |.bnd x k=>(Nice.const x).bind λa=>Nice.lx hκ (k a)
 |.nat x k=>(Nice.const x).bind λa=>Nice.lx hκ (k a)
 |.rows x k=>(Nice.const x).bind λa=>Nice.lx hκ (k a)
 |.cells x k=>(Nice.const x).bind λa=>Nice.lx hκ (k a)
 |.chk b k=>by
  simp only[LX.run];exact Nice.brn (Nice.lx hκ k) (Nice.const _)
 |.node x k=>(Nice.node _).bind λa=>Nice.lx hκ (k a)
 |.cnd a x y=>(Nice.const (zD a)).bind λ_=>Nice.brn (Nice.lx hκ x) (Nice.lx hκ y)
theorem Nice.run1{C':Cfg}{o:Oper}{n:Nat}{fr:Nat->V}{st:jg}{nid:Nat}{κ:(Node->Xe)->V->Xm->Xn->Xe}(hκ:∀v r w,Nice C λM=>κ M v r w):Nice C λM=>Abs.run1 C' M o n fr st nid (κ M):=by
 unfold Abs.run1;split
 .exact hκ _ _ _
 .exact (Nice.dx _).bind λa=>hκ _ _ _
 .split
  .exact Nice.lx hκ _
  .exact Nice.const _
theorem Nice.stepOp{C':Cfg}{ops:Array Oper}{o:Oper}{n:Nat}{fr:Nat->V}{st:jg}{nid:Nat}{gs:List GE}{κ:(Node->Xe)->V->Xm->Xn->List GE->Xe}(hκ:∀v r w g,Nice C λM=>κ M v r w g):Nice C λM=>Abs.stepOp C' M ops o n fr st nid gs (κ M):=by
 unfold Abs.stepOp;split
 .exact Nice.run1 (κ:=λM v r w=>κ M v r w _) λ_ _ _=>hκ _ _ _ _
 .split
  .split
   .split
    .split
     .exact (Nice.const _).bind λa=>hκ _ _ _ _
     .exact (Nice.const _).bind λa=>hκ _ _ _ _
     .exact (Nice.pG (Nice.dx _)).bind λa=>hκ _ _ _ _
     .exact (Nice.const _).bind λb=>Nice.brn (Nice.run1 (κ:=λM v r w=>κ M v r w _) λ_ _ _=>hκ _ _ _ _) (hκ _ _ _ _)
    .exact Nice.const _
   .exact Nice.const _
  .exact Nice.const _
theorem Nice.evOps{C':Cfg}{ops:Array Oper}{n:Nat}{κ:(Node->Xe)->(Nat->V)->jg->List QZ->Xe}(hκ:∀f s l,Nice C λM=>κ M f s l):∀(l:List Oper)(nid:Nat)(fr:Nat->V)(st:jg)(gs:List GE)(logs:List QZ),
  Nice C λM=>Abs.evOps C' M ops n l nid fr st gs logs (κ M)
 | [],_,fr,st,_,logs=>hκ fr st logs
 |o::os,nid,fr,st,gs,logs=>Nice.stepOp (C':=C') (κ:=λM v rds wrs gs'=>Abs.evOps C' M ops n os (nid+8) (zY fr o.dst v) (jz st wrs) gs' (logs++[(rds,wrs)]) (κ M)) λv rds wrs gs'=>Nice.evOps hκ os _ _ _ _ _
theorem Nice.apartK{Φ:(Node->Xe)->Xe}(h:Nice C Φ):∀ps:Xk,Nice C λM=>Abs.apartK ps (Φ M)
 | []=>h
 |_::ps=>Nice.brn (Nice.apartK h ps) (Nice.const _)
theorem Nice.regK{draw:Bool}{ops:List Oper}{logs:List QZ}{Φ:(Node->Xe)->Xe}(h:Nice C Φ):Nice C λM=>Abs.regK draw ops logs (Φ M):=by
 unfold Abs.regK;refine Nice.brn h ?_;split
 .exact Nice.apartK h _
 .exact Nice.const _
theorem Nice.evReg{C':Cfg}{ops:List Oper}{draw:Bool}{s:St}{κ:(Node->Xe)->St->Xe}(hκ:∀s,Nice C λM=>κ M s):Nice C λM=>Abs.evReg C' M ops draw s (κ M):=by
 unfold Abs.evReg;exact Nice.evOps (κ:=λM fr st logs=>Abs.brn (jhr (s.nx+8*ops.length) logs) (Abs.regK draw ops logs (κ M ⟨s.n,fr,st,s.nx+8*ops.length,s.sh⟩)) none) (λ_ _ _=>Nice.brn (Nice.regK (hκ _)) (Nice.const _)) _ _ _ _ _ _
theorem Nice.again{f:FuncId}{p:Xf}{mask:Nat}{s:St} :Nice C λM=>Abs.again M f p mask s:=by
 unfold Abs.again;dsimp only;split
 .split
  .exact Nice.node _
  .exact Nice.const _
 .exact Nice.const _
theorem Nice.againR{f:FuncId}{p:Xf}{mask:Nat}{s:St}{rem:Xc} :Nice C λM=>Abs.againR M f p mask s rem:=by
 unfold Abs.againR Abs.again;dsimp only;split
 .split
  .exact Nice.node _
  .exact Nice.const _
 .exact Nice.const _
theorem Nice.evU{C':Cfg}{f:FuncId}{u:RngUn}{p:Xf}{s:St} :Nice C λM=>Abs.evU C' M f u p s:=by
 unfold Abs.evU;refine Nice.evOps (κ:=λM fr st _=>Abs.brn (jov C' u.t && Nat.blt u.d s.n) (match QS s.n fr u.x with
   |.d a=>(jju a).bind λxs=>(match st (s.nx+8)with
    |.dead=>Abs.againR M f p (C'.kp f p) ⟨s.n,upd fr u.d (.ptr (s.nx+8) 0),upd st (s.nx+8) .gone,s.nx+9,s.sh⟩ xs
    |_=>none)
   |_=>none) none) (λfr st _=>Nice.brn ?_ (Nice.const _)) _ _ _ _ _ _
 split
 .refine (Nice.const _).bind λxs=>?_;split
  .exact Nice.againR
  .exact Nice.const _
 .exact Nice.const _
theorem Nice.evC{f:FuncId} :∀(c:Code)(p:Xf)(s:St)(κ:(Node->Xe)->Ex->St->Xe),(∀e s,Nice C λM=>κ M e s)->Nice C λM=>Abs.evC C M f c p s (κ M)
 |.skip,_,s,κ,h=>h _ _
 |.region _ ops draw,_,s,κ,h=>Nice.evReg (κ:=λM=>κ M .normal) λs=>h _ s
 |.seq a b,p,s,κ,h=>by
  simp only[Abs.evC];split
  .exact Nice.evU
  .refine Nice.evC a _ s (λM e s'=>match e with|.normal=>Abs.evC C M f b (p++[1]) s' (κ M)|e=>κ M e s') λe s'=>?_;cases e
   .exact Nice.evC b _ s' κ h
   .exact h _ _
   .exact h _ _
 |.cond c x y,p,s,κ,h=>by
  simp only[Abs.evC];split
  .exact (Nice.const _).bind λt=>Nice.brn (Nice.evC x _ s κ h) (Nice.evC y _ s κ h)
  .rename_i n neg _;refine Nice.brn (Nice.bth (Nice.evC x _ s κ h) (Nice.evC y _ s κ h)) ?_;cases neg
   .exact Nice.evC y _ s κ h
   .exact Nice.evC x _ s κ h
  .exact Nice.const _
 |.block id b,p,s,κ,h=>Nice.evC b _ s (λM e s'=>match e with|.exit id'=>if Nat.beq id' id then κ M .normal s' else κ M (.exit id') s'|e=>κ M e s') λe s'=>by
  cases e
  .exact h _ _
  .dsimp only;split
   .exact h _ _
   .exact h _ _
  .exact h _ _
 |.loop _,p,s,_,_=>Nice.again
 |.exit id,_,s,κ,h=>h _ _
 |.ret,_,s,κ,h=>h _ _
 |.label _,_,s,κ,h=>h _ _
 |.rangeFunc _ _ _ _,_,_,_,_=>Nice.const _
 |.scope _,_,_,_,_=>Nice.const _
 |.goto _,_,_,_,_=>Nice.const _
 |.refuse _,_,_,_,_=>Nice.const _
theorem Nice.evAt{f:FuncId} :∀(c:Code)(r p:Xf)(s:St)(κ:(Node->Xe)->Ex->St->Xe),(∀e s,Nice C λM=>κ M e s)->Nice C λM=>Abs.evAt C M f c r p s (κ M):=by
 intro c;induction c with
 |loop b ih=>
  intro r p s κ h;have hk:∀(e:Ex)(s':St),Nice C λM=>(match e with|.normal=>Abs.again M f p (C.kp f p) s'|e=>κ M e s'):=λe s'=>by
   cases e
   .exact Nice.again
   .exact h _ _
   .exact h _ _
  rcases r with _|⟨_|q,r⟩
  .exact Nice.evC b _ s (λM e s'=>match e with|.normal=>Abs.again M f p (C.kp f p) s'|e=>κ M e s') hk
  .exact ih r _ s (λM e s'=>match e with|.normal=>Abs.again M f p (C.kp f p) s'|e=>κ M e s') hk
  .exact Nice.const _
 |seq a b iha ihb=>
  intro r p s κ h;have hk:∀(e:Ex)(s':St),Nice C λM=>(match e with|.normal=>Abs.evC C M f b (p++[1]) s' (κ M)|e=>κ M e s'):=λe s'=>by
   cases e
   .exact Nice.evC b _ s' κ h
   .exact h _ _
   .exact h _ _
  rcases r with _|⟨_|_|q,r⟩
  .exact Nice.const _
  .exact iha r _ s (λM e s'=>match e with|.normal=>Abs.evC C M f b (p++[1]) s' (κ M)|e=>κ M e s') hk
  .exact ihb r _ s κ h
  .exact Nice.const _
 |cond c x y ihx ihy=>
  intro r p s κ h;rcases r with _|⟨_|_|q,r⟩
  .exact Nice.const _
  .exact ihx r _ s κ h
  .exact ihy r _ s κ h
  .exact Nice.const _
 |block id b ih=>
  intro r p s κ h;have hk:∀(e:Ex)(s':St),Nice C λM=>(match e with|.exit id'=>if Nat.beq id' id then κ M .normal s' else κ M (.exit id') s'|e=>κ M e s'):=λe s'=>by
   cases e
   .exact h _ _
   .dsimp only;split
    .exact h _ _
    .exact h _ _
   .exact h _ _
  rcases r with _|⟨_|q,r⟩
  .exact Nice.const _
  .exact ih r _ s (λM e s'=>match e with|.exit id'=>if Nat.beq id' id then κ M .normal s' else κ M (.exit id') s'|e=>κ M e s') hk
  .exact Nice.const _
 |_=>intro r p s κ h;exact Nice.const _
theorem Nice.allR{rem:Xc}{Z:(Node->Xe)->Xe}{g:(Node->Xe)->Xd->Xc->Xe}(hz:Nice C Z)(hg:∀x r,Nice C λM=>g M x r):Nice C λM=>Abs.allR rem (Z M) (g M):=by
 by_cases h0:rem=[]
 .subst h0;exact hz
 .refine ⟨λM M' r hM h=>?_,λhc r h=>?_⟩
  .rw [Zw h0]at h⊢;exact λi x hx=>(hg _ _).mono _ _ _ hM (h i x hx)
  .rw [Zw h0]at h;have key:∀k,∃n,∀(i:Nat)(x:Xd),i<k->rem[i]? = some x->g (Mn C n) x (rem.eraseIdx i)=some r:=by
    intro k;induction k with
    |zero=>exact⟨0,λi x hi=>absurd hi (Nat.not_lt_zero _)⟩
    |succ k ih=>
     obtain⟨n,hn⟩:=ih;cases hk:rem[k]? with
     |none=>
      refine⟨n,λi x hi hx=>?_⟩;by_cases e:i=k
      .subst e;rw[hk]at hx;cases hx
      .exact hn i x (by omega) hx
     |some y=>
      obtain⟨n2,h2⟩:=(hg y (rem.eraseIdx k)).fin hc _ (h k y hk);refine⟨max n n2,λi x hi hx=>?_⟩;by_cases e:i=k
      .subst e;rw[hk]at hx;cases hx;exact(hg _ _).mono _ _ _ (jay hc (Nat.le_max_right _ _)) h2
      .exact (hg _ _).mono _ _ _ (jay hc (Nat.le_max_left _ _)) (hn i x (by omega) hx)
   obtain⟨n,hn⟩:=key rem.length;refine⟨n,?_⟩;rw[Zw h0];exact λi x hx=>hn i x (List.getElem?_eq_some_iff.1 hx).1 hx
theorem Nice.roundK{f:FuncId}{rb:RngB}{p:Xf}{was:Bool}{rem:Xc}{κ:(Node->Xe)->Ex->St->Xe}(h:∀e s,Nice C λM=>κ M e s)(e:Ex)(s:St):Nice C λM=>Abs.roundK C M f rb p was rem (κ M) e s:=by
 unfold Abs.roundK;split
 .refine (Nice.const _).bind λsh=>?_;cases e with
  |normal=>exact Nice.againR
  |exit id=>
   dsimp only;split
   .exact Nice.againR
   .exact h _ _
  |ret=>exact h _ _
 .exact Nice.const _
theorem Nice.evIter{f:FuncId}{rb:RngB}{p:Xf}{s:St}{rem:Xc}{κ:(Node->Xe)->Ex->St->Xe}(h:∀e s,Nice C λM=>κ M e s):Nice C λM=>Abs.evIter C M f rb p s rem (κ M):=by
 unfold Abs.evIter;split
 .refine Nice.brn (Nice.allR (h _ _) λx rem'=>Nice.brn ?_ (Nice.const _)) (Nice.const _);exact Nice.evOps (κ:=λM fr st _=>Abs.evC C M f rb.rest (p++[0,1,1,0,1]) ⟨s.n,fr,st,s.nx+8*rb.ops4.length,some (_::shL s.sh)⟩ (Abs.roundK C M f rb p s.sh.isSome rem' (κ M))) (λfr st _=>Nice.evC _ _ _ _ λe s'=>Nice.roundK h e s') _ _ _ _ _ _
 .exact Nice.const _
theorem Nice.evAtR{f:FuncId}{rem:Xc} :∀(c:Code)(r p:Xf)(s:St)(κ:(Node->Xe)->Ex->St->Xe),(∀e s,Nice C λM=>κ M e s)->Nice C λM=>Abs.evAtR C M f rem c r p s (κ M):=by
 intro c;induction c with
 |loop b ih=>
  intro r p s κ h;have hk:∀(e:Ex)(s':St),Nice C λM=>(match e with|.normal=>Abs.again M f p (C.kp f p) s'|e=>κ M e s'):=λe s'=>by
   cases e
   .exact Nice.again
   .exact h _ _
   .exact h _ _
  rcases r with _|⟨_|q,r⟩
  .simp only[Abs.evAtR];split
   .exact Nice.evIter h
   .exact Nice.const _
  .exact ih r _ s (λM e s'=>match e with|.normal=>Abs.again M f p (C.kp f p) s'|e=>κ M e s') hk
  .exact Nice.const _
 |seq a b iha ihb=>
  intro r p s κ h;have hk:∀(e:Ex)(s':St),Nice C λM=>(match e with|.normal=>Abs.evC C M f b (p++[1]) s' (κ M)|e=>κ M e s'):=λe s'=>by
   cases e
   .exact Nice.evC b _ s' κ h
   .exact h _ _
   .exact h _ _
  rcases r with _|⟨_|_|q,r⟩
  .exact Nice.const _
  .exact iha r _ s (λM e s'=>match e with|.normal=>Abs.evC C M f b (p++[1]) s' (κ M)|e=>κ M e s') hk
  .exact ihb r _ s κ h
  .exact Nice.const _
 |cond c x y ihx ihy=>
  intro r p s κ h;rcases r with _|⟨_|_|q,r⟩
  .exact Nice.const _
  .exact ihx r _ s κ h
  .exact ihy r _ s κ h
  .exact Nice.const _
 |block id b ih=>
  intro r p s κ h;have hk:∀(e:Ex)(s':St),Nice C λM=>(match e with|.exit id'=>if Nat.beq id' id then κ M .normal s' else κ M (.exit id') s'|e=>κ M e s'):=λe s'=>by
   cases e
   .exact h _ _
   .dsimp only;split
    .exact h _ _
    .exact h _ _
   .exact h _ _
  rcases r with _|⟨_|q,r⟩
  .exact Nice.const _
  .exact ih r _ s (λM e s'=>match e with|.exit id'=>if Nat.beq id' id then κ M .normal s' else κ M (.exit id') s'|e=>κ M e s') hk
  .exact Nice.const _
 |_=>intro r p s κ h;exact Nice.const _
theorem Nice.askAll{C':Cfg} :∀(qs:List (FuncId×Xd)),Nice C λM=>Abs.askAll C' M qs
 | []=>Nice.const _
 |(f,as)::l=>by
  simp only[Abs.askAll];split
  .exact (Nice.node _).bind λ_=>(Nice.askAll l).bind λ_=>Nice.const _
  .exact Nice.const _
theorem Nice.extRun{C':Cfg}(x:ExtV)(args:Xj)(objs:List Obj):Nice C λM=>Abs.extRun C' M x args objs:=
 (Nice.const _).bind λ_=>(Nice.askAll _).bind λ_=>Nice.const _
theorem Nice.step(x:Node):Nice C λM=>Abs.step C M x:=by
 cases x with
 |call f args=>
  simp only[Abs.step];split
  .exact Nice.const _
  .split
   .exact Nice.const _
   .split
    .split
     .exact Nice.brn (Nice.evC _ _ _ (λ_=>qB C _ _) λe s=>Nice.const _) (Nice.const _)
     .exact Nice.const _
    .exact Nice.const _
 |callv f args objs=>
  simp only[Abs.step];split
  .exact Nice.extRun _ _ _
  .split
   .split
    .exact Nice.brn (Nice.evC _ _ _ (λ_=>qB C _ _) λe s=>Nice.const _) (Nice.const _)
    .exact Nice.const _
   .exact Nice.const _
 |head f p fr objs sh=>
  simp only[Abs.step];split
  .split
   .exact Nice.evAt _ _ _ _ (λ_=>qB C _ _) λe s=>Nice.const _
   .exact Nice.const _
  .exact Nice.const _
 |rhead f p fr objs sh rem=>
  simp only[Abs.step];split
  .split
   .exact Nice.evAtR _ _ _ _ (λ_=>qB C _ _) λe s=>Nice.const _
   .exact Nice.const _
  .exact Nice.const _
theorem KS:∀n,LeM (Mn C n) (Mn C (n+1))
 |0,x,r,h=>by simp[Mn]at h
 |n+1,x,r,h=>(Nice.step x).mono _ _ _ (KS n) h
theorem jrt{n:Nat}{x:Node}{r:Out}(h:Mn C n x=some r):MM C x=some r:=by
 unfold MM;have hx:∃r n,Mn C n x=some r:=⟨r,n,h⟩;rw[dif_pos hx];obtain⟨n',h'⟩:=hx.choose_spec;have h1:=jay KS (Nat.le_max_left n n') x r h;have h2:=jay KS (Nat.le_max_right n n') x _ h';rw[h1]at h2;exact h2.symm
theorem jfr{x:Node}{r:Out}(h:MM C x=some r):∃n,Mn C n x=some r:=(Nice.node x).fin KS r h
theorem juz(n:Nat):LeM (Mn C n) (MM C):=λ_ _ h=>jrt h
theorem jdS(x:Node):MM C x=step C (MM C) x:=by
 apply Option.ext;intro r;constructor
 .intro h;obtain⟨n,hn⟩:=jfr h;cases n with
  |zero=>simp[Mn]at hn
  |succ n=>exact(Nice.step x).mono _ _ _ (juz n) hn
 .intro h;obtain⟨n,hn⟩:=(Nice.step x).fin KS r h;exact jrt (n:=n+1) hn
end
end
noncomputable section
def KV{α:Type}(d:α)(x:Nat):List (Nat×α)->α
 | []=>d
 |(y,a)::l=>bif Nat.beq x y then a else KV d x l
def jnq(p:Xf):List (Xf×Nat)->Nat
 | []=>0
 |(q,m)::l=>bif eqP p q then m else jnq p l
def jwP(tab:List (Nat×List (Xf×Nat)))(f:FuncId)(p:Xf):Nat:=jnq p (KV [] f tab)
theorem jpM{C:Cfg}{f:FuncId}{fn:Func}{c:Code}{args:Xd}(h1:C.ext f=none)(h2:C.pureF f=true)(h3:C.P.funcs[f]? = some fn)(h4:fn.body=some c)(h5:Nat.ble args.length fn.ntmps=true) :
  MM C (.call f args)=evC C (MM C) f c [] (Kz fn args) (qB C f fn):=by
 rw[jdS];simp only[step,h1,h2,h3,h4,h5,brn,if_true]
theorem jsq{C:Cfg}{f:FuncId}{x:Xd->Xe}{args:Xd}(h1:C.ext f=some x):MM C (.call f args)=x args:=by
 rw[jdS];simp only[step,h1]
theorem jnf{C:Cfg}{f:FuncId}{fn:Func}{c:Code}{args:Xj}{objs:List Obj}(h1:C.extv f=none)(h3:C.P.funcs[f]? = some fn)(h4:fn.body=some c)(h5:Nat.ble args.length fn.ntmps=true) :
  MM C (.callv f args objs)=evC C (MM C) f c [] (YO fn args objs) (qB C f fn):=by
 rw[jdS];simp only[step,h1,h3,h4,h5,brn,if_true]
theorem jpN{C:Cfg}{f:FuncId}{args:Xj}{objs:List Obj}{x:ExtV}(h1:C.extv f=some x):MM C (.callv f args objs)=extRun C (MM C) x args objs:=by
 rw[jdS];simp only[step,h1]
theorem jpO{C:Cfg}{f:FuncId}{fn:Func}{c:Code}{p:Xf}{fr:Xj}{objs:List Obj}{sh:Option Xf}(h3:C.P.funcs[f]? = some fn)(h4:fn.body=some c) :
  MM C (.head f p fr objs sh)=evAt C (MM C) f c p [] (St.of fn.ntmps fr objs sh) (qB C f fn):=by
 rw[jdS];simp only[step,h3,h4]
theorem jng{C:Cfg}{f:FuncId}{fn:Func}{c:Code}{p:Xf}{fr:Xj}{objs:List Obj}{sh:Option Xf}{rem:Xc}(h3:C.P.funcs[f]? = some fn)(h4:fn.body=some c) :
  MM C (.rhead f p fr objs sh rem)=evAtR C (MM C) f rem c p [] (St.of fn.ntmps fr objs sh) (qB C f fn):=by
 rw[jdS];simp only[step,h3,h4]
end
end Go.Proofs.YteoaojbmnibpcaaGreatDoor.Abs
