/- Ec -/
import Derived.Test.YthlhadhipnokfaaGreatDoorEb
namespace Go.Proofs.YthlhadhipnokfaaGreatDoor.Abs
open Go Go.RowKit
set_option linter.unusedSimpArgs false
set_option linter.unusedVariables false
noncomputable section
def jB4(bytes:Nat)(l c:Int):Prop:=0<=l/\l<=c/\(bytes:Int)*c<=281474976710656/\c<=9223372036854775807
noncomputable instance(b:Nat)(l c:Int):Decidable (jB4 b l c):=Classical.propDecidable _
def je6(bytes:Nat)(a b:A):Option Nat:=
 match a,b with
 |.val (.int _ l),.val (.int _ c)=>if jB4 bytes l c then some l.toNat else none
 |_,_=>none
def YD(xs:Xc)(i:Nat):Option Xd:=xs[i]?
def jS(cs:Xd)(j:Nat)(ds:Xd):Xd:=over cs j ds
def yH(n:Nat)(z:Xd):Xc:=List.replicate n z
def jR(us ys:Xc):Xc:=us++ys
def jv(xs:Xc):Nat:=xs.length
def jM(n bytes:Nat):Bool:=decide (n*bytes<=140737488355328/\n<=9223372036854775807)
def je7(k:Nat)(a:A):Option Xc:=match a with|.sl k' xs=>if k'=k then some xs else none|_=>none
def jou(id:Nat):Xn->Bool
 | []=>true
 |w::ws=> !Nat.beq w.id id && jou id ws
def jjM(C:Cfg)(e:Nat)(i:TI)(st:jA):List (Nat×V)->List (Nat×Xd)->Xm->Xn->(List (Nat×Xd)->Xm->Xn->LX)->LX
 | [],acc,r,ws,k=>k acc r ws
 |(q,v)::ps,acc,r,ws,k=>jbu i.kind.plain i.size (nilV C.D e v) λvs=>match Jt st vs with
  |some (ds,r',ws')=>if Nat.beq ds.length i.size then jjM C e i st ps (acc++[(q,ds)]) (r++r') (ws++ws') k else .fail
  |none=>.fail
def jjN(C:Cfg)(s:Nat):List (Nat×V)->Xj->(Xj->LX)->LX
 | [],cs,k=>k cs
 |(q,v)::ps,cs,k=>match zF C s q with
  |some (off,j)=>jbu j.kind.plain j.size v λds=>if Nat.beq ds.length j.size && Nat.ble (off+j.size) cs.length then jjN C s ps (over cs off ds) k else .fail
  |none=>.fail
def setRows(rows:Xc):List (Nat×Xd)->Xc
 | []=>rows
 |(q,ds)::ps=>setRows (rows.set q ds) ps
def jeM(n:Nat):List (Nat×Xd)->Bool
 | []=>true
 |(q,_)::ps=>Nat.blt q n && jeM n ps
def jw8(st:jA)(k:Nat)(v:V)(kk:Xc->Xm->LX):LX:=
 match v with
 |.nil _=>kk [] []
 |.d a=>.rows (je7 k a) λys=>kk ys []
 |.row id=>(match st id with
  |.row k' ys=>if Nat.beq k' k then kk ys [.obj id (.row k' ys)]else .fail
  |.fro k' ys=>if Nat.beq k' k then kk ys [.obj id (.fro k' ys)]else .fail
  |_=>.fail)
 |.win _ _ _ _=>(match jgs st v with
  |some p=>if Nat.beq p.k k then kk (yI p.xs p.off p.n) [.obj p.id (.row p.k p.xs)]else .fail
  |none=>.fail)
 |_=>.fail
def jMc:V->Bool
 |.win _ _ _ _=>true
 |_=>false
def jEg(st:jA)(k:Nat)(v:V)(l h:Xl):LX:=
 match jgs st v with
 |some p=>if Nat.beq p.k k then .nat (pB p.n (zj p.xs p.off) h) λh'=>.nat (pLo h' l) λl'=>.ret (.win p.id p.k (jDn p.off l') (kz h' l')) [.len p.id p.k p.xs.length] []else .fail
 |none=>.fail
def ji1:Abs.Obj->Bool
 |.dead=>true
 |_=>false
def jiy(o:Out):Nat->Nat->(Xd->LX)->LX
 |0,_,k=>k []
 |n+1,i,k=>.bnd (hD o i) λa=>jiy o n (i+1) λas=>k (a::as)
def jps(o:Out):Xf->Nat->(List Xc->LX)->LX
 | [],_,k=>k []
 |w::ks,i,k=>.rows (hR w o i) λr=>jps o ks (i+1) λrs=>k (r::rs)
def joU(b:Bool)(sg:SigA)(st:jA)(nid:Nat)(ids:Xf)(p:Nat)(as:Xd)(rs:List Xc):LX:=
 .ret (bk (ids++ups nid (p+sg.nw.length)) (sg.r.toV as)) (jeL st ids++jbE (ups nid (p+sg.nw.length))) (jc0 (ids++ups nid (p+sg.nw.length)) ((sg.objsB b as rs).map (bkO (ids++ups nid (p+sg.nw.length)))))
def jE1(sg:SigA)(st:jA)(nid:Nat)(ids:Xf)(p:Nat)(as:Xd)(rs:List Xc):LX:=
 match jyp sg.ks with
 |none=>joU true sg st nid ids p as rs
 |some i=>.cnd (as.getD i .top) (joU true sg st nid ids p as rs) (joU false sg st nid ids p as rs)
def jtW(keep:Bool)(st:jA)(nid:Nat)(g:FuncId)(sgs:Sig)(vs:Xj):LX:=
 match jb0 keep st vs with
 |some (ids,vs2,objs,p)=>(match ZH objs.length sgs with
  |some sg=>if objs.all jjj && (ups nid (p+sg.nw.length)).all (λi=>ji1 (st i))then
    .node (.callv g vs2 objs) λout=>jiy out sg.nd 0 λas=>jps out sg.ks sg.nd λrs=>
     jE1 sg st nid ids p as rs
   else .fail
  |none=>.fail)
 |none=>.fail
def Zx(a b:A):Bool:=@decide (a=b) (Classical.propDecidable _)
def jpw:Xj->Xj->LX->LX
 | [],[],k=>k
 |.d a::xs,.d b::ys,k=>.chk (Zx a b) (jpw xs ys k)
 |_,_,_=>.fail
def jCn(st:jA):Xn->LX->LX
 | [],k=>k
 |.obj i (.box ys)::ws,k=>(match st i with
  |.box xs=>jpw xs ys (jCn st ws k)
  |_=>.fail)
 |_::_,_=>.fail
def jjk(keep:Bool)(st:jA)(nid:Nat)(g:FuncId)(sgs:Sig)(vs:Xj):LX:=
 match jb0 keep st vs with
 |some (ids,vs2,objs,p)=>(match ZH objs.length sgs with
  |some sg=>if objs.all jjj && (ups nid (p+sg.nw.length)).all (λi=>ji1 (st i))then
    .node (.callv g vs2 objs) λout=>jiy out sg.nd 0 λas=>jps out sg.ks sg.nd λrs=>
     jCn st (jc0 (ids++ups nid (p+sg.nw.length)) ((sg.objs as rs).map (bkO (ids++ups nid (p+sg.nw.length)))))
      (.ret (bk (ids++ups nid (p+sg.nw.length)) (sg.r.toV as)) (jeL st ids++jbE (ups nid (p+sg.nw.length))) [])
   else .fail
  |none=>.fail)
 |none=>.fail
def jFL:Xd->LX->LX
 | [],k=>k
 |a::as,k=>.chk (qM a) (jFL as k)
def jpv:Xf->List Xc->LX->LX
 |kk::ks,r::rs,k=>if Nat.ble 64 kk then jpv ks rs k else .chk (KD r) (jpv ks rs k)
 |_,_,k=>k
def jtC(th:Bool)(st:jA)(nid:Nat)(g:FuncId)(sgs:Sig)(vs:Xj):LX:=
 match J9 st 60 vs,ZH 0 sgs with
 |some (as0,rds),some sg=>if(ups nid sg.nw.length).all (λi=>ji1 (st i)) && sg.ks.all (λk=>Nat.blt k 128)then
   .node (.callv g (as0.map V.d) []) λout=>jiy out sg.nd 0 λas=>jps out sg.ks sg.nd λrs=>
    jFL as (jpv sg.ks rs <|.ret (bk (ups nid sg.nw.length) (sg.r.toV as)) (rds++jbE (ups nid sg.nw.length)) (jc0 (ups nid sg.nw.length) ((sg.objs as rs).map λo=>thO th (bkO (ups nid sg.nw.length) o))))
  else .fail
 |_,_=>.fail
def jaU(cs:Xd)(j n:Nat):Bool:=((cs.drop j).take n).all y9
def jeA:Xj->LX->LX
 | [],k=>k
 |.d a::vs,k=>.chk (y9 a) (jeA vs k)
 |_::vs,k=>jeA vs k
def jkm(st:jA)(id ii k j n:Nat)(f:Bool)(xs:Xc)(vs:Xj):LX:=
 match f with
 |false=>(match jeS st vs with
  |some (as,is,rs)=>if jf7 is && (!jcS id is && Nat.beq vs.length n)then jeA vs (.cells (YD xs ii) λcs=>.ret (.d (.val undef)) (.telem id false ii k cs::rs) (jaO is++[.elem id ii (jS cs j as)]))else .fail
  |none=>.fail)
 |true=>(match jbA vs with
  |some ds=>if Nat.beq ds.length n then jeA (ds.map V.d) (.cells (YD xs ii) λcs=>.chk (jaU cs j n) (.ret (.d (.val undef)) [.telem id true ii k cs] [.elem id ii (jS cs j ds)]))else .fail
  |none=>.fail)
def jy1:TK->Bool
 |.slice _=>true
 |_=>false
def jBK(_D:Nat->Option TI)(_st:jA)(_nid:Nat)(_i:TI)(_v:V):LX:= .fail
def joZ(D:Nat->Option TI)(nid:Nat)(st:jA)(i:TI)(v:V):LX:=
 if i.kind.plain then(match v with
  |.rptr id ii k j=>(match st id with
   |.tre f k' xs=>if Nat.beq k' k then(.cells (YD xs ii) λcs=>if jy1 i.kind && f then .chk (jc9 (jb cs j)) (.ret (.sub id ii k j) [.telem id true ii k cs] [])else .chk (y9 (jb cs j)) (.ret (.d (jb cs j)) [.telem id f ii k cs] []))else .fail
   |_=>.fail)
  |_=>.fail)else jBK D st nid i v
def jnK:Xj->Option Xj
 | []=>some []
 |.d a::vs=>(jnK vs).map (.d a::·)
 |_=>none
def jgo:Xj->Option (Xj×(Nat×Nat×Nat×Nat))
 | []=>none
 |.d a::vs=>(jgo vs).map λp=>(.d a::p.1,p.2)
 |.sub id i k j::vs=>(jnK vs).map λvs'=>(.row 0::vs',(id,i,k,j))
 |_=>none
def joW(st:jA)(g:FuncId)(sgs:Sig)(p:Xj×(Nat×Nat×Nat×Nat)):LX:=
 match p with
 |(vs2,id,i,k,j)=>(match ZH 1 sgs,st id with
  |some sg,.tre true k' xs=>(match sg.ws,sg.nw,sg.ks with
   | [.io 0],[],[kk]=>if Nat.beq k' k && (Nat.beq (kk-64+64) kk && Nat.blt kk 128)then
     .cells (YD xs i) λcs=>.rows (je7 (kk-64) (jb cs j)) λys=>.node (.callv g vs2 [.tre true (kk-64) ys]) λout=>jiy out sg.nd 0 λas=>.rows (hR kk out sg.nd) λr=>.ret (bk [] (sg.r.toV as)) [.telem id true i k cs] [.elem id i (jS cs j [.sl (kk-64) r])]
    else .fail
   |_,_,_=>.fail)
  |_,_=>.fail)
def jkf:Xj->Option (Xj×Nat)
 | []=>none
 |.d a::vs=>(jkf vs).map λp=>(.d a::p.1,p.2)
 |.row id::vs=>(jnK vs).map λvs'=>(.row 0::vs',id)
 |_=>none
def jBM(xs:Xc):Bool:=xs.flatten.all y9
def jhG(st:jA)(sgs:Sig)(vs:Xj):Option (Xj×Nat×Nat×Xc):=
 match jkf vs with
 |some (vs2,id)=>(match st id,ZH 1 sgs with
  |.row k xs,some sg=>(match sg.ks with
   | [kk]=>if Nat.beq (k+64) kk then some (vs2,id,k,xs)else none
   |_=>none)
  |_,_=>none)
 |none=>none
def jiQ(g:FuncId)(sgs:Sig)(q:Xj×Nat×Nat×Xc):LX:=
 match q with
 |(vs2,id,k,xs)=>(match ZH 1 sgs with
  |some sg=>(match sg.ws,sg.nw,sg.ks with
   | [.io 0],[],[kk]=>if Nat.beq (k+64) kk && Nat.blt kk 128 then
     .chk (jBM xs) (.node (.callv g vs2 [.tre true k xs]) λout=>jiy out sg.nd 0 λas=>.rows (hR kk out sg.nd) λr=>.ret (bk [] (sg.r.toV as)) [.obj id (.row k xs)] [.obj id (.row k r)])
    else .fail
   |_,_,_=>.fail)
  |none=>.fail)
def jj9(C:Cfg)(st:jA)(g:FuncId)(vs:Xj):LX:=
 match jb8 st vs with
 |some (as,p)=>if C.pureF g then .node (.call g as) λout=>.bnd (fin false out) λx=>.ret (.d x) (ZE p) (ZF p)else .fail
 |none=>match vs with
 | [v]=>(match jrE st v with
  |some (a,r,ws)=>if C.pureF g then .node (.call g [a]) λout=>.bnd (fin false out) λx=>.ret (.d x) r ws else .fail
  |none=>.fail)
 |_=>.fail
def jsZ(C:Cfg)(t:Nat):Bool:=match C.D t with|some i=>(match i.kind with|.int _=>true|_=>false)|none=>false
def jAX(a:A):Option Xc:=match a with|.sl _ xs=>some xs|_=>none
def jEQ(st:jA)(v:V)(neg:Bool):LX:=
 match v with
 |.d a=>.rows (jAX a) λys=>.ret (.ub (zX ys) neg) [] []
 |.nil _=>.ret (.ub 0 neg) [] []
 |.row id=>(match st id with
  |.row k xs=>.ret (.ub (zX xs) neg) [.obj id (.row k xs)] []
  |.fro k xs=>.ret (.ub (zX xs) neg) [.obj id (.fro k xs)] []
  |_=>.fail)
 |_=>.fail
def evL(C:Cfg)(o:Oper)(ρ:Operand->V)(st:jA)(nid:Nat):LX:=
 match o.op with
 |.box t x=>(match C.D t with
  |some i=>if i.kind.known then jbu i.kind.plain i.size (nilV C.D t (ρ x)) λds=>.ret (.ptr nid 0) [.fresh nid] [.obj nid (.box ds)]else .fail
  |none=>.fail)
 |.alloc t=>(match C.D t with
  |some i=>Yj (zeroV C t i) (.ret (.ptr nid 0) [.fresh nid] [.obj nid (.box (zeroV C t i))])
  |none=>.fail)
 |.makeMap _ none=>.ret (.row nid) [.fresh nid] [.obj nid (.map [])]
 |.mapUpdate t x k y=>(match C.D t,dat (ρ k)with
  |some ti,some ka=>(match ti.kind with
   |.map kt et=>(match C.D kt with
    |some ki=>(match jDc ki.kind,ρ x,jpH (nilV C.D et (ρ y))with
     |some ks,.row id,some va=>(match st id with
      |.map xs=>.rows (jkT ks xs ka va) λys=>.ret (.d (.val undef)) [.obj id (.map xs)] [.obj id (.map ys)]
      |_=>.fail)
     |_,_,_=>.fail)
    |none=>.fail)
   |_=>.fail)
  |_,_=>.fail)
 |.store t a x=>(match C.D t with
  |some i=>if i.kind.known then(match ρ a with
   |.ptr id off=>(match st id with
    |.box cs=>jbu i.kind.plain i.size (nilV C.D t (ρ x)) λds=>if Nat.beq ds.length i.size && Nat.ble (off+i.size) cs.length then .ret (.d (.val undef)) [.blen id cs.length] (jcs id off ds)else .fail
    |_=>.fail)
   |.rptr id ii k j=>(match st id with
    |.row k' xs=>if Nat.beq k' k && Nat.ble (j+i.size) k then jbu i.kind.plain i.size (nilV C.D t (ρ x)) λvs=>(match Jt st vs with
      |some (ds,r,ws)=>if Nat.beq ds.length i.size && jou id ws then .cells (YD xs ii) λcs=>.ret (.d (.val undef)) (.elem id ii k cs::r) (ws++[.elem id ii (jS cs j ds)])else .fail
      |none=>.fail)
     else .fail
    |.tre f k' xs=>if Nat.beq k' k && Nat.ble (j+i.size) k then jbu i.kind.plain i.size (nilV C.D t (ρ x)) λvs=>jkm st id ii k j i.size f xs vs else .fail
    |_=>.fail)
   |_=>.fail)else .fail
  |none=>.fail)
 |.load t x=>(match C.D t with
  |some i=>joZ C.D nid st i (ρ x)
  |none=>.fail)
 |.binOp op t x y _=>if jn8 y && jF3 op then(match C.D t with
  |some ti=>(match ti.kind with
   |.slice _=>jEQ st (ρ x) (jp8 op)
   |_=>.fail)
  |none=>.fail)else .fail
 |.makeSlice t x y=>(match C.D t with
  |some ti=>(match ti.kind with
   |.slice e=>(match C.D e,dat (ρ x),dat (ρ y)with
    |some i,some a,some b=>if C.tr then(match jxo (zeroV C e i)with
     |some z=>.nat (je6 i.bytes a b) λl=>.chk (z.all jU) (.ret (.row nid) [.fresh nid] [.obj nid (.tre false i.size (yH l z))])
     |none=>.fail)else(match jbA (zeroV C e i)with
     |some z=>.nat (je6 i.bytes a b) λl=>.chk (z.all jU) (.ret (.row nid) [.fresh nid] [.obj nid (.row i.size (yH l z))])
     |none=>.fail)
    |_,_,_=>.fail)
   |_=>.fail)
  |none=>.fail)
 |.buildSlice t n ps=>(match C.D t with
  |some ti=>(match ti.kind with
   |.slice e=>(match C.D e with
    |some i=>if Nat.beq n 0 then(if ps.size=0 then .ret (.nil i.size) [] []else .fail)else
     if i.kind.known && Nat.blt 0 i.size && Nat.ble (n*i.size) 16777216 then(match jbA (zeroV C e i)with
     |some z=>.chk (z.all jU) (jjM C e i st (ps.toList.map λp=>(p.1,ρ p.2)) [] [] [] λparts r ws=>
       if jeM n parts then .ret (.row nid) (.fresh nid::r) (ws++[.obj nid (.row i.size (setRows (List.replicate n z) parts))])else .fail)
     |none=>.fail)else .fail
    |none=>.fail)
   |_=>.fail)
  |none=>.fail)
 |.indexAddr t x ix=>(match C.D t with
  |some ti=>(match ti.kind with
   |.slice e=>(match C.D e,ρ x,dat (ρ ix)with
    |some i,.row id,some b=>(match st id with
     |.row k xs=>if Nat.beq k i.size then .nat (Zt (jv xs) b) λn=>.ret (.rptr id n i.size 0) [.len id i.size xs.length] []else .fail
     |.tre f k xs=>if Nat.beq k i.size then .nat (Zt (jv xs) b) λn=>.ret (.rptr id n i.size 0) [.tlen id f i.size xs.length] []else .fail
     |_=>.fail)
    |some i,.win id k off n,some b=>(match st id with
     |.row k' xs=>if Nat.beq k' i.size && Nat.beq k i.size then .nat (Zt n b) λj=>.ret (.rptr id (jDn off j) i.size 0) [.len id i.size xs.length] []else .fail
     |_=>.fail)
    |_,_,_=>.fail)
   |_=>.fail)
  |none=>.fail)
 |.slice t x lo hi none=>(match C.D t with
  |some ti=>(match ti.kind with
   |.slice e=>(match C.D e,ρ x,(match lo with|none=>some none|some y=>(dat (ρ y)).map some),(match hi with|none=>some none|some y=>(dat (ρ y)).map some)with
    |some i,.win id k off n,some l,some h=>jEg st i.size (.win id k off n) l h
    |some i,.nil _,some l,some h=>.nat (pB 0 0 h) λh'=>.nat (pLo h' l) λ_=>.ret (.nil i.size) [] []
    |some i,.row id,some l,some h=>if C.win then jEg st i.size (.row id) l h else(match st id with
     |.row k xs=>if Nat.beq k i.size then .bnd (yb i.size (.sl i.size xs) l h) λr=>.ret (.d r) [.obj id (.row i.size xs)] [.obj id (.fro i.size xs)]else .fail
     |_=>.fail)
    |_,_,_,_=>.fail)
   |_=>.fail)
  |none=>.fail)
 |.slice t x (some l) (some h) (some m)=>if !ji0 l h m then(match C.D t with
  |some ti=>(match ti.kind with
   |.slice e=>(match C.D e,jgs st (ρ x),dat (ρ l),dat (ρ h),dat (ρ m)with
    |some i,some p,some l',some h',some m'=>if Nat.beq p.k i.size then .nat (pB 0 (zj p.xs p.off) (some m')) λmm=>.nat (pB 0 mm (some h')) λhh=>.nat (pB 0 hh (some l')) λ_=>.ret .top [.len p.id p.k p.xs.length] []else .fail
    |_,_,_,_,_=>.fail)
   |_=>.fail)
  |none=>.fail)else(match C.D t,ρ l,ρ h,ρ m with
  |some ti,.d (.val (.int _ 0)),.d (.val (.int _ 0)),.d (.val (.int _ 0))=>(match ti.kind with
   |.slice e=>(match C.D e,ρ x with
    |some i,.d a=>.rows (je7 i.size a) λ_=>.ret (.nil i.size) [] []
    |_,_=>.fail)
   |_=>.fail)
  |_,_,_,_=>.fail)
 |.build t ps=>(match C.D t with
  |some i=>(match i.kind with
   |.struct fs=>if Y5 C fs then jjN C t (K4 C fs (ps.toList.map λp=>(p.1,ρ p.2))) (zeroV C t i) λcs=>.ret (.agg cs) [] []else .fail
   |_=>.fail)
  |none=>.fail)
 |.call c=>(match c.callee with
  |.builtin .append=>(match c.args.toList,c.argTypes.toList with
   | [s,x],[t,t']=>if jsZ C t' then(match C.D t with
    |some ti=>(match ti.kind with
     |.slice e=>(match C.D e with
      |some i=>(match ρ s,dat (ρ x),jbA (zeroV C e i)with
       |.nil _,some a,some z=>.nat (je6 i.bytes a a) λl=>.chk (jM l i.bytes) (.chk (z.all jU) (.ret (.row nid) [.fresh nid] [.obj nid (.row i.size (yH l z))]))
       |_,_,_=>.fail)
      |none=>.fail)
     |_=>.fail)
    |none=>.fail)else if Nat.beq t t' then(match C.D t with
    |some ti=>(match ti.kind with
     |.slice e=>(match C.D e with
      |some i=>(match ρ s with
       |.nil _=>jw8 st i.size (ρ x) λys r=>.chk (jM (jv ys) i.bytes) (.ret (.row nid) (.fresh nid::r) [.obj nid (.row i.size ys)])
       |.row id=>(match st id with
        |.row k us=>if Nat.beq k i.size && !Nat.beq nid id then jw8 st i.size (ρ x) λys r=>.chk (jM (jv us+jv ys) i.bytes) (.ret (.row nid) (.fresh nid:: .obj id (.row i.size us)::r) [.obj id .gone,.obj nid (.row i.size (jR us ys))])else .fail
        |_=>.fail)
       |.win id k off n=>(match jgs st (.win id k off n)with
        |some p=>if Nat.beq p.k i.size then jw8 st i.size (ρ x) λys r=>.chk (jq2 p.off p.n ys p.xs) (.ret (.win p.id p.k p.off (jDn p.n (zX ys))) (.obj p.id (.row p.k p.xs)::r) [.obj p.id (.row p.k (yt p.xs (jDn p.off p.n) ys))])else .fail
        |none=>.fail)
       |_=>.fail)
      |none=>.fail)
     |_=>.fail)
    |none=>.fail)else .fail
   |_,_=>.fail)
  |.builtin .cap=>(match c.args.toList,c.argTypes.toList with
   | [x],[t]=>(match C.D t with
    |some ti=>(match ti.kind with
     |.slice _=>(match ρ x with
      |.nil _=>.ret (.d (vi 0)) [] []
      |_=>.fail)
     |_=>.fail)
    |none=>.fail)
   |_,_=>.fail)
  |.builtin .copy=>(match c.args.toList,c.argTypes.toList with
   | [s,x],[t,_]=>(match C.D t with
    |some ti=>(match ti.kind with
     |.slice e=>(match C.D e,jgs st (ρ s)with
      |some i,some p=>if Nat.beq p.k i.size then jw8 st i.size (ρ x) λys r=>.ret (.d (jwQ ys p.n)) (.obj p.id (.row p.k p.xs)::r) [.obj p.id (.row p.k (yt p.xs p.off (jlV ys p.n)))]else .fail
      |_,_=>.fail)
     |_=>.fail)
    |none=>.fail)
   |_,_=>.fail)
  |.builtin .clear=>(match c.args.toList,c.argTypes.toList with
   | [x],[t]=>(match C.D t with
    |some ti=>(match ti.kind with
     |.slice e=>(match C.D e,jgs st (ρ x)with
      |some i,some p=>if Nat.beq p.k i.size then(match jbA (zeroV C e i)with
       |some z=>.chk (z.all jU) (.ret (.tup []) [.obj p.id (.row p.k p.xs)] [.obj p.id (.row p.k (yt p.xs p.off (yH p.n z)))])
       |none=>.fail)else .fail
      |_,_=>.fail)
     |_=>.fail)
    |none=>.fail)
   |_,_=>.fail)
  |.value f=>(match ρ f with
   |.fn g caps=>(match C.sig g with
    |some sgs=>if C.sl g && !C.stf g then jj9 C st g (ZY C.D c.argTypes.toList (c.args.toList.map ρ)++caps)else if C.rd g then jtC (C.th g) st nid g sgs (ZY C.D c.argTypes.toList (c.args.toList.map ρ)++caps)else match jgo (ZY C.D c.argTypes.toList (c.args.toList.map ρ)++caps)with|some p=>joW st g sgs p|none=>match jhG st sgs (ZY C.D c.argTypes.toList (c.args.toList.map ρ)++caps)with|some q=>jiQ g sgs q|none=>if C.th g then jjk (C.kn g) st nid g sgs (ZY C.D c.argTypes.toList (c.args.toList.map ρ)++caps)else jtW (C.kn g) st nid g sgs (ZY C.D c.argTypes.toList (c.args.toList.map ρ)++caps)
    |none=>.fail)
   |_=>.fail)
  |_=>.fail)
 |_=>.fail
section
variable{P:Program}{X:Ctx}{o:Oper}{ρ:Operand->V}{C:Cfg}{M:Node->Xe}{st:jA}
theorem jll{w:World}{O:Nat->Prop}{k:Nat} :∀(parts:List (Nat×Xd))(vals:List (Nat×Value))(rows:Xc)(cells:Array Value),parts.map Prod.fst=vals.map Prod.fst->
  (∀(n:Nat)(p:Nat×Xd)(v:Nat×Value),parts[n]? = some p->vals[n]? = some v->p.2.length=k/\p.1<rows.length/\jz w O p.2 v.2.cells.toList/\jx v.2.cells.toList)->(∀x∈rows,x.length=k)->jz w O rows.flatten cells.toList->jx cells.toList->
  ∃cells',Instr.fill (λq=>some (q*k,k)) cells vals=some cells'/\jz w O (setRows rows parts).flatten cells'.toList/\jx cells'.toList/\(∀x∈setRows rows parts,x.length=k)/\(setRows rows parts).length=rows.length
 | [],vals,rows,cells,h1,_,h3,h4,h5=>by
  have hv:vals=[]:=by simpa using h1.symm
  subst hv;exact⟨cells,rfl,h4,h5,h3,rfl⟩
 |(q,ds)::parts,[],rows,cells,h1,_,_,_,_=>by simp at h1
 |(q,ds)::parts,(q',u)::vals,rows,cells,h1,h2,h3,h4,h5=>by
  simp only[kK,KH]at h1;obtain⟨rfl,h1⟩:=h1;obtain⟨a1,a2,a3,a4⟩:=h2 0 (q,ds) (q,u) rfl rfl;simp only at a1 a2 a3 a4;have l1:=jZ a3;have l2:=jZ h4;rw[qb h3]at l2;simp only[Zq]at l1 l2;have hfit:q*k+k<=rows.length*k:=by
   have:(q+1)*k<=rows.length*k:=ZQ k a2;rwa[yy,jsd]at this
  simp only[Instr.fill];rw[jh (by simp;omega)];have hz:(u.cells.zipIdx.foldl (λ(cs:Array Value)(p:Value×Nat)=>cs.setIfInBounds (q*k+p.2) p.1) cells).toList=over cells.toList (q*k) u.cells.toList:=by
   have:=Ku (off:=q*k) u.cells.toList 0 cells (by simp;omega)
   rw[<-jBS,jBT];simpa[over]using this
  have hx:∃x,rows[q]? = some x:=⟨_,j7 a2⟩;obtain⟨x,hx⟩:=hx;have hxl:=h3 x (Jx hx);have hov:over x 0 ds=ds:=by
   unfold over;rw[List.drop_of_length_le (by omega)];simp
  have hfl:(rows.set q ds).flatten=over rows.flatten (q*k) ds:=by
   have:=yO rows q 0 x ds h3 hx (by omega);rw[hov]at this;simpa using this
  obtain⟨cells',g1,g2,g3,g4,g5⟩:=jll parts vals (rows.set q ds) (u.cells.zipIdx.foldl (λ(cs:Array Value)(p:Value×Nat)=>cs.setIfInBounds (q*k+p.2) p.1) cells) h1
   (λn p v hp hv=>by
    have:=h2 (n+1) p v (by simpa using hp) (by simpa using hv);simpa using this)
   (λy hy=>by rcases jky hy with hy|rfl;exact h3 y hy;exact a1) (by rw[hz,hfl];exact jcE h4 a3) (by rw[hz];exact jx.over h5 a4 _)
  exact⟨cells',g1,g2,g3,g4,by simpa[setRows]using g5⟩
def jnG(ps:List (Nat×V))(st:jA)(i:TI)(acc:List (Nat×Xd))(r:Xm)(ws:Xn):Prop:=
 ps.map Prod.fst=acc.map Prod.fst/\(∀x∈r,yh st x)/\(∀(n:Nat) p q,ps[n]? = some p->acc[n]? = some q-> ∃vs r' ws',jcp p.2 vs/\jk5 vs/\Jt st vs=some (q.2,r',ws')/\(∀x∈r',x∈r)/\(∀x∈ws',x∈ws)/\q.2.length=i.size)/\
  (∀st':jA,(∀x∈r,yh st' x)->jeo st' ws)
theorem jcp.nilV{t:Nat}{v:V}{ds:Xj}(h:jcp (nilV C.D t v) ds):jcp v ds:=λw O m u hu=>h w O m u (qD hu)
theorem jlS{e:Nat}{i:TI}{k:List (Nat×Xd)->Xm->Xn->LX} :∀(ps:List (Nat×V))(done:List (Nat×V))(acc:List (Nat×Xd))(r:Xm)(ws:Xn),jnG done st i acc r ws->
  (∀acc r ws,jnG (done++ps) st i acc r ws->yc P X M o ρ st (k acc r ws))->yc P X M o ρ st (jjM C e i st ps acc r ws k)
 | [],done,acc,r,ws,hd,hk=>by simpa[jjM]using hk acc r ws (by simpa using hd)
 |(q,v)::ps,done,acc,r,ws,hd,hk=>by
  simp only[jjM];refine Ya λvs h1 h2 h3=>?_;cases hs:Jt st vs with
  |none=>trivial
  |some x=>
   obtain⟨ds,r',ws'⟩:=x;simp only;split
   .rename_i hl;refine jlS ps (done++[(q,v)]) _ _ _ ?_ (by simpa using hk);obtain⟨d1,d2,d3,d4⟩:=hd;have hlen:done.length=acc.length:=by simpa using congrArg List.length d1
    refine⟨by simp[d1],λx hx=>?_,λn p qq hp hq=>?_,λst' hg=>?_⟩
    .rcases kW.1 hx with hx|hx
     .exact d2 x hx
     .exact KZ hs x hx
    .by_cases hn:n<done.length
     .rw [Kl hn]at hp;rw[Kl (by omega)]at hq;obtain⟨vs',r2,ws2,e1,e2,e3,e4,e5,e6⟩:=d3 n p qq hp hq;exact⟨vs',r2,ws2,e1,e2,e3,λx hx=>by simp[e4 x hx],λx hx=>by simp[e5 x hx],e6⟩
     .rw [JX (by omega)]at hp hq;have hn0:n-done.length=0:=by
       have:=(Zn.1 hp).1;simp at this;omega
      rw[hn0]at hp;rw[show n-acc.length=0 by omega]at hq;simp only[List.getElem?_cons_zero,zI]at hp hq;subst hp hq;exact⟨vs,r',ws',h1.nilV,h2,hs,λx hx=>by simp[hx],λx hx=>by simp[hx],kh hl⟩
    .intro y hy;rcases kW.1 hy with hy|hy
     .exact d4 st' (λx hx=>hg x (by simp[hx])) y hy
     .exact J8 hs (λx hx=>hg x (by simp[hx])) y hy
   .trivial
theorem jlT(hD:JI C.P C.D){s:Nat}{k:Xj->LX} :∀(ps:List (Nat×V))(cs:Xj),(∀cs',(∀(w:World)(O:Nat->Prop)(m:zf)(vals:List (Nat×Value))(cells:Array Value),jp w O m cs cells.toList->ps.map Prod.fst=vals.map Prod.fst->jp w O m (ps.map Prod.snd) (vals.map Prod.snd)->
   ∃cells',Instr.fill (λq=>(zF C s q).map λx=>(x.1,x.2.size)) cells vals=some cells'/\jp w O m cs' cells'.toList)->yc P X M o ρ st (k cs'))->yc P X M o ρ st (jjN C s ps cs k)
 | [],cs,hk=>by
  simp only[jjN];refine hk cs λw O m vals cells h1 h2 _=>?_;have hv:vals=[]:=by simpa using h2.symm
  subst hv;exact⟨cells,rfl,h1⟩
 |(q,v)::ps,cs,hk=>by
  simp only[jjN];cases hf:zF C s q with
  |none=>trivial
  |some x=>
   obtain⟨off,j⟩:=x;simp only;refine Ya λds h1 h2 h3=>?_;split
   .rename_i hl;simp only[jI,jkv]at hl;have hl1:=kh hl.1;refine jlT hD ps (over cs off ds) λcs' hcs=>hk cs' λw O m vals cells g1 g2 g3=>?_;cases vals with
    |nil=>simp at g2
    |cons y vals=>
     obtain⟨q',u⟩:=y;simp only[kK,KH]at g2;obtain⟨rfl,g2⟩:=g2;simp only[kK,jp,KH]at g3;obtain⟨u',rr,⟨rfl,rfl⟩,g4,g5⟩:=g3;obtain⟨k1,k2⟩:=h1 w O m u g4;have l1:=zG k1;have l2:=zG g1;simp only[Zq]at l1 l2;simp only[Instr.fill,hf,qR];rw[jh (by simp;omega)];have hz:(u.cells.zipIdx.foldl (λ(cs:Array Value)(p:Value×Nat)=>cs.setIfInBounds (off+p.2) p.1) cells).toList=over cells.toList off u.cells.toList:=by
      have:=Ku (off:=off) u.cells.toList 0 cells (by simp;omega)
      rw[<-jBS,jBT];simpa[over]using this
     refine hcs w O m vals (u.cells.zipIdx.foldl (λ(cs:Array Value)(p:Value×Nat)=>cs.setIfInBounds (off+p.2) p.1) cells) ?_ g2 g5;rw[hz];exact jjZ g1 k1
   .trivial
theorem jeZ{w:World}{O:Nat->Prop} :∀{as:Xd}{us:Xh},jz w O as us->as.all jU=true->jx us
 | [],us,h,_=>by simp only[jz]at h;subst h;intro v hv;cases hv
 |a::as,us,h,hk=>by
  simp only[jz,zR,jI]at h hk;obtain⟨v,t,rfl,e1,e2⟩:=h;intro y hy;rcases jK.1 hy with rfl|hy
  .exact jaF e1 hk.1
  .exact jeZ e2 hk.2 y hy
theorem run_buildSlice(hD:JI P C.D){t:TypeId}{n:Nat}{ps:Array (Nat×Operand)}{ev:Operand->Value}(ho:o.op = .buildSlice t n ps){e:Nat}(ht:P.underlying t=some (.slice e)){i:TI}(hi:C.D e=some i)(hpos:0<i.size)(hn:0<n)(hb:n*i.size<=16777216)
  {cells':Array Value} (hf:Instr.fill (λq=>some (q*i.size,i.size)) ((Array.range (n*i.size)).map (λq=>i.zero.cells[q % i.zero.cells.size]!)) (ps.toList.map λp=>(p.1,ev p.2))=some cells') (w:World) :
  (execOp ev o).run P w = .ok (.value (.slice (some ⟨w.heap.size,0,none⟩) n n)) (w.alloc (.cells cells' e)):=by
 have hok:=hD e i hi;have hnb:¬(n*i.size > 2 ^ 24):=by omega
 have h0:¬n*i.size=0:=by
  have:=Nat.mul_pos hn hpos;omega
 have hparts:(ps.map λ(p:Nat×Operand)=>(p.1,ev p.2)).toList=ps.toList.map λp=>(p.1,ev p.2):=by simp
 have hrun:(Instr.buildSlice t n (ps.map λ(p:Nat×Operand)=>(p.1,ev p.2))).run P w = .ok (.slice (some ⟨w.heap.size,0,none⟩) n n) (w.alloc (.cells cells' e)):=by
  simp only[Instr.buildSlice,zQ,zo ht,zE,hok.run_sizeOf w,jh hnb,jh h0,hok.run_zero w,hparts,qJ,hf,newRow,run_newObj_alloc]
 simp only[execOp,ho];show((do pure (.value (<-Instr.buildSlice t n (ps.map λ(p:Nat×Operand)=>(p.1,ev p.2)))):Sem Next)).run P w=_;simp only[zQ,hrun,zE,qJ]
theorem jhh(hD:JI P C.D){t:TypeId}{ps:Array (Nat×Operand)}{ev:Operand->Value}(ho:o.op = .buildSlice t 0 ps)(hps:ps = #[]){e:Nat}(ht:P.underlying t=some (.slice e)){i:TI}(hi:C.D e=some i)(w:World) :
  (execOp ev o).run P w = .ok (.value (.slice (some ⟨w.heap.size,0,none⟩) 0 0)) (w.alloc (.cells #[] e)):=by
 subst hps;have hok:=hD e i hi;have hrun:(Instr.buildSlice t 0 #[]).run P w = .ok (.slice (some ⟨w.heap.size,0,none⟩) 0 0) (w.alloc (.cells #[] e)):=by
  simp[Instr.buildSlice,zo ht,hok.run_sizeOf w,Instr.fill,newRow,Array.range_zero']
 simp only[execOp,ho];have e0:(#[]:Array (Nat×Operand)).map (λx=>(x.1,ev x.2)) = #[]:=by simp
 rw[e0];simp only[zQ,hrun,zE,qJ]
theorem jmF{w:World}{O:Nat->Prop}{i:TI}{z:Xd}(hz:jz w O z i.zero.cells.toList)(hsz:i.zero.cells.size=i.size)(hpos:0<i.size):∀n,jz w O (List.replicate n z).flatten ((Array.range (n*i.size)).map (λq=>i.zero.cells[q % i.zero.cells.size]!)).toList:=by
 intro n;have key:((Array.range (n*i.size)).map (λq=>i.zero.cells[q % i.zero.cells.size]!)).toList=(List.replicate n i.zero.cells.toList).flatten:=by
  apply Qk;intro q;simp only[jkw,jsg,qu];by_cases hq:q<n*i.size
  .rw [jfy hq];have hzl:i.zero.cells.toList.length=i.size:=by simpa using hsz
   have h1:(List.replicate n i.zero.cells.toList).flatten[q]? = i.zero.cells.toList[q % i.size]? :=by
    clear hz;induction n generalizing q with
    |zero=>simp at hq
    |succ n ih=>
     rw[ZR,qQ];by_cases hq2:q<i.size
     .rw [Kl (by omega),Nat.mod_eq_of_lt hq2]
     .have hq3:q-i.size<n*i.size:=by
       rw[yy,jsd]at hq;omega
      have hm2:=Nat.mod_eq_sub_mod (a:=q) (b:=i.size) (by omega);rw[JX (by omega),hzl,ih (q-i.size) hq3,<-hm2]
   have hm:q % i.size<i.zero.cells.size:=by rw[hsz];exact Nat.mod_lt _ hpos
   rw[h1,hsz];simp only[qR];rw[jaX i.zero.cells (q % i.size) hm];simp[jaW,jaY hm]
  .rw [qF (by simp;omega),qF (by simp[jse,hsz];omega)]
   rfl
 rw[key];induction n with
 |zero=>simp[jz]
 |succ n ih=>simp only[ZR,qQ];exact zl hz (ih (by
   apply Qk;intro q;simp only[jkw,jsg,qu];by_cases hq:q<n*i.size
   .have:=congrArg (λl=>l[q]?) key;simp only[jkw,jsg,qu]at this;rw[jfy (by rw[yy];omega)]at this;rw[jfy hq,this];have e:(List.replicate (n+1) i.zero.cells.toList).flatten=(List.replicate n i.zero.cells.toList).flatten++i.zero.cells.toList:=by
     rw[List.replicate_succ',List.flatten_append];simp
    rw[e,Kl (by simp[jse,hsz];omega)]
   .rw [qF (by simp;omega),qF (by simp[jse,hsz];omega)]
    rfl))
end
end
noncomputable section
section
variable{X:Ctx}{o:Oper}{ρ:Operand->V}{C:Cfg}{M:Node->Xe}{st:jA}
theorem jhS{P:Program}{k:Nat}{v:V}{kk:Xc->Xm->LX}
  (h:∀ys r,(∀x∈r,yh st x)->(∀(w:World)(O0:Nat->Prop)(m:zf)(st':jA)(u:Value),Sto X w O0 m st'->(∀x∈r,yh st' x)->relV w (Ow O0 m st') m v u->jc3 w (Ow O0 m st') k ys u)->yc P X M o ρ st (kk ys r)) :
  yc P X M o ρ st (jw8 st k v kk):=by
 unfold jw8;split
 .refine h [] [] (by simp) λw O0 m st' u hs _ hr=>?_;simp only[relV]at hr;exact jDW hr
 .rename_i a;intro ys hys;unfold je7 at hys;split at hys
  .split at hys
   .rename_i hk;subst hk;cases hys;refine h _ [] (by simp) λw O0 m st' u hs _ hr=>?_;simp only[relV]at hr;exact jrM hr
   .cases hys
  .cases hys
 .rename_i id;split
  .rename_i k' ys hst;split
   .rename_i hk;have hk:=kh hk;subst hk;refine h ys _ (by simpa[yh]using hst) λw O0 m st' u hs hg hr=>?_;obtain⟨hd,q1,q2,q3⟩:=jj4 hs (hg _ (zx.2 rfl)) hr;exact jDX q3 q2
   .trivial
  .rename_i k' ys hst;split
   .rename_i hk;have hk:=kh hk;subst hk;refine h ys _ (by simpa[yh]using hst) λw O0 m st' u hs hg hr=>?_;exact jrM (K2 hs (hg _ (zx.2 rfl)) hr)
   .trivial
  .trivial
 .split
  .rename_i p hp;split
   .rename_i hk;have hk:=kh hk;subst hk;have hok:=KA (X:=X) hp;refine h _ _ (by simpa[yh]using hok.1) λw O0 m st' u hs hg hr=>?_;have hid:st' p.id = .row p.k p.xs:=hg _ (zx.2 rfl);obtain⟨hd,xs',e1,e2,e3,e4,e5⟩:=hok.2 w O0 m st' u hs ⟨p.xs,hid,rfl⟩ hr;rw[hid]at e2;cases e2;exact jDY e5 e4
   .trivial
  .trivial
 .trivial
theorem jvN{P:Program}{t:TypeId}{x:Operand}{lo hi:Option Operand}(ho:o.op = .slice t x lo hi none){e:Nat}(ht:P.underlying t=some (.slice e)){i:TI}(hi':TI.ok P e i)
  {alo ahi:Xl} (hlo:∀y,lo=some y-> ∃a,alo=some a/\dat (ρ y)=some a) (hlo0:lo=none->alo=none) (hhi:∀y,hi=some y-> ∃a,ahi=some a/\dat (ρ y)=some a) (hhi0:hi=none->ahi=none) :
  yc P X M o ρ st (jEg st i.size (ρ x) alo ahi):=by
 unfold jEg;split
 .rename_i p hp;split
  .rename_i hk;have hk:=kh hk;intro h' hh' l' hl';rw[jAT]at hl';exact⟨kG.winSlice ho ht hi' hp hk hlo hlo0 hhi hhi0 hh' hl',by simpa[yh]using⟨_,(KA (X:=X) hp).1,rfl⟩⟩
  .trivial
 .trivial
theorem jgV{id:Nat} :∀{ws:Xn},jou id ws=true-> ∀k xs,Wr.obj id (.fro k xs) ∉ ws
 | [],_,_,_,h=>by cases h
 |w::ws,hn,k,xs,h=>by
  simp only[jou,jI,QY]at hn;rcases jK.1 h with rfl|h
  .simp [Wr.id]at hn
  .exact jgV hn.2 k xs h
theorem jeN{n:Nat} :∀{ps:List (Nat×Xd)},jeM n ps=true-> ∀p∈ps,p.1<n
 | [],_,_,h=>by cases h
 |(q,ds)::ps,hn,p,h=>by
  simp only[jeM,jI,Zo]at hn;rcases jK.1 h with rfl|h
  .exact hn.1
  .exact jeN hn.2 p h
theorem jgd{n b:Nat}(h:jM n b=true):n*b<=140737488355328/\n<=9223372036854775807:=by
 unfold jM at h;simpa using h
theorem kG.buildSlice(hD:JI C.P C.D){t:TypeId}{n:Nat}{ps:Array (Nat×Operand)}(ho:o.op = .buildSlice t n ps){e:Nat}(ht:C.P.underlying t=some (.slice e)){i:TI}(hi:C.D e=some i)(hpos:0<i.size)(hn:0<n)(hb:n*i.size<=16777216)
  {z:Xd} (hz:jbA (zeroV C e i)=some z) (hzo:z.all jU=true) {parts:List (Nat×Xd)} {r:Xm} {ws:Xn} {st0:jA} (hp:jnG (ps.toList.map λp=>(p.1,ρ p.2)) st0 i parts r ws) (hr:jeM n parts=true) {nid:Nat} :
  kG C.P X o ρ ⟨.row nid,.fresh nid::r,ws++[.obj nid (.row i.size (setRows (List.replicate n z) parts))]⟩:=by
 intro w O0 m st ev hs hg hrel _hc;obtain⟨d1,d2,d3,d4⟩:=hp;have hgr:∀x∈r,yh st x:=λx hx=>hg x (by simp[hx]);have hab:=d4 st hgr;obtain⟨a1,a2,a3,a4,a5⟩:=jvC ws st hs hab;have hfr:st nid = .dead:=hg (.fresh nid) (by simp);have hfr':ku st ws nid = .dead:=by
  rw[a5 nid λk xs h=>?_]
  .exact hfr
  .obtain ⟨id,k',xs',e1,e2⟩:=hab _ h;cases e1;rw[hfr]at e2;rcases e2 with e2|e2<;>cases e2
 have hkeep:∀id k xs,st id = .fro k xs->ku st ws id = .fro k xs:=by
  intro id k xs h;by_cases hin:∃k' xs',Wr.obj id (.fro k' xs')∈ws
  .obtain ⟨k',xs',hin⟩:=hin;rw[a4 id k' xs' hin];obtain⟨id2,k2,xs2,e1,e2⟩:=hab _ hin;cases e1;rw[h]at e2;rcases e2 with e2|e2<;>cases e2<;>rfl
  .rw [a5 id λk' xs' h'=>hin ⟨k',xs',h'⟩,h]
 have hok:=hD e i hi;have hzr:jz w (Ow O0 m (ku st ws)) z i.zero.cells.toList:=qW (m:=m) hz (yS e i);have hlen:ps.toList.length=parts.length:=by simpa using congrArg List.length d1
 have hfill:=jll (w:=w) (O:=Ow O0 m (ku st ws)) (k:=i.size) parts (ps.toList.map λp=>(p.1,ev p.2)) (List.replicate n z) ((Array.range (n*i.size)).map (λq=>i.zero.cells[q % i.zero.cells.size]!))
  (by rw[<-d1,YT,YT];rfl)
  (λq p v hq hv=>by
   have hv':∃pp,ps.toList[q]? = some pp/\v=(pp.1,ev pp.2):=by
    rw[qu,Jh]at hv;obtain⟨pp,h1,h2⟩:=hv;exact⟨pp,h1,h2.symm⟩
   obtain⟨pp,hpp,rfl⟩:=hv';obtain⟨vs,r',ws',e1,e2,e3,e4,e5,e6⟩:=d3 q (pp.1,ρ pp.2) p (by rw[qu,hpp];rfl) hq;have hmem:pp.2∈o.op.operands:=by
    rw[ho];simp only[Op.operands];have:=Jx hpp;simpa using⟨pp.1,by simpa using this⟩
   obtain⟨k1,k2⟩:=e1 _ _ _ _ (hrel _ hmem);have k3:=Yf (st0:=st0) (st:=st) (st1:=ku st ws) a1 a3 e3 (λx hx=>hgr x (e4 x hx)) (λid k xs hm=>a4 id k xs (e5 _ hm)) hkeep k1;exact⟨e6,by have:=jeN hr p (Jx hq);simpa using this,k3,k2⟩)
  (λx hx=>by rw[(jmJ.1 hx).2,<-jZ hzr];simpa using hok.zsize)
  (jmF hzr hok.zsize hpos n)
  (by
   have h1:=jmF hzr hok.zsize hpos n;refine jeZ h1 ?_;rw[yx];intro x hx;obtain⟨y,hy,hxy⟩:=jkx.1 hx;rw[(jmJ.1 hy).2]at hxy;exact yx.1 hzo x hxy)
 obtain⟨cells',f1,f2,f3,f4,f5⟩:=hfill;rw[run_buildSlice hD ho ht hi hpos hn hb f1 w];have hn63:n<=16777216:=Zs (Nat.le_mul_of_pos_right n hpos) hb;have hcs:cells'.toList.length=n*i.size:=by
  rw[jZ f2,qb f4,f5];simp
 have hl:(setRows (List.replicate n z) parts).length=n:=by rw[f5];simp
 have htk:cells'.toList.take (n*i.size)=cells'.toList:=yN (by omega);refine KL.after (X:=X) a2 (Jr a1 (Jj w _) hfr' (hd:= .blk w.heap.size n n) rfl (Or.inr ⟨n,cells',e,by rw[hl],by rw[qG];omega,by rw[hl];exact j4 _,by omega,f4,heap_alloc_new w _,?_,?_,?_⟩))
 .simpa using hcs
 .rw [hl,htk];exact f3
 .rw [hl,htk];exact f2
theorem QC{P:Program}{o':Out} :∀(n i:Nat)(k:Xd->LX),(∀as,as.length=n->(∀j a,as[j]? = some a->hD o' (i+j)=some a)->yc P X M o ρ st (k as))->yc P X M o ρ st (jiy o' n i k)
 |0,i,k,h=>h [] rfl (by simp)
 |n+1,i,k,h=>by
  intro a ha;refine QC n (i+1) _ λas hl has=>h (a::as) (by simp[hl]) λj b hb=>?_;cases j with
  |zero=>simp at hb;subst hb;exact ha
  |succ j=>have:=has j b (by simpa using hb);rwa[show i+1+j=i+(j+1) by omega]at this
theorem jes{P:Program}{o':Out} :∀(ks:Xf)(i:Nat)(k:List Xc->LX),(∀rs,rs.length=ks.length->(∀(j:Nat)(r:Xc)(w:Nat),rs[j]? = some r->ks[j]? = some w->hR w o' (i+j)=some r)->yc P X M o ρ st (k rs))->yc P X M o ρ st (jps o' ks i k)
 | [],i,k,h=>h [] rfl (by simp)
 |w::ks,i,k,h=>by
  intro a ha;refine jes ks (i+1) _ λas hl has=>h (a::as) (by simp[hl]) λj b v hb hv=>?_;cases j with
  |zero=>simp at hb hv;subst hb hv;exact ha
  |succ j=>have:=has j b v (by simpa using hb) (by simpa using hv);rwa[show i+1+j=i+(j+1) by omega]at this
theorem jab{n:Nat}{sg:SigA} :∀{l:Sig},ZH n l=some sg->sg.ws.length=n
 | [],h=>by cases h
 |s::l,h=>by
  simp only[ZH]at h;split at h
  .rename_i hb;cases h;exact kh hb
  .exact jab h
theorem jxa(hS:StM X C M){nid:Nat}{f:Operand}{xs:Array Operand}{ts:Array TypeId}(ho:o.op = .call { callee:= .value f,args:=xs,argTypes:=ts }){g:FuncId}{caps:Xj}(hf:ρ f = .fn g caps){sgs:Sig}(hsig:C.sig g=some sgs) :
    yc C.P X M o ρ st (jtW (C.kn g) st nid g sgs (ZY C.D ts.toList (xs.toList.map ρ)++caps)):=by
  have mf:f∈o.op.operands:=by simp[ho,Op.operands,Call.operands]
  have mx:∀x∈xs.toList,x∈o.op.operands:=λx hx=>by simp[ho,Op.operands,Call.operands];exact Or.inr (by simpa using hx)
  unfold jtW;split;rotate_left
  . trivial
  rename_i ids vs2 objs p hprep;split;rotate_left
  . trivial
  rename_i sg halt;split;rotate_left
  . trivial
  rename_i hc;simp only[jI]at hc;intro out hout;have hp:=hS g vs2 objs sgs sg out hsig halt hout;refine QC _ _ _ λas la da=>jes _ _ _ λrs lr dr=>?_;have main:yc C.P X M o ρ st (joU (K3 (jpB sg.ks as)) sg st nid ids p as rs):=by
   refine⟨kG.stcall ho hp hprep hc.1 (jab halt) (λw O0 m st' ev hs hr=>?_) ⟨la,λi a h=>by simpa using da i a h,lr,λj r k h1 h2=>dr j r k h1 h2⟩,?_⟩
   . have hf':=hr f mf
     rw[hf]at hf';simp only[relV]at hf';obtain⟨us,g1,g2⟩:=hf';have g3:=qC (w:=w) (O:=Ow O0 m st') (m:=m) (ρ:=ρ) (ev:=ev) xs.toList λx hx=>hr x (mx x hx);exact⟨us,g1,zZ (qm g3) g2⟩
   . intro r hr
     rcases List.mem_append.mp hr with hr|hr
     . exact jdx r hr
     . refine jeJ (λid hid=>?_) r hr
       have:=List.all_eq_true.mp hc.2 id hid;cases hst:st id<;>rw[hst]at this<;>first|rfl|cases this
  unfold jE1;unfold jpB at main;split
  . rename_i hci
    rw[hci]at main;exact main
  . rename_i i hci
    rw[hci]at main;have key:∀b,Ja (as.getD i .top)=some b->K3 (as.getD i .top)=b:=λb hb=>by
      unfold Ja at hb;split at hb
      . rename_i e;cases hb;rw[e];rfl
      . cases hb
    exact⟨λh=>by have:=key _ h;simp only[this]at main;exact main,λh=>by have:=key _ h;simp only[this]at main;exact main⟩
theorem jvP:∀{l:Xf}{os:List Abs.Obj}{x:Wr},x∈jc0 l os->x.id∈l
 | [],_,x,h=>by simp only[jc0,List.not_mem_nil]at h
 |_::_,[],x,h=>by simp only[jc0,List.not_mem_nil]at h
 |id::l,o::os,x,h=>by
  simp only[jc0,jK]at h;rcases h with rfl|h
  .exact List.mem_cons_self ..
  .exact List.mem_cons_of_mem _ (jvP h)
theorem jyj{k:LX}(xs ys:Xj)(h:xs=ys->yc C.P X M o ρ st k):yc C.P X M o ρ st (jpw xs ys k):=by
 induction xs generalizing ys with
 |nil=>
  cases ys with
  |nil=>exact h rfl
  |cons y ys=>unfold jpw;exact trivial
 |cons x xs ih=>
  unfold jpw;split
  .rename_i h1;cases h1
  .rename_i a xs' b ys' h1;cases h1;exact λhe=>ih _ λe=>h (by rw[@of_decide_eq_true _ (Classical.propDecidable _) he,e])
  .trivial
theorem jCo{k:LX} :∀{W:Xn},((∀st',(∀x∈W,st' x.id=st x.id)->ku st' W=st')->yc C.P X M o ρ st k)->yc C.P X M o ρ st (jCn st W k):=by
 intro W h;induction W with
 |nil=>exact h λ_ _=>rfl
 |cons x W ih=>
  unfold jCn;split
  .rename_i h1;cases h1
  .rename_i i ys ws h1;cases h1;split
   .rename_i xs hst;refine jyj _ _ λe=>ih λh2=>h λst' h3=>?_;have h4:app st' (.obj i (.box ys))=st':=by
     funext j;have h5:=h3 _ (List.mem_cons_self ..);simp only[Wr.id]at h5;simp only[app,upd,Wr.id,Wr.on];cases hj:Nat.beq j i with
     |false=>rfl
     |true=>rw[kh hj,h5,hst,e];rfl
    show ku (app st' (.obj i (.box ys))) W=st';rw[h4];exact h2 st' λx hx=>h3 x (List.mem_cons_of_mem _ hx)
   .trivial
  .trivial
theorem kG.look{P:Program}{v:V}{rds:Xm}{W:Xn}(h:kG P X o ρ ⟨v,rds,W⟩)(h2:∀st,(∀r∈rds,yh st r)->ku st W=st):kG P X o ρ ⟨v,rds,[]⟩:=by
 intro w O0 m st ev hs hg hr hc;have e:=h2 st hg;have hP:KL X w O0 m st [] v=KL X w O0 m st W v:=by
  funext a b;unfold KL;rw[e];rfl
 show Upon P (KL X w O0 m st [] v) w _;rw[hP];exact h w O0 m st ev hs hg hr hc
theorem jqF(hS:StM X C M){nid:Nat}{f:Operand}{xs:Array Operand}{ts:Array TypeId}(ho:o.op = .call { callee:= .value f,args:=xs,argTypes:=ts }){g:FuncId}{caps:Xj}(hf:ρ f = .fn g caps){sgs:Sig}(hsig:C.sig g=some sgs) :
  yc C.P X M o ρ st (jjk (C.kn g) st nid g sgs (ZY C.D ts.toList (xs.toList.map ρ)++caps)):=by
 have mf:f∈o.op.operands:=by simp[ho,Op.operands,Call.operands]
 have mx:∀x∈xs.toList,x∈o.op.operands:=λx hx=>by simp[ho,Op.operands,Call.operands];exact Or.inr (by simpa using hx)
 unfold jjk;split;rotate_left
 .trivial
 rename_i ids vs2 objs p hprep;split;rotate_left
 .trivial
 rename_i sg halt;split;rotate_left
 .trivial
 rename_i hc;simp only[jI]at hc;intro out hout;have hp:=hS g vs2 objs sgs sg out hsig halt hout;refine QC _ _ _ λas la da=>jes _ _ _ λrs lr dr=>jCo λhw=>?_;have hdead:∀id∈ups nid (p+sg.nw.length),st id = .dead:=λid hid=>by
  have:=List.all_eq_true.mp hc.2 id hid;cases hst:st id<;>rw[hst]at this<;>first|rfl|cases this
 refine⟨kG.look (kG.stcall ho hp hprep hc.1 (jab halt) (λw O0 m st' ev hs hr=>?_) ⟨la,λi a h=>by simpa using da i a h,lr,λj r k h1 h2=>dr j r k h1 h2⟩) (λst' hg=>hw st' λx hx=>?_),?_⟩
 .have hf':=hr f mf;rw[hf]at hf';simp only[relV]at hf';obtain⟨us,g1,g2⟩:=hf';have g3:=qC (w:=w) (O:=Ow O0 m st') (m:=m) (ρ:=ρ) (ev:=ev) xs.toList λx hx=>hr x (mx x hx);exact⟨us,g1,zZ (qm g3) g2⟩
 .have hx:=jvP hx;rcases List.mem_append.mp hx with hx|hx
  .exact jf1 (st0:=st) (st:=st') (l:=ids) (λr hr=>hg r (ZO _ hr)) _ hx
  .rw [jcu (st:=st') (l:=ups nid (p+sg.nw.length)) (λr hr=>hg r (YS _ hr)) _ hx,hdead _ hx]
 .intro r hr;rcases List.mem_append.mp hr with hr|hr
  .exact jdx r hr
  .exact jeJ hdead r hr
theorem jCm{k:LX}{as:Xd}(h:as.all qM=true->yc C.P X M o ρ st k):yc C.P X M o ρ st (jFL as k):=by
 induction as with
 |nil=>exact h rfl
 |cons a as ih=>intro ha;exact ih λhv=>h (by simp only[zR,jI];exact⟨ha,hv⟩)
theorem jiD{k:LX} :∀{ks:Xf}{rs:List Xc},(jdu ks rs=true->yc C.P X M o ρ st k)->yc C.P X M o ρ st (jpv ks rs k)
 | [],[],h=>h rfl
 | [],_::_,h=>h rfl
 |_::_,[],h=>h rfl
 |kk::ks,r::rs,h=>by
  unfold jpv;split
  .rename_i hk;exact jiD λhv=>h (by simp only[jdu,hk,Bool.true_or,Bool.true_and];exact hv)
  .intro hr;exact jiD λhv=>h (by simp only[jdu,hr,Bool.or_true,Bool.true_and];exact hv)
mutual
theorem jlm{as:Xd}(h:as.all qM=true):∀s:Sh,Zb (s.toV as)=true
 |.d i=>by
  simp only[Sh.toV,Zb];rw[zP];cases hi:as[i]? with
  |none=>rfl
  |some a=>exact yx.1 h a (Jx hi)
 |.row _=>rfl
 |.ptr _ _=>rfl
 |.agg l=>by simp only[Sh.toV,Zb];exact jdv h l
 |.tup l=>by simp only[Sh.toV,Zb];exact jdv h l
theorem jdv{as:Xd}(h:as.all qM=true):∀l:List Sh,Qs (Sh.toVL as l)=true
 | []=>rfl
 |s::l=>by simp only[Sh.toVL,Qs,jI];exact⟨jlm h s,jdv h l⟩
end
theorem jwR{th:Bool}(hS:StM X C M){nid:Nat}{f:Operand}{xs:Array Operand}{ts:Array TypeId}(ho:o.op = .call { callee:= .value f,args:=xs,argTypes:=ts }){g:FuncId}{caps:Xj}(hf:ρ f = .fn g caps){sgs:Sig}(hsig:C.sig g=some sgs) :
  yc C.P X M o ρ st (jtC th st nid g sgs (ZY C.D ts.toList (xs.toList.map ρ)++caps)):=by
 have mf:f∈o.op.operands:=by simp[ho,Op.operands,Call.operands]
 have mx:∀x∈xs.toList,x∈o.op.operands:=λx hx=>by simp[ho,Op.operands,Call.operands];exact Or.inr (by simpa using hx)
 unfold jtC;split
 .rename_i as0 rds sg hto halt;split
  .rename_i hc;simp only[jI]at hc;intro out hout;refine QC _ _ _ λas hla hda=>jes _ _ _ λrs hlr hdr=>jCm λhf1=>jiD λhf2=>?_;have hws:sg.ws=[]:=jfw (jab halt);have hp:=hS g (as0.map V.d) [] sgs sg out hsig halt hout;refine⟨kG.rdcall ho hp hws (λw O0 m st' ev hs hg hr=>?_) ⟨hla,λi a h=>by simpa using hda i a h,hlr,λj r k h1 h2=>hdr j r k h1 h2⟩ (jlm hf1 _) hf2 hc.2,λr hr=>?_⟩
   .have hf':=hr f mf;rw[hf]at hf';simp only[relV]at hf';obtain⟨us,g1,g2⟩:=hf';have g3:=qC (w:=w) (O:=Ow O0 m st') (m:=m) (ρ:=ρ) (ev:=ev) xs.toList λx hx=>hr x (mx x hx);exact⟨us,g1,Zg hs 60 _ (Zj 60 _ hto hg) (zZ (qm g3) g2)⟩
   .rcases kW.1 hr with hr|hr
    .exact Zk 60 _ hto r hr
    .refine jeJ (λid hid=>?_) r hr;have:=List.all_eq_true.mp hc.1 id hid;cases hst:st id<;>rw[hst]at this<;>first|rfl|cases this
  .trivial
 .trivial
theorem jy6{v:V}{a:A}{is:Xf}{rs:Xm}(h:jy5 st v=some (a,is,rs)):∀r∈rs,yh st r:=by
 unfold jy5 at h;split at h
 .cases h;simp
 .cases h;simp
 .split at h
  .rename_i he;cases h;intro r hr;rw[zx.1 hr];exact he
  .cases h
 .cases h
theorem jlx:∀{vs:Xj}{as:Xd}{is:Xf}{rs:Xm},jeS st vs=some (as,is,rs)-> ∀r∈rs,yh st r
 | [],_,_,_,h=>by simp only[jeS]at h;cases h;simp
 |v::vs,_,_,_,h=>by
  simp only[jeS]at h;split at h
  .rename_i h1 h2;cases h;intro r hr;rcases kW.1 hr with hr|hr
   .exact jy6 h1 r hr
   .exact jlx h2 r hr
  .cases h
theorem jiE{k:LX}{vs:Xj}(h:jaV vs=true->yc C.P X M o ρ st k):yc C.P X M o ρ st (jeA vs k):=by
 induction vs with
 |nil=>exact h rfl
 |cons v vs ih=>
  cases v with
  |d a=>
   intro ha;exact ih λhv=>h (by simp only[jaV,jI];exact⟨ha,hv⟩)
  |_=>exact ih λhv=>h (by simp only[jaV];exact hv)
theorem juw{id i k j:Nat} :∀{vs vs':Xj},jnK vs=some vs'->Qy id i k j vs=some vs'
 | [],_,h=>by simp only[jnK]at h;cases h;rfl
 |v::vs,_,h=>by
  unfold jnK at h;split at h
  .rename_i e;cases e
  .rename_i a vs1 e;cases e;obtain⟨l,hl,rfl⟩:=Jh.1 h;simp only[Qy,jgn,juw hl]
  .cases h
theorem jmj{id i k j:Nat} :∀{vs vs2:Xj},jgo vs=some (vs2,(id,i,k,j))->Qy id i k j vs=some vs2
 | [],_,h=>by simp only[jgo]at h;cases h
 |v::vs,_,h=>by
  unfold jgo at h;split at h
  .cases h
  .rename_i a vs1 e;cases e;obtain⟨⟨l,q⟩,hl,he⟩:=Jh.1 h;simp only[Jd]at he;obtain⟨rfl,rfl⟩:=he;simp only[Qy,jgn,jmj hl]
  .rename_i id' i' k' j' vs1 e;cases e;obtain⟨l,hl,he⟩:=Jh.1 h;simp only[Jd]at he;obtain⟨rfl,rfl,rfl,rfl,rfl⟩:=he;have:∀n:Nat,Nat.beq n n=true:=λn=>Nat.beq_refl n;simp only[Qy,jgn,this,Bool.and_self,qi,juw hl]
  .cases h
theorem jmA:∀{ds:Xd},jaV (ds.map V.d)=true->ds.all y9=true
 | [],_=>rfl
 |d::ds,h=>by
  simp only[kK,jaV,jI]at h;simp only[zR,jI];exact⟨h.1,jmA h.2⟩
theorem jr0{t:TypeId}{a x:Operand}(ho:o.op = .store t a x){i:TI}(hi:TI.ok C.P t i){id ii k j:Nat}{f:Bool}(ha:ρ a = .rptr id ii k j){xs:Xc}(hst:st id = .tre f k xs){vs:Xj}
  (hx:∀(w:World)(O:Nat->Prop)(m:zf)(u:Value),relV w O m (ρ x) u->jp w O m vs u.cells.toList) (hl:j+i.size<=k):yc C.P X M o ρ st (jkm st id ii k j i.size f xs vs):=by
 unfold jkm;split
 .split
  .rename_i as is rs hk;split
   .rename_i hc;simp only[jI,QY]at hc;obtain⟨h1,h2,h3⟩:=hc;have h3:=kh h3;refine jiE λhv=>?_;intro cs hcs;refine⟨kG.storeKids ho hi ha hx hk hv (jcA h1) (λh=>?_) h3 (by omega),λr hr=>?_⟩
    .rw [jiU.2 h]at h2;cases h2
    .rcases jK.1 hr with rfl|hr
     .exact ⟨xs,hst,hcs⟩
     .exact jlx hk r hr
   .trivial
  .trivial
 .split
  .rename_i ds hd;split
   .rename_i hc;have hc:=kh hc;refine jiE λhv=>?_;intro cs hcs ho';refine⟨kG.storeTre ho hi ha (λw O m u hu=>qW hd (hx w O m u hu)) (jmA hv) hc (by omega) (by rw[hc];exact ho'),λr hr=>?_⟩;rw[zx.1 hr];exact⟨xs,hst,hcs⟩
   .trivial
  .trivial
theorem jxn{t:TypeId}{x:Operand}(ho:o.op = .load t x){i:TI}(hi:TI.ok C.P t i)(hnp:i.kind.plain=false){nid:Nat} :yc C.P X M o ρ st (jBK C.D st nid i (ρ x)):=by
 exact trivial
theorem jt7{nid:Nat}{t:TypeId}{x:Operand}(ho:o.op = .load t x){i:TI}(hi:TI.ok C.P t i):yc C.P X M o ρ st (joZ C.D nid st i (ρ x)):=by
 unfold joZ;split
 .rename_i hp;split
  .rename_i id ii k j hx;split
   .rename_i f k' xs hst;split
    .rename_i hk;have hk:=kh hk;subst hk;intro cs hcs;split
     .rename_i hc;simp only[jI]at hc;obtain⟨_,rfl⟩:=hc;intro hs;exact⟨kG.loadSub ho hi hp hx hs,λr hr=>by rw[zx.1 hr];exact⟨xs,hst,hcs⟩⟩
     .intro hs;exact⟨kG.loadVal ho hi hp hx hs,λr hr=>by rw[zx.1 hr];exact⟨xs,hst,hcs⟩⟩
    .trivial
   .trivial
  .trivial
 .rename_i hp;exact jxn ho hi (by simpa using hp)
theorem jt0(hS:StM X C M){f:Operand}{xs:Array Operand}{ts:Array TypeId}(ho:o.op = .call { callee:= .value f,args:=xs,argTypes:=ts }){g:FuncId}{caps:Xj}(hf:ρ f = .fn g caps){sgs:Sig}(hsig:C.sig g=some sgs)(p:Xj×(Nat×Nat×Nat×Nat))(hp0:jgo (ZY C.D ts.toList (xs.toList.map ρ)++caps)=some p) :
  yc C.P X M o ρ st (joW st g sgs p):=by
 have mf:f∈o.op.operands:=by simp[ho,Op.operands,Call.operands]
 have mx:∀x∈xs.toList,x∈o.op.operands:=λx hx=>by simp[ho,Op.operands,Call.operands];exact Or.inr (by simpa using hx)
 obtain⟨vs2,id,i,k,j⟩:=p;have hsub:=jmj hp0;unfold joW;dsimp only;split;rotate_left
 .trivial
 rename_i sg k' rows halt hst;split;rotate_left
 .trivial
 rename_i kk hws hnw hks;split;rotate_left
 .trivial
 rename_i hc;simp only[jI]at hc;have hk:=kh hc.1;have hkk:=kh hc.2.1;have h128:Nat.blt (kk-64+64) 128=true:=by rw[hkk];exact hc.2.2
 subst hk;intro cs hcs ys hys out hout;have hp:=hS g vs2 [.tre true (kk-64) ys] sgs sg out hsig halt hout;have hca:cs[j]? = some (.sl (kk-64) ys):=by
  unfold je7 at hys;split at hys
  .rename_i k2 xs2 he;split at hys
   .rename_i h2;cases hys;subst h2;unfold jb at he;rw[zP]at he;cases hq:cs[j]? with
    |none=>rw[hq]at he;cases he
    |some a=>rw[hq]at he;simp at he;rw[he]
   .cases hys
  .cases hys
 refine QC _ _ _ λas la da=>?_;intro r hr;refine⟨?_,λq hq=>by rw[zx.1 hq];exact⟨rows,hst,hcs⟩⟩;have hov:jS cs j [.sl (kk-64) r]=cs.set j (.sl (kk-64) r):=by
  have hlt:=(Zn.1 hca).1;have:=Yd (cs:=cs) (off:=j) (d:=A.sl (kk-64) r) (ds:=[]) (by simp;omega);unfold jS;rw[<-this];simp[over]
 rw[hov];refine kG.subcall ho hp hws hnw (by rw[hks,hkk]) h128 hca hsub (λw O0 m st' ev hs hr=>?_) ⟨la,λq a h=>by simpa using da q a h,by rw[hks];rfl,λq r' k2 h1 h2=>?_⟩
 .have hf':=hr f mf;rw[hf]at hf';simp only[relV]at hf';obtain⟨us,g1,g2⟩:=hf';have g3:=qC (w:=w) (O:=Ow O0 m st') (m:=m) (ρ:=ρ) (ev:=ev) xs.toList λx hx=>hr x (mx x hx);exact⟨us,g1,zZ (qm g3) g2⟩
 .rw [hks]at h2;cases q with
  |zero=>simp at h1 h2;subst h1 h2;simpa using hr
  |succ q=>simp at h1
theorem jpl{id:Nat} :∀{vs vs':Xj},jnK vs=some vs'->YN id vs=some vs'
 | [],_,h=>by simp only[jnK]at h;cases h;rfl
 |v::vs,_,h=>by
  unfold jnK at h;split at h
  .rename_i e;cases e
  .rename_i a vs1 e;cases e;obtain⟨l,hl,rfl⟩:=Jh.1 h;simp only[YN,jcN,jpl hl]
  .cases h
theorem jmk{id:Nat} :∀{vs vs2:Xj},jkf vs=some (vs2,id)->YN id vs=some vs2
 | [],_,h=>by simp only[jkf]at h;cases h
 |v::vs,_,h=>by
  unfold jkf at h;split at h
  .cases h
  .rename_i a vs1 e;cases e;obtain⟨⟨l,q⟩,hl,he⟩:=Jh.1 h;simp only[Jd]at he;obtain⟨rfl,rfl⟩:=he;simp only[YN,jcN,jmk hl]
  .rename_i id' vs1 e;cases e;obtain⟨l,hl,he⟩:=Jh.1 h;simp only[Jd]at he;obtain⟨rfl,rfl⟩:=he;have:∀n:Nat,Nat.beq n n=true:=λn=>Nat.beq_refl n;simp only[YN,jcN,this,qi,jpl hl]
  .cases h
theorem jsX{sgs:Sig}{vs vs2:Xj}{id k:Nat}{xs:Xc}(h:jhG st sgs vs=some (vs2,id,k,xs)):YN id vs=some vs2/\st id = .row k xs:=by
 unfold jhG at h;split at h
 .rename_i vs3 id3 hg;split at h
  .rename_i k3 xs3 sg hst _;split at h
   .split at h
    .cases h;exact⟨jmk hg,hst⟩
    .cases h
   .cases h
  .cases h
 .cases h
theorem jpO(hS:StM X C M){f:Operand}{xs:Array Operand}{ts:Array TypeId}(ho:o.op = .call { callee:= .value f,args:=xs,argTypes:=ts }){g:FuncId}{caps:Xj}(hf:ρ f = .fn g caps){sgs:Sig}(hsig:C.sig g=some sgs)(q:Xj×Nat×Nat×Xc)(hp0:jhG st sgs (ZY C.D ts.toList (xs.toList.map ρ)++caps)=some q) :
  yc C.P X M o ρ st (jiQ g sgs q):=by
 have mf:f∈o.op.operands:=by simp[ho,Op.operands,Call.operands]
 have mx:∀x∈xs.toList,x∈o.op.operands:=λx hx=>by simp[ho,Op.operands,Call.operands];exact Or.inr (by simpa using hx)
 obtain⟨vs2,id,k,ys⟩:=q;obtain⟨hsub,hst⟩:=jsX hp0;unfold jiQ;dsimp only;split;rotate_left
 .trivial
 rename_i sg halt;split;rotate_left
 .trivial
 rename_i kk hws hnw hks;split;rotate_left
 .trivial
 rename_i hc;simp only[jI]at hc;have hkk:=kh hc.1;have h128:Nat.blt (k+64) 128=true:=by rw[hkk];exact hc.2
 intro hval out hout;have hp:=hS g vs2 [.tre true k ys] sgs sg out hsig halt hout;refine QC _ _ _ λas la da=>?_;intro r hr;refine⟨?_,λq hq=>by rw[zx.1 hq];exact hst⟩;refine kG.flatcall ho hp hws hnw (by rw[hks,hkk]) h128 hval hsub (λw O0 m st' ev hs hr=>?_) ⟨la,λq a h=>by simpa using da q a h,by rw[hks];rfl,λq r' k2 h1 h2=>?_⟩
 .have hf':=hr f mf;rw[hf]at hf';simp only[relV]at hf';obtain⟨us,g1,g2⟩:=hf';have g3:=qC (w:=w) (O:=Ow O0 m st') (m:=m) (ρ:=ρ) (ev:=ev) xs.toList λx hx=>hr x (mx x hx);exact⟨us,g1,zZ (qm g3) g2⟩
 .rw [hks]at h2;cases q with
  |zero=>simp at h1 h2;subst h1 h2;simpa using hr
  |succ q=>simp at h1
theorem jrB(hM:Qz X C M){f:Operand}{xs:Array Operand}{ts:Array TypeId}(ho:o.op = .call { callee:= .value f,args:=xs,argTypes:=ts }){g:FuncId}{caps:Xj}(hf:ρ f = .fn g caps) :
  yc C.P X M o ρ st (jj9 C st g (ZY C.D ts.toList (xs.toList.map ρ)++caps)):=by
 have mf:f∈o.op.operands:=by simp[ho,Op.operands,Call.operands]
 have mx:∀x∈xs.toList,x∈o.op.operands:=λx hx=>by simp[ho,Op.operands,Call.operands];exact Or.inr (by simpa using hx)
 unfold jj9;split
 .rename_i as p hseal;split
  .rename_i hpure;intro out hout x hx;refine⟨kG.sealmap ho hseal (hM g as out hpure hout) hx (λw O0 m st' ev hs hr=>?_),jmb hseal⟩;have hf':=hr f mf;rw[hf]at hf';simp only[relV]at hf';obtain⟨us,g1,g2⟩:=hf';have g3:=qC (w:=w) (O:=Ow O0 m st') (m:=m) (ρ:=ρ) (ev:=ev) xs.toList λx hx=>hr x (mx x hx);exact⟨us,g1,zZ (qm g3) g2⟩
  .trivial
 rename_i hnone;clear hnone;split
 .rename_i v hv;split
  .rename_i a r ws hseal;split
   .rename_i hpure;intro out hout x hx;refine⟨kG.sealcall ho hseal (hM g [a] out hpure hout) hx (λw O0 m st' ev hs hr=>?_),jw1 hseal⟩;have hf':=hr f mf;rw[hf]at hf';simp only[relV]at hf';obtain⟨us,g1,g2⟩:=hf';have g3:=qC (w:=w) (O:=Ow O0 m st') (m:=m) (ρ:=ρ) (ev:=ev) xs.toList λx hx=>hr x (mx x hx);refine⟨us,g1,?_⟩;rw[<-hv];exact zZ (qm g3) g2
   .trivial
  .trivial
 .trivial
theorem jp7(hD:JI C.P C.D){t:Nat}(h:jsZ C t=true):∃k,C.P.underlying t=some (.int k):=by
 unfold jsZ at h;split at h
 .rename_i i hi;split at h
  .rename_i k hk;exact⟨k,jY hD hi hk⟩
  .cases h
 .cases h
theorem jv6(hD:JI C.P C.D)(hM:Qz X C M)(hS:StM X C M)(nid:Nat)(hnid:st nid = .dead):yc C.P X M o ρ st (evL C o ρ st nid):=by
 have hfresh:∀x ∈ [Rd.fresh nid],yh st x:=by simpa[yh]using hnid
 unfold evL;split
 .rename_i t x ho;split
  .rename_i i hi;split
   .refine Ya λds h1 h2 h3=>⟨kG.box ho (λw O m u hu=>qD hu) h1,hfresh⟩
   .trivial
  .trivial
 .rename_i t ho;split
  .rename_i i hi;refine K8 λh1 h2=>⟨kG.alloc ho (hD _ _ hi) (λw O m=>yS t i) ?_,hfresh⟩;exact jaD (w:=default) (O:=λ_=>False) (m:=λ_=>none) (yS t i) h1 h2
  .trivial
 .rename_i t ho;exact⟨kG.makeMap ho,hfresh⟩
 .rename_i t x k y ho;split
  .rename_i ti ka ht hka;split
   .rename_i kt et hk;split
    .rename_i ki hki;split
     .rename_i ks id va hks hx hva;split
      .rename_i xs hst;intro ys hys;exact⟨kG.mapUpdate ho (jY hD ht hk) (jlw hks (hD _ _ hki).desc) hx hka (λw O m u hu=>jfc hva (qD hu)) hys,by simpa[yh]using hst⟩
      .trivial
     .trivial
    .trivial
   .trivial
  .trivial
 .rename_i t a x ho;split
  .rename_i i hi;split
   .split
    .rename_i id off ha;split
     .rename_i cs hst;refine Ya λds h1 h2 h3=>?_;split
      .rename_i hl;simp only[jI,jkv]at hl;have hl1:=kh hl.1;exact⟨kG.storeBox ho (hD _ _ hi) ha (λw O m u hu=>h1 w O m u (qD hu)) hl1 (by omega),by simpa[yh]using⟨cs,hst,rfl⟩⟩
      .trivial
     .trivial
    .rename_i id ii k j ha;split
     .rename_i k' xs hst;split
      .rename_i hk;simp only[jI,jkv]at hk;have hk1:=kh hk.1;subst hk1;refine Ya λvs h1 h2 h3=>?_;cases hs:Jt st vs with
       |none=>trivial
       |some y=>
        obtain⟨ds,r,ws⟩:=y;simp only;split
        .rename_i hl;simp only[jI]at hl;have hl1:=kh hl.1;intro cs hcs;refine⟨kG.storeRow ho (hD _ _ hi) ha (λw O m u hu=>(h1 w O m u (qD hu)).1) hs (jcI hs h2).1 hl1 (by omega) (jgV hl.2),λx hx=>?_⟩;rcases jK.1 hx with rfl|hx
         .exact ⟨xs,hst,hcs⟩
         .exact KZ hs x hx
        .trivial
      .trivial
     .rename_i f k' xs hst;split
      .rename_i hk;simp only[jI,jkv]at hk;have hk1:=kh hk.1;subst hk1;exact Ya λvs h1 h2 h3=>jr0 ho (hD _ _ hi) ha hst (λw O m u hu=>(h1 w O m u (qD hu)).1) hk.2
      .trivial
     .trivial
    .trivial
   .trivial
  .trivial
 .rename_i t x ho;split
  .rename_i i hi;exact jt7 ho (hD _ _ hi)
  .trivial
 .rename_i op t x y u ho;split
  .rename_i hc;rw[jI]at hc;split
   .rename_i ti ht;split
    .rename_i e hk;have hu:=jY hD ht hk;have gen:∀rds N,(∀(w:World)(O0:Nat->Prop)(m:zf)(st':jA)(v:Value),Sto X w O0 m st'->(∀r∈rds,yh st' r)->relV w (Ow O0 m st') m (ρ x) v-> ∃a n c,v = .slice a n c/\(N≠0->a.isNone=false))->kG C.P X o ρ ⟨.ub N (jp8 op),rds,[]⟩:=
      λrds N hv=>kG.nilEq ho hc.2 hc.1 hu hv
     have hsl:∀{w:World}{O:Nat->Prop}{k:Nat}{xs:Xc}{v:Value},rel w O (.sl k xs) v-> ∃a n c,v = .slice a n c/\(zX xs≠0->a.isNone=false):=by
      intro w O k xs v hr;simp only[rel]at hr;obtain⟨a,c,h,_,_,h4⟩:=hr;refine⟨a,_,c,h,λh0=>?_⟩;rcases h4 with rfl|⟨b,off,rfl,_⟩
      .exact absurd rfl h0
      .rfl
     unfold jEQ;split
     .rename_i a hx;intro ys hys;refine⟨gen [] _ λw O0 m st' v _ _ hr=>?_,by simp⟩;rw[hx]at hr;unfold jAX at hys;split at hys
      .cases hys;simp only[relV]at hr;exact hsl hr
      .cases hys
     .rename_i hx;refine⟨gen [] 0 λw O0 m st' v _ _ hr=>?_,by simp⟩;rw[hx]at hr;simp only[relV]at hr;obtain⟨a,h⟩:=hr;exact⟨a,_,_,h,λh=>absurd rfl h⟩
     .rename_i id hx;split
      .rename_i k xs hst;refine⟨gen _ _ λw O0 m st' v hs hg hr=>?_,by simpa[yh]using hst⟩;rw[hx]at hr;obtain⟨hd,q1,q2,q3⟩:=jj4 hs (hg _ (zx.2 rfl)) hr;cases hd with
       |tre=>exact q3.elim
       |mp=>exact q3.elim
       |none=>
        simp only[rowOk]at q3;simp only[hdr]at q2;subst q3;obtain⟨a,h⟩:=q2;exact⟨a,_,_,h,λh=>absurd rfl h⟩
       |blk b c n=>
        simp only[hdr]at q2;exact⟨_,_,_,q2,λ_=>rfl⟩
      .rename_i k xs hst;refine⟨gen _ _ λw O0 m st' v hs hg hr=>?_,by simpa[yh]using hst⟩;rw[hx]at hr;exact hsl (K2 hs (hg _ (zx.2 rfl)) hr)
      .trivial
     .trivial
    .trivial
   .trivial
  .trivial
 .rename_i t x y ho;split
  .rename_i ti ht;split
   .rename_i e hk;split
    .rename_i i a b hi ha hb;split
     .split
      .rename_i z hz;intro l hl hzo;unfold je6 at hl;split at hl
       .rename_i kl l' kc c';split at hl
        .rename_i hc;cases hl;have hxd:ρ x = .d (.val (.int kl l')):=by cases hx:ρ x<;>rw[hx]at ha<;>simp[dat]at ha;rw[ha]
         have hyd:ρ y = .d (.val (.int kc c')):=by cases hy:ρ y<;>rw[hy]at hb<;>simp[dat]at hb;rw[hb]
         simp only[yH];have hz':∀w O,jz w O z i.zero.cells.toList:=λw O=>jA6 (jhV (w:=default) (w':=w) (O:=λ_=>False) (m:=λ_=>none) hz (yS e i)).1;exact⟨kG.makeTre ho (jY hD ht hk) (hD _ _ hi) hxd hyd rfl rfl hc.1 hc.2.1 hc.2.2.1 hc.2.2.2 hz' (λw=>(jhV (w:=default) (w':=w) (O:=λ_=>False) (m:=λ_=>none) hz (yS e i)).1) (jeZ (hz' default λ_=>False) hzo),hfresh⟩
        .cases hl
       .cases hl
      .trivial
     split
     .rename_i z hz;intro l hl hzo;unfold je6 at hl;split at hl
      .rename_i kl l' kc c';split at hl
       .rename_i hc;cases hl;have hxd:ρ x = .d (.val (.int kl l')):=by cases hx:ρ x<;>rw[hx]at ha<;>simp[dat]at ha;rw[ha]
        have hyd:ρ y = .d (.val (.int kc c')):=by cases hy:ρ y<;>rw[hy]at hb<;>simp[dat]at hb;rw[hb]
        simp only[yH];have hz':∀w O,jz w O z i.zero.cells.toList:=λw O=>qW (m:=λ_=>none) hz (yS e i);exact⟨kG.make ho (jY hD ht hk) (hD _ _ hi) hxd hyd rfl rfl hc.1 hc.2.1 hc.2.2.1 hc.2.2.2 hz' (jeZ (hz' default λ_=>False) hzo),hfresh⟩
       .cases hl
      .cases hl
     .trivial
    .trivial
   .trivial
  .trivial
 .rename_i t n ps ho;split
  .rename_i ti ht;split
   .rename_i e hk;split
    .rename_i i hi;split
     .rename_i hn;have hn0:=kh hn;subst hn0;split
      .rename_i hps;have hps':ps = #[]:=by simpa using hps
       refine⟨λw O0 m st' ev hs hg hr _=>?_,by simp⟩;rw[jhh hD ho hps' (jY hD ht hk) hi w];have hb:=Jj w (.cells #[] e);exact⟨m,Chg.below hb,hs.below hb,by simp only[relV];exact⟨_,rfl⟩⟩
      .trivial
     .rename_i hn;split
      .rename_i hc;simp only[jI,jkv,Zo]at hc;split
       .rename_i z hz;intro hzo;refine jlS _ [] [] [] [] ⟨rfl,by simp,λn p q hp=>by simp at hp,λst' _ x hx=>by cases hx⟩ λacc r ws hp=>?_;simp only[yF]at hp;split
        .rename_i hr;have hn0:0<n:=jvQ λe0=>hn (by rw[e0];rfl);refine⟨kG.buildSlice hD ho (jY hD ht hk) hi hc.1.2 hn0 hc.2 hz hzo hp hr,λx hx=>?_⟩;rcases jK.1 hx with rfl|hx
         .exact hnid
         .exact hp.2.1 x hx
        .trivial
       .trivial
      .trivial
    .trivial
   .trivial
  .trivial
 .rename_i t x ix ho;split
  .rename_i ti ht;split
   .rename_i e hk;split
    .rename_i i id b hi hx hb;split
     .rename_i k xs hst;split
      .rename_i hk';have hk':=kh hk';subst hk';intro n hn;exact⟨kG.indexRow ho (jY hD ht hk) (hD _ _ hi) hx hb hn,by simp[yh,hst]⟩
      .trivial
     .rename_i f k xs hst;split
      .rename_i hk';have hk':=kh hk';subst hk';intro n hn;exact⟨kG.indexTre ho (jY hD ht hk) (hD _ _ hi) hx hb hn,by simp[yh,hst]⟩
      .trivial
     .trivial
    .rename_i i id k off n b hi hx hb;split
     .rename_i k' xs hst;split
      .rename_i hkk;simp only[jI]at hkk;have hk1:=kh hkk.1;have hk2:=kh hkk.2;subst hk1;subst hk2;intro j hj;exact⟨kG.winIndex ho (jY hD ht hk) (hD _ _ hi) hx hb hj,by simp[yh,hst]⟩
      .trivial
     .trivial
    .trivial
   .trivial
  .trivial
 .rename_i t x lo hi ho;split
  .rename_i ti ht;split
   .rename_i e hk;split
    .rename_i i id k off n l h hii hx hl hh;obtain⟨l1,l2⟩:=qK hl;obtain⟨u1,u2⟩:=qK hh;rw[<-hx];exact jvN ho (jY hD ht hk) (hD _ _ hii) l1 l2 u1 u2
    .rename_i i k l h hii hx hl hh;obtain⟨l1,l2⟩:=qK hl;obtain⟨u1,u2⟩:=qK hh;intro h' hh' l' hl';rw[jAT]at hl';exact⟨kG.sliceNil ho (jY hD ht hk) (hD _ _ hii) hx l1 l2 u1 u2 hh' hl',by simp⟩
    .rename_i i id l h hii hx hl hh;split
     .obtain ⟨l1,l2⟩:=qK hl;obtain⟨u1,u2⟩:=qK hh;rw[<-hx];exact jvN ho (jY hD ht hk) (hD _ _ hii) l1 l2 u1 u2
     split
     .rename_i k xs hst;split
      .rename_i hk';have hk':=kh hk';subst hk';obtain⟨l1,l2⟩:=qK hl;obtain⟨u1,u2⟩:=qK hh;intro r hr;exact⟨kG.sliceRow ho (jY hD ht hk) (hD _ _ hii) hx l1 l2 u1 u2 hr,by simpa[yh]using hst⟩
      .trivial
     .trivial
    .trivial
   .trivial
  .trivial
 .rename_i t x l h m ho;have m1:x∈o.op.operands:=by simp[ho,Op.operands]
  have m2:l∈o.op.operands:=by simp[ho,Op.operands]
  have m3:h∈o.op.operands:=by simp[ho,Op.operands]
  have m4:m∈o.op.operands:=by simp[ho,Op.operands]
  split
  .split
   .rename_i ti ht;split
    .rename_i e hk;split
     .rename_i i p l' h' m' hi hp hl hh hm;split
      .rename_i hkk;intro mm e1 hh' e2 ll e3;exact⟨kG.win3 ho (jY hD ht hk) (hD _ _ hi) hp hl hh hm e1 e2 e3,by simpa[yh]using⟨_,(KA (X:=X) hp).1,rfl⟩⟩
      .trivial
     .trivial
    .trivial
   .trivial
  split
  .rename_i ti k1 k2 k3 ht hl hh hm;split
   .rename_i e hk;split
    .rename_i i a hi hx;intro ys hys;refine⟨kG.same λw O0 mm st' ev hs hg hr=>?_,by simp⟩;have hx':=hr x m1;have e1:=hr l m2;have e2:=hr h m3;have e3:=hr m m4;rw[hx]at hx';rw[hl]at e1;rw[hh]at e2;rw[hm]at e3;simp only[relV,rel]at e1 e2 e3;simp only[relV]at hx';unfold je7 at hys;split at hys
     .simp only[rel]at hx';obtain⟨ad,c,hv,_⟩:=hx';exact⟨_,jj8 ho (jY hD ht hk) (hD _ _ hi) hv e1 e2 e3,by simp only[relV];exact⟨ad,rfl⟩⟩
     .cases hys
    .trivial
   .trivial
  .trivial
 .rename_i t ps ho;split
  .rename_i i hi;split
   .rename_i fs hk;split
    .rename_i hfs;refine jlT hD _ _ λcs hcs=>⟨kG.same λw O0 m st' ev hs hg hrel=>?_,by simp⟩;have h1:jp w (Ow O0 m st') m ((ps.toList.map λp=>(p.1,ρ p.2)).map Prod.snd) ((ps.toList.map λp=>(p.1,ev p.2)).map Prod.snd):=by
      rw[YT,YT];have:=qC (w:=w) (O:=Ow O0 m st') (m:=m) (ρ:=ρ) (ev:=ev) (ps.toList.map Prod.snd) λx hx=>hrel x (by
       rw[ho];simp only[Op.operands];simpa using hx)
      rw[YT,YT]at this;exact this
     obtain⟨h2,h3⟩:=jbZ (C:=C) (fs:=fs) h1;obtain⟨cells',h6,h7⟩:=hcs w (Ow O0 m st') m (ps.toList.map λp=>(p.1,ev p.2)) i.zero.cells (yS t i) (by rw[h3];simp) h2;refine⟨_,run_build hD ho hi hk hfs h6 (w:=w),?_⟩;simp only[relV];exact⟨cells'.toList,by simp,h7⟩
    .trivial
   .trivial
  .trivial
 .rename_i c ho;obtain⟨callee,args,ts⟩:=c;dsimp only;split
  .split
   .rename_i s x t t' hxs hts;split
    .rename_i hint;obtain⟨l,rfl⟩:∃l:List Operand,args=l.toArray:=⟨args.toList,by simp⟩;have hxs:l=[s,x]:=by simpa using hxs
     subst hxs;obtain rfl:ts = #[t,t']:=by apply QX;simpa using hts
     split
     .rename_i ti ht;split
      .rename_i e hk;split
       .rename_i i hi;split
        .rename_i k a z hs0 ha hz;intro n hn hfit hzo;unfold je6 at hn;split at hn
         .rename_i kl l' kc c';split at hn
          .rename_i hc;cases hn;have hf:=jgd hfit;simp only[yH];have hz':∀w O,jz w O z i.zero.cells.toList:=λw O=>qW (m:=λ_=>none) hz (yS e i);obtain⟨kk,hu⟩:=jp7 hD hint;exact⟨kG.appendZ ho rfl rfl (jY hD ht hk) hu (hD _ _ hi) hs0 ha hc.1 hf.1 hf.2 hz' (jeZ (hz' default λ_=>False) hzo),hfresh⟩
          .cases hn
         .cases hn
        .trivial
       .trivial
      .trivial
     .trivial
    split
    .rename_i htt;have htt:=kh htt;subst htt;obtain rfl:ts = #[t,t]:=by apply QX;simpa using hts
     obtain⟨l,rfl⟩:∃l:List Operand,args=l.toArray:=⟨args.toList,by simp⟩;have hxs:l=[s,x]:=by simpa using hxs
     subst hxs;split
     .rename_i ti ht;split
      .rename_i e hk;split
       .rename_i i hi;split
        .rename_i hs0;refine jhS λys r hg hsrc hfit=>?_;have hf:=jgd hfit;exact⟨kG.append0 ho rfl rfl (jY hD ht hk) (hD _ _ hi) hs0 hsrc hf.1 hf.2,λy hy=>by
          rcases jK.1 hy with rfl|hy
          .exact hnid
          .exact hg y hy⟩
        .rename_i id hs0;split
         .rename_i k us hst;split
          .rename_i hc;simp only[jI,QY]at hc;have hk':=kh hc.1;subst hk';have hne:nid≠id:=λe=>by subst e;rw[hnid]at hst;cases hst
           refine jhS λys r hg hsrc hfit=>?_;have hf:=jgd hfit;exact⟨kG.append ho rfl rfl (jY hD ht hk) (hD _ _ hi) hs0 hne hsrc hf.1 hf.2,λy hy=>by
            rcases jK.1 hy with rfl|hy
            .exact hnid
            .rcases jK.1 hy with rfl|hy
             .exact hst
             .exact hg y hy⟩
          .trivial
         .trivial
        .rename_i id k off n hs0;split
         .rename_i p hp;split
          .rename_i hkk;have hkk:=kh hkk;have hp':=hp;have hst:=(KA (X:=X) hp).1;refine jhS λys r hg hsrc hfit=>?_;have hf:p.off+p.n+ys.length<=p.xs.length:=by simpa[jq2]using hfit
           rw[<-hs0]at hp';exact⟨kG.winAppend ho rfl rfl (jY hD ht hk) (hD _ _ hi) hp' hkk hsrc hf,λy hy=>by
            rcases jK.1 hy with rfl|hy
            .exact hst
            .exact hg y hy⟩
          .trivial
         .trivial
        .trivial
       .trivial
      .trivial
     .trivial
    .trivial
   .trivial
  .split
   .rename_i x t hxs hts;obtain⟨l,rfl⟩:∃l:List Operand,args=l.toArray:=⟨args.toList,by simp⟩;have hxs:l=[x]:=by simpa using hxs
    subst hxs;obtain rfl:ts = #[t]:=by apply QX;simpa using hts
    split
    .rename_i ti ht;split
     .rename_i e hk;split
      .rename_i k hx;refine⟨kG.data λw O0 m st' ev hs hg hr=>?_,by simp⟩;have hx':=hr x (by simp[ho,Op.operands,Call.operands]);rw[hx]at hx';simp only[relV]at hx';obtain⟨a,hv⟩:=hx';refine⟨.int .i64 0,?_,by simp[rel]⟩;simp[execOp,ho,resolve,invoke,builtin,Builtin.cap_,hv,zo (jY hD ht hk),goInt]
      .trivial
     .trivial
    .trivial
   .trivial
  .split
   .rename_i s x t t' hxs hts;obtain⟨l,rfl⟩:∃l:List Operand,args=l.toArray:=⟨args.toList,by simp⟩;have hxs:l=[s,x]:=by simpa using hxs
    subst hxs;obtain rfl:ts = #[t,t']:=by apply QX;simpa using hts
    split
    .rename_i ti ht;split
     .rename_i e hk;split
      .rename_i i p hi hp;split
       .rename_i hkk;have hkk:=kh hkk;refine jhS λys r hg hsrc=>?_;exact⟨kG.winCopy ho rfl rfl (jY hD ht hk) (hD _ _ hi) hp hkk hsrc,λy hy=>by
         rcases jK.1 hy with rfl|hy
         .exact (KA (X:=X) hp).1
         .exact hg y hy⟩
       .trivial
      .trivial
     .trivial
    .trivial
   .trivial
  .split
   .rename_i x t hxs hts;obtain⟨l,rfl⟩:∃l:List Operand,args=l.toArray:=⟨args.toList,by simp⟩;have hxs:l=[x]:=by simpa using hxs
    subst hxs;obtain rfl:ts = #[t]:=by apply QX;simpa using hts
    split
    .rename_i ti ht;split
     .rename_i e hk;split
      .rename_i i p hi hp;split
       .rename_i hkk;have hkk:=kh hkk;split
        .rename_i z hz;intro hzo;exact⟨kG.winClear ho rfl rfl (jY hD ht hk) (hD _ _ hi) hp hkk (λw O=>qW (m:=λ_=>none) hz (yS e i)) hzo,by simpa[yh]using(KA (X:=X) hp).1⟩
        .trivial
       .trivial
      .trivial
     .trivial
    .trivial
   .trivial
  .split
   .rename_i g caps hf;split
    .rename_i sgs hsig;split
     .exact jrB hM ho hf
     split
     .exact jwR hS ho hf hsig
     .split
      .rename_i p hp0;exact jt0 hS ho hf hsig p hp0
      .split
       .rename_i q hq0;exact jpO hS ho hf hsig q hq0
       .split
        .exact jqF hS ho hf hsig
        .exact jxa hS ho hf hsig
    .trivial
   .trivial
  .trivial
 .trivial
end
end
noncomputable section
def jd3(P:Program):Nat->List (Option TI)->Prop
 |_,[]=>True
 |n,none::l=>jd3 P (n+1) l
 |n,some i::l=>TI.ok P n i/\jd3 P (n+1) l
theorem jd3.get{P:Program} :∀{l:List (Option TI)}{n k:Nat}{i:TI},jd3 P n l->l[k]? = some (some i)->TI.ok P (n+k) i
 | [],_,_,_,_,h=>by simp at h
 |none::l,n,k,i,ha,h=>by
  cases k with
  |zero=>simp at h
  |succ k=>have:=jd3.get (l:=l) (n:=n+1) (k:=k) ha (by simpa using h);rwa[show n+1+k=n+(k+1) by omega]at this
 |some j::l,n,k,i,ha,h=>by
  cases k with
  |zero=>simp at h;subst h;exact ha.1
  |succ k=>have:=jd3.get (l:=l) (n:=n+1) (k:=k) ha.2 (by simpa using h);rwa[show n+1+k=n+(k+1) by omega]at this
def tyD(l:List (Option TI))(t:Nat):Option TI:=l.getD t none
theorem jd3.ok{P:Program}{l:List (Option TI)}(h:jd3 P 0 l):JI P (tyD l):=by
 intro t i hi;unfold tyD at hi;rw[zP]at hi;have:l[t]? = some (some i):=by
  cases hl:l[t]? with
  |none=>rw[hl]at hi;cases hi
  |some x=>rw[hl]at hi;simp at hi;rw[hi]
 simpa using h.get this
def pG(t:A)(want:Bool)(x:Xl):Xl:=
 match t with
 |.val (.bool b)=>if b=want then x else some (.val undef)
 |.val (.tuple _)=>some (.val undef)
 |_=>none
def ZL(t:A)(want:Bool):Option Bool:=
 match t with
 |.val (.bool b)=>some (decide (b=want))
 |.val (.tuple _)=>some false
 |_=>none
abbrev Log:=Xm×Xn
structure GE where
 dst:Nat
 gd:Nat
 want:Bool
 v:V
def jqG(i d:Nat)(w:Bool):List GE->Option V
 | []=>none
 |g::gs=>bif Nat.beq g.dst i && (Nat.beq g.gd d && (g.want == w))then some g.v else jqG i d w gs
def jlP(gs:List GE)(d:Nat)(w:Bool)(fr:Nat->V):Nat->V:=λi=>match jqG i d w gs with|some v=>v|none=>fr i
def jc5(gs:List GE):Option Tmp->List GE
 |none=>gs
 |some x=>gs.filter λg=> !(Nat.beq g.dst x) && !(Nat.beq g.gd x)
def jFf(gs:List GE)(dst:Option Tmp)(d:Nat)(want:Bool)(v:V):List GE:=
 match dst with
 |none=>gs
 |some x=>bif Nat.beq x d then jc5 gs dst else⟨x,d,want,v⟩::jc5 gs dst
section
variable(C:Cfg)(M:Node->Xe)
def run1(o:Oper)(n:Nat)(fr:Nat->V)(st:jA)(nid:Nat)(k:V->Xm->Xn->Xe):Xe:=
 match evD C o (evF n fr) st with
 |.val v rds=>k v rds []
 |.opt x rds=>(x.run C M).bind λa=>k (.d a) rds []
 |.no=>(match st nid with
  |.dead=>(evL C o (evF n fr) st nid).run M k
  |_=>none)
def jyw(ops:Array Oper)(j:Nat):Option Nat:=match ops[j]? with|some o=>o.dst|none=>none
def stepOp(ops:Array Oper)(o:Oper)(n:Nat)(fr:Nat->V)(st:jA)(nid:Nat)(gs:List GE)(k:V->Xm->Xn->List GE->Xe):Xe:=
 match o.guard with
 |none=>run1 C M o n fr st nid λv rds wrs=>k v rds wrs (jc5 gs o.dst)
 |some (j,want)=>(match jyw ops j with
  |some d=>if Nat.blt d n then(match fr d with
   |.d t=>(match evD C o (evF n (jlP gs d want fr)) st with
    |.val (.d a) rds=>(pG t want (some a)).bind λa=>k (.d a) rds [] (jc5 gs o.dst)
    |.val v rds=>(ZL t want).bind λ_=>k .top rds [] (jFf gs o.dst d want v)
    |.opt x rds=>(pG t want (x.run C M)).bind λa=>k (.d a) rds [] (jc5 gs o.dst)
    |.no=>(ZL t want).bind λb=>brn b (run1 C M o n (jlP gs d want fr) st nid λv rds wrs=>k v rds wrs (jc5 gs o.dst)) (k (.d (.val undef)) [] [] (jc5 gs o.dst)))
   |_=>none)else none
  |none=>none)
def evOps(ops:Array Oper)(n:Nat):List Oper->Nat->(Nat->V)->jA->List GE->List Log->((Nat->V)->jA->List Log->Xe)->Xe
 | [],_,fr,st,_,logs,k=>k fr st logs
 |o::os,nid,fr,st,gs,logs,k=>stepOp C M ops o n fr st nid gs λv rds wrs gs'=>evOps ops n os (nid+8) (JL fr o.dst v) (ku st wrs) gs' (logs++[(rds,wrs)]) k
end
def cWR:Wr->Rd->Option Xk
 |.cell id off _,.cell id' off' _=>if Nat.beq id id' && Nat.beq off off' then none else some []
 |.elem id i _,.elem id' i' _ _=>if Nat.beq id id' then some [(i,i')]else some []
 |.elem id i _,.telem id' _ i' _ _=>if Nat.beq id id' then some [(i,i')]else some []
 |.elem _ _ _,.tlen _ _ _ _=>some []
 |.cell _ _ _,.blen _ _=>some []
 |.elem _ _ _,.len _ _ _=>some []
 |w,r=>if Nat.beq w.id r.id then none else some []
def cWW:Wr->Wr->Option Xk
 |.cell id off _,.cell id' off' _=>if Nat.beq id id' && Nat.beq off off' then none else some []
 |.elem id i _,.elem id' i' _=>if Nat.beq id id' then some [(i,i')]else some []
 |w,r=>if Nat.beq w.id r.id then none else some []
def jpu{α β:Type}(f:α->β->Option Xk):List α->List β->Option Xk
 | [],_=>some []
 |a::as,bs=>match cOne (f a) bs,jpu f as bs with
  |some x,some y=>some (x++y)
  |_,_=>none
where cOne (g:β->Option Xk):List β->Option Xk
 | []=>some []
 |b::bs=>match g b,cOne g bs with
  |some x,some y=>some (x++y)
  |_,_=>none
def jye(a b:Log):Option Xk:=
 match jpu cWR a.2 b.1,jpu cWR b.2 a.1,jpu cWW a.2 b.2 with
 |some x,some y,some z=>some (x++y++z)
 |_,_,_=>none
def jJq(o:Oper)(i:Nat):Bool:=o.after.toList.any λe=>Region.binds .any e && Nat.beq e.on i
def jiM(all:List Oper)(i:Nat):Nat->Oper->Bool
 |0,_=>false
 |d+1,o=>o.after.toList.any λe=>Region.binds .any e && (Nat.beq e.on i || (match all[e.on]? with|some ok=>jiM all i d ok|none=>false))
def jHC(all:List Oper)(o:Oper)(i:Nat):Bool:=jiM all i 2 o
def jHB(all:List Oper)(o:Oper)(i:Nat)(x:Option Xk):Option Xk:=
 match x with
 |some y=>some y
 |none=>if jiM all i 7 o then some []else none
def jCl(all:List Oper)(o:Oper)(b:Log):Nat->List Log->Option Xk
 |_,[]=>some []
 |i,a::as=>match(if jHC all o i then some []else jHB all o i (jye a b)),jCl all o b (i+1) as with
  |some x,some y=>some (x++y)
  |_,_=>none
def jCk(all:List Oper):List Oper->List Log->List Log->Option Xk
 | [],_,_=>some []
 |_::_,_,[]=>none
 |o::os,done,b::bs=>match jCl all o b 0 done,jCk all os (done++[b]) bs with
  |some x,some y=>some (x++y)
  |_,_=>none
def apart(ps:Xk):Bool:=ps.all λp=>decide (p.1≠p.2)
def jp0(nx:Nat)(logs:List Log):Bool:=logs.all λl=>l.2.all λw=>Nat.blt w.id nx
def jcT:Code->Bool
 |.region _ ops draw=> !draw || Region.lexB .any ops.toList.toArray
 |.seq a b=>jcT a && jcT b
 |.cond _ a b=>jcT a && jcT b
 |.block _ b=>jcT b
 |.loop b=>jcT b
 |_=>true
def jvw(ops:List Oper)(logs:List Log):Bool:=match jCk ops ops [] logs with|some ps=>apart ps|none=>false
def evReg(C:Cfg)(M:Node->Xe)(ops:List Oper)(draw:Bool)(s:St)(κ:St->Xe):Xe:=
 evOps C M ops.toArray s.n ops s.nx s.fr s.st [] [] λfr st logs=>
  brn (jp0 (s.nx+8*ops.length) logs) (brn (!draw || jvw ops logs) (κ ⟨s.n,fr,st,s.nx+8*ops.length,s.sh⟩) none) none
def jgK(mask:Nat)(fr:Nat->V):Nat->Nat->Xj
 |0,_=>[]
 |n+1,i=>(if Nat.testBit mask i then fr i else .top)::jgK mask fr n (i+1)
def jor(ids:Xf):Xf->Option Xf
 | []=>some []
 |x::l=>(match ZW x ids 0,jor ids l with|some i,some r=>some (i::r)|_,_=>none)
def jEW(ids:Xf):Option Xf->Option (Option Xf)
 |none=>some none
 |some l=>(match jor ids l with|some r=>some (some r)|none=>none)
def shL:Option Xf->Xf
 |none=>[]
 |some l=>l
def again(M:Node->Xe)(f:FuncId)(p:Xf)(mask:Nat)(s:St):Xe:=
 let fr1:=jgK mask s.fr s.n 0
 let ids:=reach s.st 400 (jfa fr1++shL s.sh) []
 if jf7 ids then
  match jEW ids s.sh with
  |some sh2=>(match ZM (ZC ids fr1) ids.length with
   |(fr2,os1)=>match JV (ids.map λid=>joG ids (s.st id)) (ids.length+os1.length)with
    |(ob,os3)=>M (.head f p fr2 (ob++os1++os3) sh2))
  |none=>none
 else none
def St.of(n:Nat)(fr:Xj)(objs:List Obj)(sh:Option Xf):St:=⟨n,λi=>fr.getD i .top,λi=>objs.getD i .dead,objs.length,sh⟩
open Classical in
noncomputable def bth(x y:Xe):Xe:=if x=y then x else none
theorem jey{x y:Xe}{r:Out} :bth x y=some r↔x=some r/\y=some r:=by
 unfold bth;split
 .rename_i h;subst h;simp
 .rename_i h;constructor
  .intro h;cases h
  .rintro ⟨h1,h2⟩;exact absurd (h1.trans h2.symm) h
def nz(n:Nat):Bool:=decide (n=0)
theorem jx7(x:Xe):bth x x=x:=jg rfl
inductive Ex where
 |normal
 |exit (id:Nat)
 |ret
section
variable(C:Cfg)(M:Node->Xe)(f:FuncId)
def evC:Code->Xf->St->(Ex->St->Xe)->Xe
 |.skip,_,s,κ=>κ .normal s
 |.region _ ops draw,_,s,κ=>evReg (C.at f) M ops.toList draw s (κ .normal)
 |.seq a b,p,s,κ=>evC a (p++[0]) s λe s'=>match e with|.normal=>evC b (p++[1]) s' κ|e=>κ e s'
 |.cond c x y,p,s,κ=>(match evF s.n s.fr c with
  |.d a=>(Ja a).bind λt=>brn t (evC x (p++[0]) s κ) (evC y (p++[1]) s κ)
  |.ub n neg=>brn (nz n) (bth (evC x (p++[0]) s κ) (evC y (p++[1]) s κ)) (if neg then evC x (p++[0]) s κ else evC y (p++[1]) s κ)
  |_=>none)
 |.block id b,p,s,κ=>evC b (p++[0]) s λe s'=>match e with|.exit id'=>if Nat.beq id' id then κ .normal s' else κ (.exit id') s'|e=>κ e s'
 |.loop _,p,s,_=>again M f p (C.kp f p) s
 |.exit id,_,s,κ=>κ (.exit id) s
 |.ret,_,s,κ=>κ .ret s
 |.label _,_,s,κ=>κ .normal s
 |_,_,_,_=>none
def evAt:Code->Xf->Xf->St->(Ex->St->Xe)->Xe
 |.loop b,[],p,s,κ=>evC C M f b (p++[0]) s λe s'=>match e with|.normal=>again M f p (C.kp f p) s'|e=>κ e s'
 |.loop b,0::r,p,s,κ=>evAt b r (p++[0]) s λe s'=>match e with|.normal=>again M f p (C.kp f p) s'|e=>κ e s'
 |.seq a b,0::r,p,s,κ=>evAt a r (p++[0]) s λe s'=>match e with|.normal=>evC C M f b (p++[1]) s' κ|e=>κ e s'
 |.seq _ b,1::r,p,s,κ=>evAt b r (p++[1]) s κ
 |.cond _ x _,0::r,p,s,κ=>evAt x r (p++[0]) s κ
 |.cond _ _ y,1::r,p,s,κ=>evAt y r (p++[1]) s κ
 |.block id b,0::r,p,s,κ=>evAt b r (p++[0]) s λe s'=>match e with|.exit id'=>if Nat.beq id' id then κ .normal s' else κ (.exit id') s'|e=>κ e s'
 |_,_,_,_,_=>none
end
def jDK(C:Cfg)(s:St):ResultVar->Option V
 |.tmp t=>some (evF s.n s.fr (.tmp t))
 |.cell a t=>(match KP C t (evF s.n s.fr (.tmp a)) s.st with
  |.val v _=>some v
  |_=>none)
def joH(C:Cfg)(s:St):List ResultVar->List TypeId->Option Xj
 | [],_=>some []
 |r::rs,[]=>(match jDK C s r,joH C s rs []with|some v,some vs=>some (v::vs)|_,_=>none)
 |r::rs,t::ts=>(match jDK C s r,joH C s rs ts with|some v,some vs=>some (nilV C.D t v::vs)|_,_=>none)
def Yr:Xj->V
 | [v]=>v
 |vs=>.tup vs
def jeF(C:Cfg)(fn:Func)(s:St):Xe:=
 match joH C s fn.results.toList fn.resultTypes.toList with
 |some vs=>(match toA s.st 60 (Yr vs)with|some (a,_)=>some (a,[])|none=>none)
 |none=>none
def jMo(C:Cfg)(fn:Func):Ex->St->Xe
 |.normal,s=>jeF C fn s
 |.ret,s=>jeF C fn s
 |_,_=>none
def eqP:Xf->Xf->Bool
 | [],[]=>true
 |x::xs,y::ys=>Nat.beq x y && eqP xs ys
 |_,_=>false
structure MAcc where
 as:Xd
 ns:List (Option Nat)
 rds:Xm
def jIg(n:Nat)(a:A):Option Xd:=match a with|.agg ds=>if ds.length=n then some ds else none|_=>none
mutual
def mt(st:jA)(sh:Xf):Sh->V->MAcc->Option MAcc
 |.d i,v,c=>(match toA st 60 v with
  |some (a,r)=>if Nat.beq i c.as.length then some ⟨c.as++[a],c.ns,c.rds++r⟩else none
  |none=>none)
 |.row o,.row id,c=>(match sh[o]? with
  |some q=>if Nat.beq q id then some c else none
  |none=>if Nat.beq o (sh.length+c.ns.length)then some ⟨c.as,c.ns++[some id],c.rds⟩else none)
 |.row o,.nil _,c=>if Nat.beq o (sh.length+c.ns.length)then some ⟨c.as,c.ns++[none],c.rds⟩else none
 |.ptr o off,.ptr id off',c=>(match sh[o]? with
  |some q=>if Nat.beq q id && Nat.beq off off' then some c else none
  |none=>none)
 |.agg l,.agg cs,c=>QM st sh l cs c
 |.agg l,.d a,c=>(jIg l.length a).bind λds=>QM st sh l ((List.range l.length).map λj=>.d (jb ds j)) c
 |.tup l,.tup cs,c=>QM st sh l cs c
 |_,_,_=>none
def QM(st:jA)(sh:Xf):List Sh->Xj->MAcc->Option MAcc
 | [],[],c=>some c
 |s::l,v::vs,c=>(mt st sh s v c).bind λc'=>QM st sh l vs c'
 |_,_,_=>none
end
def mtB(st:jA)(sh:Xf):List OW->Xf->MAcc->Option MAcc
 | [],[],c=>some c
 |.box l::ws,id::ids,c=>(match st id with
  |.box cs=>(QM st sh l cs c).bind λc'=>mtB st sh ws ids c'
  |_=>none)
 |_::ws,_::ids,c=>mtB st sh ws ids c
 |_,_,_=>none
def ioL:List OW->Xf->List (Option Nat)
 |.io _::ws,id::ids=>some id::ioL ws ids
 |_::ws,_::ids=>ioL ws ids
 |_,_=>[]
def jy0:List OW->Nat->Bool
 | [],_=>true
 |.io j::ws,n=>Nat.beq j n && jy0 ws (n+1)
 |_::ws,n=>jy0 ws n
def ioN:List OW->Nat
 | []=>0
 |.io _::ws=>ioN ws+1
 |_::ws=>ioN ws
def jeU:List OW->Xf->List (Option Nat)
 |.cons::ws,_::ids=>none::jeU ws ids
 |_::ws,id::ids=>some id::jeU ws ids
 |_,_=>[]
def jpY(x:Nat):List (Option Nat)->Bool
 | []=>false
 |none::l=>jpY x l
 |some y::l=>Nat.beq x y || jpY x l
def jjw:List (Option Nat)->Bool
 | []=>true
 |none::l=>jjw l
 |some x::l=> !jpY x l && jjw l
def pNo(a:A):Option Unit:=match a with|.val (.bool false)=>some ()|_=>none
def jaH(st:jA)(a:A):Xf->List (Option Nat)->Option (List Xc)
 | [],[]=>some []
 |k::ks,none::l=>(jaH st a ks l).bind λr=>if Nat.blt (kdK k) 128 then some ([]::r)else none
 |k::ks,some id::l=>(jaH st a ks l).bind λr=>(match st id with
  |.row k' xs=>if Nat.beq k' (kdK k) && Nat.blt (kdK k) 64 then some (xs::r)else none
  |.tre true k' xs=>if Nat.beq (k'+64) k && (!Nat.beq k 128 && Nat.blt k 256)then some (xs::r)else none
  |.map xs=>if Nat.beq k 128 then some (xs::r)else none
  |.gone=>if Nat.ble 256 k then(pNo a).bind λ_=>some ([]::r)else none
  |_=>none)
 |_,_=>none
def slL:Xf->List Xc->Xd
 |k::ks,r::rs=>.sl k r::slL ks rs
 |_,_=>[]
def jIo(live:List (Option Nat))(rds:Xm):Bool:=rds.all λr=>match r with|.obj id o=> !o.alive || !jpY id live|_=>true
def jFT(st:jA)(sg:SigA)(sh:Xf)(vs:Xj):Xe:=
 (mtB st sh sg.ws sh ⟨[],[],[]⟩).bind λc1=>(mt st sh sg.r (Yr vs) c1).bind λc=>
  (if Nat.beq c.as.length sg.nd && Nat.beq c.ns.length sg.nw.length && jy0 sg.ws 0 && eqP sg.nw (ups (ioN sg.ws) sg.nw.length) && jjw (jeU sg.ws sh++c.ns) && jIo (jeU sg.ws sh++c.ns) c.rds then
   (jaH st (jpB sg.ks c.as) sg.ks (ioL sg.ws sh++c.ns)).bind λrs=>some (.top,c.as++slL sg.ks rs)
  else none)
def jHD(C:Cfg)(fn:Func)(sg:SigA)(sh:Xf)(s:St):Xe:=
 match joH C s fn.results.toList fn.resultTypes.toList with
 |some vs=>jFT s.st sg sh vs
 |none=>none
def jhR:List ResultVar->Xf
 | []=>[]
 |.tmp t::l=>t::jhR l
 |_::l=>jhR l
def jff(t:Nat)(s:St):St:=
 match s.fr t with
 |.win id k off n=>(match s.st id with
  |.row k' xs=>bif Nat.beq k' k && (Nat.beq off 0 && ji1 (s.st s.nx))then { s with fr:=upd s.fr t (.row s.nx),st:=upd (upd s.st id .gone) s.nx (.row k (xs.take n)),nx:=s.nx+1 }else s
  |_=>s)
 |_=>s
def jwa:Obj->Obj
 |.tre _ k xs=>.tre true k xs
 |o=>o
def jHH(s:St):St:={ s with st:=λi=>jwa (s.st i) }
def jfg:Xf->St->St
 | [],s=>jHH s
 |t::ts,s=>jfg ts (jff t s)
def jyC(C:Cfg)(f:FuncId)(fn:Func)(s:St):Xe:=
 match s.sh with
 |none=>jeF C fn s
 |some sh=>(match C.sig f with
  |some sgs=>(match ZH sh.length sgs with
   |some sg=>jHD C fn sg sh (jfg (jhR fn.results.toList) s)
   |none=>none)
  |none=>none)
def QG(C:Cfg)(f:FuncId)(fn:Func):Ex->St->Xe
 |.normal,s=>jyC C f fn s
 |.ret,s=>jyC C f fn s
 |_,_=>none
def jaJ(fn:Func)(args:Xd):St:=St.of fn.ntmps (args.map V.d) [] none
def jdX(fn:Func)(args:Xj)(objs:List Obj):St:=St.of fn.ntmps args objs (some (List.range objs.length))
def step(C:Cfg)(M:Node->Xe):Node->Xe
 |.call f args=>(match C.ext f with
  |some x=>x args
  |none=>(match C.pureF f with
   |false=>none
   |true=>(match C.P.funcs[f]? with
    |some fn=>(match fn.body with
     |some c=>brn (Nat.ble args.length fn.ntmps) (evC C M f c [] (jaJ fn args) (QG C f fn)) none
     |none=>none)
    |none=>none)))
 |.callv f args objs=>(match C.extv f with
  |some x=>extRun C M x args objs
  |none=>(match C.P.funcs[f]? with
    |some fn=>(match fn.body with
     |some c=>brn (Nat.ble args.length fn.ntmps) (evC C M f c [] (jdX fn args objs) (QG C f fn)) none
     |none=>none)
    |none=>none))
 |.head f p fr objs sh=>(match C.P.funcs[f]? with
   |some fn=>(match fn.body with
    |some c=>evAt C M f c p [] (St.of fn.ntmps fr objs sh) (QG C f fn)
    |none=>none)
   |none=>none)
def Mn(C:Cfg):Nat->Node->Xe
 |0,_=>none
 |n+1,x=>step C (Mn C n) x
open Classical in
noncomputable def MM(C:Cfg)(x:Node):Xe:=if h:∃r n,Mn C n x=some r then some h.choose else none
def LeM(M M':Node->Xe):Prop:=∀x r,M x=some r->M' x=some r
structure Nice(C:Cfg){α:Type}(Φ:(Node->Xe)->Option α):Prop where
 mono:∀M M' r,LeM M M'->Φ M=some r->Φ M'=some r
 fin:(∀n,LeM (Mn C n) (Mn C (n+1)))-> ∀r,Φ (MM C)=some r-> ∃n,Φ (Mn C n)=some r
section
variable{C:Cfg}{α β:Type}
theorem jk7(h:∀n,LeM (Mn C n) (Mn C (n+1))){a b:Nat}(hab:a<=b):LeM (Mn C a) (Mn C b):=by
 induction hab with
 |refl=>exact λ_ _ h=>h
 |step _ ih=>exact λx r hr=>h _ x r (ih x r hr)
theorem Nice.const(x:Option α):Nice C λ_=>x:=⟨λ_ _ _ _ h=>h,λ_ _ h=>⟨0,h⟩⟩
theorem Nice.node(x:Node):Nice C λM=>M x:=
 ⟨λ_ _ _ h hr=>h _ _ hr,λ_ r h=>by
  unfold MM at h;split at h
  .rename_i hx;cases h;exact hx.choose_spec
  .cases h⟩
theorem Nice.bind{Φ:(Node->Xe)->Option α}{Ψ:(Node->Xe)->α->Option β}(h1:Nice C Φ)(h2:∀a,Nice C λM=>Ψ M a):Nice C λM=>(Φ M).bind (Ψ M) where
 mono:=λM M' r hM h=>by
  rw[yG]at h⊢;obtain⟨a,h3,h4⟩:=h;exact⟨a,h1.mono _ _ _ hM h3,(h2 a).mono _ _ _ hM h4⟩
 fin:=λhc r h=>by
  rw[yG]at h;obtain⟨a,h3,h4⟩:=h;obtain⟨n1,h5⟩:=h1.fin hc _ h3;obtain⟨n2,h6⟩:=(h2 a).fin hc _ h4;refine⟨max n1 n2,?_⟩;rw[yG];exact⟨a,h1.mono _ _ _ (jk7 hc (Nat.le_max_left _ _)) h5,(h2 a).mono _ _ _ (jk7 hc (Nat.le_max_right _ _)) h6⟩
theorem Nice.fin'(chk:Bool){Φ:(Node->Xe)->Xe}(h:Nice C Φ):Nice C λM=>(Φ M).bind (Abs.fin chk):=h.bind λ_=>Nice.const _
theorem Nice.dx{C':Cfg}(x:DX):Nice C λM=>x.run C' M:=by
 cases x with
 |opt x=>exact Nice.const x
 |call f args chk=>exact(Nice.node _).fin' chk
 |callc fn args chk=>
  simp only[DX.run];split
  .split
   .exact (Nice.node _).fin' chk
   .exact Nice.const _
  .exact Nice.const _
theorem Nice.pG{t:A}{want:Bool}{Φ:(Node->Xe)->Xl}(h:Nice C Φ):Nice C λM=>pG t want (Φ M):=by
 unfold Abs.pG;split
 .split
  .exact h
  .exact Nice.const _
 .exact Nice.const _
 .exact Nice.const _
theorem Nice.brn{α:Type}{b:Bool}{Φ Ψ:(Node->Xe)->Option α}(h1:Nice C Φ)(h2:Nice C Ψ):Nice C λM=>Abs.brn b (Φ M) (Ψ M):=by
 cases b
 .exact h2
 .exact h1
theorem Nice.bth{Φ Ψ:(Node->Xe)->Xe}(h1:Nice C Φ)(h2:Nice C Ψ):Nice C λM=>Abs.bth (Φ M) (Ψ M) where
 mono:=λM M' r hM h=>by
  rw[jey]at h⊢;exact⟨h1.mono _ _ _ hM h.1,h2.mono _ _ _ hM h.2⟩
 fin:=λhc r h=>by
  rw[jey]at h;obtain⟨n1,h5⟩:=h1.fin hc _ h.1;obtain⟨n2,h6⟩:=h2.fin hc _ h.2;refine⟨max n1 n2,?_⟩;rw[jey];exact⟨h1.mono _ _ _ (jk7 hc (Nat.le_max_left _ _)) h5,h2.mono _ _ _ (jk7 hc (Nat.le_max_right _ _)) h6⟩
theorem Nice.lx{κ:(Node->Xe)->V->Xm->Xn->Xe}(hκ:∀v r w,Nice C λM=>κ M v r w):∀x:LX,Nice C λM=>x.run M (κ M)
 |.fail=>Nice.const _
 |.ret v r w=>hκ v r w
 |.bnd x k=>(Nice.const x).bind λa=>Nice.lx hκ (k a)
 |.nat x k=>(Nice.const x).bind λa=>Nice.lx hκ (k a)
 |.rows x k=>(Nice.const x).bind λa=>Nice.lx hκ (k a)
 |.cells x k=>(Nice.const x).bind λa=>Nice.lx hκ (k a)
 |.chk b k=>by
  simp only[LX.run];exact Nice.brn (Nice.lx hκ k) (Nice.const _)
 |.node x k=>(Nice.node _).bind λa=>Nice.lx hκ (k a)
 |.cnd a x y=>(Nice.const (Ja a)).bind λ_=>Nice.brn (Nice.lx hκ x) (Nice.lx hκ y)
theorem Nice.run1{C':Cfg}{o:Oper}{n:Nat}{fr:Nat->V}{st:jA}{nid:Nat}{κ:(Node->Xe)->V->Xm->Xn->Xe}(hκ:∀v r w,Nice C λM=>κ M v r w):Nice C λM=>Abs.run1 C' M o n fr st nid (κ M):=by
 unfold Abs.run1;split
 .exact hκ _ _ _
 .exact (Nice.dx _).bind λa=>hκ _ _ _
 .split
  .exact Nice.lx hκ _
  .exact Nice.const _
theorem Nice.stepOp{C':Cfg}{ops:Array Oper}{o:Oper}{n:Nat}{fr:Nat->V}{st:jA}{nid:Nat}{gs:List GE}{κ:(Node->Xe)->V->Xm->Xn->List GE->Xe}(hκ:∀v r w g,Nice C λM=>κ M v r w g):Nice C λM=>Abs.stepOp C' M ops o n fr st nid gs (κ M):=by
 unfold Abs.stepOp;split
 .exact Nice.run1 (κ:=λM v r w=>κ M v r w _) λ_ _ _=>hκ _ _ _ _
 .split
  .split
   .split
    .split
     .exact (Nice.const _).bind λa=>hκ _ _ _ _
     .exact (Nice.const _).bind λa=>hκ _ _ _ _
     .exact (Nice.pG (Nice.dx _)).bind λa=>hκ _ _ _ _
     .exact (Nice.const _).bind λb=>Nice.brn (Nice.run1 (κ:=λM v r w=>κ M v r w _) λ_ _ _=>hκ _ _ _ _) (hκ _ _ _ _)
    .exact Nice.const _
   .exact Nice.const _
  .exact Nice.const _
theorem Nice.evOps{C':Cfg}{ops:Array Oper}{n:Nat}{κ:(Node->Xe)->(Nat->V)->jA->List Log->Xe}(hκ:∀f s l,Nice C λM=>κ M f s l):∀(l:List Oper)(nid:Nat)(fr:Nat->V)(st:jA)(gs:List GE)(logs:List Log),
  Nice C λM=>Abs.evOps C' M ops n l nid fr st gs logs (κ M)
 | [],_,fr,st,_,logs=>hκ fr st logs
 |o::os,nid,fr,st,gs,logs=>Nice.stepOp (C':=C') (κ:=λM v rds wrs gs'=>Abs.evOps C' M ops n os (nid+8) (JL fr o.dst v) (ku st wrs) gs' (logs++[(rds,wrs)]) (κ M)) λv rds wrs gs'=>Nice.evOps hκ os _ _ _ _ _
theorem Nice.evReg{C':Cfg}{ops:List Oper}{draw:Bool}{s:St}{κ:(Node->Xe)->St->Xe}(hκ:∀s,Nice C λM=>κ M s):Nice C λM=>Abs.evReg C' M ops draw s (κ M):=by
 unfold Abs.evReg;exact Nice.evOps (κ:=λM fr st logs=>Abs.brn (jp0 (s.nx+8*ops.length) logs) (Abs.brn (!draw || jvw ops logs) (κ M ⟨s.n,fr,st,s.nx+8*ops.length,s.sh⟩) none) none) (λ_ _ _=>Nice.brn (Nice.brn (hκ _) (Nice.const _)) (Nice.const _)) _ _ _ _ _ _
theorem Nice.again{f:FuncId}{p:Xf}{mask:Nat}{s:St} :Nice C λM=>Abs.again M f p mask s:=by
 unfold Abs.again;dsimp only;split
 .split
  .exact Nice.node _
  .exact Nice.const _
 .exact Nice.const _
theorem Nice.evC{f:FuncId} :∀(c:Code)(p:Xf)(s:St)(κ:(Node->Xe)->Ex->St->Xe),(∀e s,Nice C λM=>κ M e s)->Nice C λM=>Abs.evC C M f c p s (κ M)
 |.skip,_,s,κ,h=>h _ _
 |.region _ ops draw,_,s,κ,h=>Nice.evReg (κ:=λM=>κ M .normal) λs=>h _ s
 |.seq a b,p,s,κ,h=>Nice.evC a _ s (λM e s'=>match e with|.normal=>Abs.evC C M f b (p++[1]) s' (κ M)|e=>κ M e s') λe s'=>by
  cases e
  .exact Nice.evC b _ s' κ h
  .exact h _ _
  .exact h _ _
 |.cond c x y,p,s,κ,h=>by
  simp only[Abs.evC];split
  .exact (Nice.const _).bind λt=>Nice.brn (Nice.evC x _ s κ h) (Nice.evC y _ s κ h)
  .rename_i n neg _;refine Nice.brn (Nice.bth (Nice.evC x _ s κ h) (Nice.evC y _ s κ h)) ?_;cases neg
   .exact Nice.evC y _ s κ h
   .exact Nice.evC x _ s κ h
  .exact Nice.const _
 |.block id b,p,s,κ,h=>Nice.evC b _ s (λM e s'=>match e with|.exit id'=>if Nat.beq id' id then κ M .normal s' else κ M (.exit id') s'|e=>κ M e s') λe s'=>by
  cases e
  .exact h _ _
  .dsimp only;split
   .exact h _ _
   .exact h _ _
  .exact h _ _
 |.loop _,p,s,_,_=>Nice.again
 |.exit id,_,s,κ,h=>h _ _
 |.ret,_,s,κ,h=>h _ _
 |.label _,_,s,κ,h=>h _ _
 |.rangeFunc _ _ _ _,_,_,_,_=>Nice.const _
 |.scope _,_,_,_,_=>Nice.const _
 |.goto _,_,_,_,_=>Nice.const _
 |.refuse _,_,_,_,_=>Nice.const _
theorem Nice.evAt{f:FuncId} :∀(c:Code)(r p:Xf)(s:St)(κ:(Node->Xe)->Ex->St->Xe),(∀e s,Nice C λM=>κ M e s)->Nice C λM=>Abs.evAt C M f c r p s (κ M):=by
 intro c;induction c with
 |loop b ih=>
  intro r p s κ h;have hk:∀(e:Ex)(s':St),Nice C λM=>(match e with|.normal=>Abs.again M f p (C.kp f p) s'|e=>κ M e s'):=λe s'=>by
   cases e
   .exact Nice.again
   .exact h _ _
   .exact h _ _
  rcases r with _|⟨_|q,r⟩
  .exact Nice.evC b _ s (λM e s'=>match e with|.normal=>Abs.again M f p (C.kp f p) s'|e=>κ M e s') hk
  .exact ih r _ s (λM e s'=>match e with|.normal=>Abs.again M f p (C.kp f p) s'|e=>κ M e s') hk
  .exact Nice.const _
 |seq a b iha ihb=>
  intro r p s κ h;have hk:∀(e:Ex)(s':St),Nice C λM=>(match e with|.normal=>Abs.evC C M f b (p++[1]) s' (κ M)|e=>κ M e s'):=λe s'=>by
   cases e
   .exact Nice.evC b _ s' κ h
   .exact h _ _
   .exact h _ _
  rcases r with _|⟨_|_|q,r⟩
  .exact Nice.const _
  .exact iha r _ s (λM e s'=>match e with|.normal=>Abs.evC C M f b (p++[1]) s' (κ M)|e=>κ M e s') hk
  .exact ihb r _ s κ h
  .exact Nice.const _
 |cond c x y ihx ihy=>
  intro r p s κ h;rcases r with _|⟨_|_|q,r⟩
  .exact Nice.const _
  .exact ihx r _ s κ h
  .exact ihy r _ s κ h
  .exact Nice.const _
 |block id b ih=>
  intro r p s κ h;have hk:∀(e:Ex)(s':St),Nice C λM=>(match e with|.exit id'=>if Nat.beq id' id then κ M .normal s' else κ M (.exit id') s'|e=>κ M e s'):=λe s'=>by
   cases e
   .exact h _ _
   .dsimp only;split
    .exact h _ _
    .exact h _ _
   .exact h _ _
  rcases r with _|⟨_|q,r⟩
  .exact Nice.const _
  .exact ih r _ s (λM e s'=>match e with|.exit id'=>if Nat.beq id' id then κ M .normal s' else κ M (.exit id') s'|e=>κ M e s') hk
  .exact Nice.const _
 |_=>intro r p s κ h;exact Nice.const _
theorem Nice.askAll{C':Cfg} :∀(qs:List (FuncId×Xd)),Nice C λM=>Abs.askAll C' M qs
 | []=>Nice.const _
 |(f,as)::l=>by
  simp only[Abs.askAll];split
  .exact (Nice.node _).bind λ_=>(Nice.askAll l).bind λ_=>Nice.const _
  .exact Nice.const _
theorem Nice.extRun{C':Cfg}(x:ExtV)(args:Xj)(objs:List Obj):Nice C λM=>Abs.extRun C' M x args objs:=
 (Nice.const _).bind λ_=>(Nice.askAll _).bind λ_=>Nice.const _
theorem Nice.step(x:Node):Nice C λM=>Abs.step C M x:=by
 cases x with
 |call f args=>
  simp only[Abs.step];split
  .exact Nice.const _
  .split
   .exact Nice.const _
   .split
    .split
     .exact Nice.brn (Nice.evC _ _ _ (λ_=>QG C _ _) λe s=>Nice.const _) (Nice.const _)
     .exact Nice.const _
    .exact Nice.const _
 |callv f args objs=>
  simp only[Abs.step];split
  .exact Nice.extRun _ _ _
  .split
   .split
    .exact Nice.brn (Nice.evC _ _ _ (λ_=>QG C _ _) λe s=>Nice.const _) (Nice.const _)
    .exact Nice.const _
   .exact Nice.const _
 |head f p fr objs sh=>
  simp only[Abs.step];split
  .split
   .exact Nice.evAt _ _ _ _ (λ_=>QG C _ _) λe s=>Nice.const _
   .exact Nice.const _
  .exact Nice.const _
theorem jbs:∀n,LeM (Mn C n) (Mn C (n+1))
 |0,x,r,h=>by simp[Mn]at h
 |n+1,x,r,h=>(Nice.step x).mono _ _ _ (jbs n) h
theorem jEk{n:Nat}{x:Node}{r:Out}(h:Mn C n x=some r):MM C x=some r:=by
 unfold MM;have hx:∃r n,Mn C n x=some r:=⟨r,n,h⟩;rw[dif_pos hx];obtain⟨n',h'⟩:=hx.choose_spec;have h1:=jk7 jbs (Nat.le_max_left n n') x r h;have h2:=jk7 jbs (Nat.le_max_right n n') x _ h';rw[h1]at h2;exact h2.symm
theorem juu{x:Node}{r:Out}(h:MM C x=some r):∃n,Mn C n x=some r:=(Nice.node x).fin jbs r h
theorem jIb(n:Nat):LeM (Mn C n) (MM C):=λ_ _ h=>jEk h
theorem jpf(x:Node):MM C x=step C (MM C) x:=by
 apply Option.ext;intro r;constructor
 .intro h;obtain⟨n,hn⟩:=juu h;cases n with
  |zero=>simp[Mn]at hn
  |succ n=>exact(Nice.step x).mono _ _ _ (jIb n) hn
 .intro h;obtain⟨n,hn⟩:=(Nice.step x).fin jbs r h;exact jEk (n:=n+1) hn
end
end
noncomputable section
def Yi{α:Type}(d:α)(x:Nat):List (Nat×α)->α
 | []=>d
 |(y,a)::l=>bif Nat.beq x y then a else Yi d x l
def jx3(p:Xf):List (Xf×Nat)->Nat
 | []=>0
 |(q,m)::l=>bif eqP p q then m else jx3 p l
def jLT(tab:List (Nat×List (Xf×Nat)))(f:FuncId)(p:Xf):Nat:=jx3 p (Yi [] f tab)
theorem jB6{C:Cfg}{f:FuncId}{fn:Func}{c:Code}{args:Xd}(h1:C.ext f=none)(h2:C.pureF f=true)(h3:C.P.funcs[f]? = some fn)(h4:fn.body=some c)(h5:Nat.ble args.length fn.ntmps=true) :
  MM C (.call f args)=evC C (MM C) f c [] (jaJ fn args) (QG C f fn):=by
 rw[jpf];simp only[step,h1,h2,h3,h4,h5,brn,qi]
theorem jFa{C:Cfg}{f:FuncId}{x:Xd->Xe}{args:Xd}(h1:C.ext f=some x):MM C (.call f args)=x args:=by
 rw[jpf];simp only[step,h1]
theorem jxT{C:Cfg}{f:FuncId}{fn:Func}{c:Code}{args:Xj}{objs:List Obj}(h1:C.extv f=none)(h3:C.P.funcs[f]? = some fn)(h4:fn.body=some c)(h5:Nat.ble args.length fn.ntmps=true) :
  MM C (.callv f args objs)=evC C (MM C) f c [] (jdX fn args objs) (QG C f fn):=by
 rw[jpf];simp only[step,h1,h3,h4,h5,brn,qi]
theorem jB7{C:Cfg}{f:FuncId}{args:Xj}{objs:List Obj}{x:ExtV}(h1:C.extv f=some x):MM C (.callv f args objs)=extRun C (MM C) x args objs:=by
 rw[jpf];simp only[step,h1]
theorem jB8{C:Cfg}{f:FuncId}{fn:Func}{c:Code}{p:Xf}{fr:Xj}{objs:List Obj}{sh:Option Xf}(h3:C.P.funcs[f]? = some fn)(h4:fn.body=some c) :
  MM C (.head f p fr objs sh)=evAt C (MM C) f c p [] (St.of fn.ntmps fr objs sh) (QG C f fn):=by
 rw[jpf];simp only[step,h3,h4]
end
end Go.Proofs.YthlhadhipnokfaaGreatDoor.Abs
