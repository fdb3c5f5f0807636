/- Pd -/
import Derived.Test.YtcmflcpoohgmmaaGreatDoorPa
import Derived.Test.YtcmflcpoohgmmaaGreatDoorPb
namespace Go.Proofs.YtcmflcpoohgmmaaGreatDoor
open Go Go.RowKit Go.Proofs.YtcmflcpoohgmmaaGreatDoor.Abs
set_option linter.unusedSimpArgs false
set_option linter.unusedVariables false
set_option maxHeartbeats 1000000
theorem JQ(s:Xb):ke (sv s)=true:=rfl
theorem jck(b:Bool):ke (vb b)=true:=rfl
theorem JR(n:Int):ke (vi n)=true:=rfl
theorem Qi(k:Nat)(xs:Xc):KH (.sl k xs)=true:=rfl
theorem jmm(ts:Xg)(hl:ts.length<=1048576)(ih:∀t∈ts,jjw (tm t)=some (.top,[sv t.name,.sl 66 (t.args.map jq)])):Yg (jW ts)=some (.top,[.sl 66 (ts.map jq)]):=by
 have key:=(upto (P:=λi=>YP (jW ts) (vi i) (part jq [sv [],.sl 2 []] ts i)=some (.top,[.sl 66 (ts.map jq)])) (n:=ts.length) ?_ ?_ 0 (Nat.zero_le _))
 .rw [jsb];have hm:=ZK (b:=40) (n:=ts.length) (by omega) hl;simp only[Int.natCast_zero,<-ZL]at key;simp only[jo,hm,key]
 .rw [jgQ,QA];simp only[jo]
 .intro i hi ih';have h1:=Ji (f:=jq) (z:=[sv [],.sl 2 []]) (Nat.le_of_lt hi);have h2:pIx (part jq [sv [],.sl 2 []] ts i).length (vi i)=some i:=YD (by omega);have h4:=QC (f:=jq) (z:=[sv [],.sl 2 []]) hi;rw[kU]at h4;have h5:=js hi (Nat.le_trans hl (by decide));have e1:=ih ts[i] (List.getElem_mem _);rw[jgQ];simp only[jo,hi,Int.ofNat_lt,jb hi,jp,e1,List.getElem?_cons_zero,JQ,h2,QB hi,jj0,h4,h5,ih']
theorem jo8(t:T)(ht:Yg (jW t.args)=some (.top,[.sl 66 (t.args.map jq)])):jjw (tm t)=some (.top,[sv t.name,.sl 66 (t.args.map jq)]):=by
 rw[jtS];simp only[jo,ht]
theorem jqH(t:T):tsz t<=1048576->Yg (jW t.args)=some (.top,[.sl 66 (t.args.map jq)]):=by
 refine T.ind (p:=λt=>tsz t<=1048576->Yg (jW t.args)=some (.top,[.sl 66 (t.args.map jq)])) ?_ t;intro t ih h;rw[kC]at h;exact jmm t.args (by omega) λu hu=>jo8 u (ih u hu (by have:=yS hu;omega))
theorem jo7(t:T)(h:tsz t<=1048576):jmH (sv t.name) (jW t.args)=some (.top,[sv t.name,.sl 66 (t.args.map jq)]):=by
 have e1:=jqH t h;rw[jtR];simp only[jo,e1]
theorem jou(n:Int):YC (.sl 1 [[vy n]])=some (sv [UInt8.ofNat n.toNat]):=rfl
theorem jiS(x:Int):jz .rem false (vi x) (vi 10)=some (vi (x.tmod 10)):=rfl
theorem jd6(x:Int):jz .rem false (vi x) (vi 3)=some (vi (x.tmod 3)):=rfl
theorem jiR(x:Int):jz .quo false (vi x) (vi 10)=ck (x.tdiv 10):=rfl
theorem jqd(k:IntKind)(a:Int):jhf .u8 (.val (.int k a))=some (vy (IntKind.u8.wrap a)):=rfl
theorem jsF(n:Int):kJ (vy n)=true:=rfl
theorem jdC:∀(k:Nat)(out:Xb),out.length+k<=1000000000-> ∃s,jjG (vi (k:Nat)) (sv out)=some (sv s,[]):=by
 intro k;induction k using Nat.strongRecOn with
 |ind k ih=>
  intro out hl;by_cases hk:(0:Int)<(k:Nat)
  .have h1:((k:Nat):Int).tdiv 10=((k / 10:Nat):Int):=by rw[Int.tdiv_eq_ediv_of_nonneg (by omega)];rfl
   have h2:((k:Nat):Int).tmod 10=((k % 10:Nat):Int):=by rw[Int.tmod_eq_emod_of_nonneg (by omega)];rfl
   have c1:ck ((k / 10:Nat):Int)=some (vi ((k / 10:Nat):Int)):=k9 (by omega) (by omega);have c2:ck (48+((k % 10:Nat):Int))=some (vi (48+((k % 10:Nat):Int))):=k9 (by omega) (by omega);generalize hc:UInt8.ofNat (IntKind.u8.wrap (48+((k % 10:Nat):Int))).toNat=c;have e1:jz .add false (sv [c]) (sv out)=some (sv ([c]++out)):=by rw[ZJ,if_pos (by simp;omega)]
   obtain⟨s,hs⟩:=ih (k / 10) (by omega) ([c]++out) (by simp;omega)
   refine⟨s,?_⟩;rw[jre];simp only[jo,hk,jiS,h2,c2,jqd,jsF,jou,hc,e1,jiR,h1,c1,hs]
  .have e1:jz .add false (sv [109]) (sv out)=some (sv ([109]++out)):=by rw[ZJ,if_pos (by simp;omega)]
   refine⟨[109]++out,?_⟩;rw[jre];simp only[jo,hk,e1]
theorem jaW(k:Nat)(h:k<=1000000000):∃s,G 49 [vi (k:Nat)]=some (sv s,[]):=by
 rw[g49];by_cases hk:((k:Nat):Int)<=0
 .exact ⟨[109,48],by simp only[jo,hk]⟩
 .obtain ⟨s,hs⟩:=jdC k [] (by simpa using h);exact⟨s,by simp only[jo,hk,hs]⟩
mutual
def mkN:T->Nat
 |.mk _ us=>1+JC us
def JC:Xg->Nat
 | []=>0
 |t::ts=>mkN t+JC ts
end
theorem jiL(t:T):mkN t=1+JC t.args:=by cases t;simp[mkN,T.args]
mutual
theorem jp2:∀t:T,mkN t<=1+tsz t
 |.mk n us=>by
  have:=jfn us;simp only[mkN,tsz];omega
theorem jfn:∀ts:Xg,JC ts<=ts.length+qy ts
 | []=>by simp[JC]
 |t::ts=>by
  have h1:=jp2 t;have h2:=jfn ts;simp only[JC,qy,List.length_cons];omega
end
def HL:Nat->Xg->Nat->Prop
 |k,[],k'=>k'=k
 |k,u::us,k'=>∃k1:Nat,G 49 [vi (k:Nat)]=some (sv u.name,[])/\G 91 [jW u.args,vi ((k+1:Nat):Int)]=some (vi (k1:Nat),[])/\k<k1/\HL k1 us k'
theorem jmL:∀(r:Xg)(k k':Nat),HL k r k'->k<=k'
 | [],k,k',h=>by have h:k'=k:=h;omega
 |u::r,k,k',⟨k1,_,_,g3,g4⟩=>by have:=jmL r k1 k' g4;omega
theorem jdU:∀(r:Xg)(M:Xg)(k k':Nat),k'<=100000000->M.length+r.length<=9223372036854775807->k<=k'->HL k r k'->jjQ (jW (M++r)) (vi (k:Nat)) (vi (M.length:Nat))=some (vi (k':Nat),[])
 | [],M,k,k',_,_,_,h=>by
  have h:k'=k:=h;subst h;rw[jrv,List.append_nil];simp only[jo]
 |u::r,M,k,k',hk,hl,hkk,⟨k1,g1,g2,g3,g4⟩=>by
  have h1:((M.length:Nat):Int)<(((M++u::r).length:Nat):Int):=jcC M r u;have h2:jk 2 (jW (M++u::r)) (vi (M.length:Nat))=some (.elt (jq u) 0):=Zh (f:=jq) (k:=2) M r u;have hle:k1<=k':=jmL r k1 k' g4;have e1:=js (i:=k) (n:=k+1) (by omega) (by omega);have h5:=js (i:=M.length) (n:=(M++u::r).length) (by simp) (by simp;simp at hl;omega);have ih:=jdU r (M++[u]) k1 k' hk (by simp at hl⊢;omega) hle g4;have q:(M++[u]).length=M.length+1:=by simp
  rw[q,List.append_assoc,List.singleton_append]at ih;have ad:kQ (.elt (jq u) 0) 1=some (.elt (jq u) 1):=by rw[ko]
  have ad0:kQ (.elt (jq u) 0) 0=some (.elt (jq u) 0):=by rw[ko]
  have lp:jZ (.elt (jq u) 1)=some (jW u.args):=by rw[kU];rfl
  have lp0:jZ (.elt (jq u) 0)=some (sv u.name):=by rw[kU];rfl
  have nk:¬((k1:Nat):Int)<0:=by omega
  rw[jrv];simp only[jo,h1,h2,ad,ad0,lp,lp0,g1,e1,g2,nk,h5,ih]
theorem jpN(us:Xg)(k k':Nat)(hk:k'<=100000000)(hl:us.length<=9223372036854775807)(h:HL k us k'):G 91 [jW us,vi (k:Nat)]=some (vi (k':Nat),[]):=by
 have:=jdU us [] k k' hk (by simpa using hl) (jmL us k k' h) h;rw[g91];exact this
theorem Ya:∀(r:Xg)(M:Xc)(k:Nat),k+JC r<=100000000->M.length+r.length<=9223372036854775807->
  (∀t∈r,∀k:Nat,k+JC t.args<=100000000-> ∃us:Xg,jdH (vi (k:Nat)) (t.args.map jq)=some (.top,[vi ((k+JC t.args:Nat):Int),.sl 66 (us.map jq)])/\G 91 [jW us,vi (k:Nat)]=some (vi ((k+JC t.args:Nat):Int),[]))->
  ∃us:Xg,us.length=r.length/\HL k us (k+JC r)/\jbr (vi (k:Nat)) (vi (M.length:Nat)) (M++r.map jq)=some (.top,[vi ((k+JC r:Nat):Int),.sl 66 (M++us.map jq)])
 | [],M,k,hk,hl,_=>by
  refine⟨[],rfl,rfl,?_⟩;rw[jkr,List.map_nil,List.append_nil];simp only[jo,JC,Nat.add_zero]
 |t::r,M,k,hk,hl,ht=>by
  simp only[JC,jiL,List.length_cons]at hk hl;have h1:((M.length:Nat):Int)<(((M++jq t::r.map jq).length:Nat):Int):=by simp;omega
  have h2:=qU M (r.map jq) (jq t);have h3:=yo M (r.map jq) (jq t);obtain⟨s,e0⟩:=jaW k (by omega);have h4:=yp M (r.map jq) (jq t) [sv s,jW t.args];have h5:=qU M (r.map jq) [sv s,jW t.args];have h6:=yo M (r.map jq) [sv s,jW t.args];have e1:=js (i:=k) (n:=k+1) (by omega) (by omega);have e2:=js (i:=M.length) (n:=M.length+1) (by omega) (by omega);obtain⟨vs,e3,e4⟩:=ht t (by simp) (k+1) (by omega);have h7:=yp M (r.map jq) [sv s,jW t.args] [sv s,jW vs];obtain⟨us,l1,l2,ih⟩:=Ya r (M++[[sv s,jW vs]]) (k+1+JC t.args) (by omega) (by simp;omega) λu hu=>ht u (by simp[hu]);have q:(M++[[sv s,jW vs]]).length=M.length+1:=by simp
  have q2:M++[[sv s,jW vs]]++r.map jq=M++[sv s,jW vs]::r.map jq:=by simp
  have q3:M++[[sv s,jW vs]]++us.map jq=M++(T.mk s vs::us).map jq:=by rw[List.map_cons,kU (.mk s vs),List.append_assoc];rfl
  have e4:G 91 [jW vs,vi ((k+1:Nat):Int)]=some (vi ((k+1+JC t.args:Nat):Int),[]):=e4;have hHL:HL k (T.mk s vs::us) (k+(1+JC t.args+JC r)):=⟨k+1+JC t.args,e0,e4,by omega,by rw[show k+(1+JC t.args+JC r)=k+1+JC t.args+JC r by omega];exact l2⟩;rw[q,q2,q3,show k+1+JC t.args+JC r=k+(1+JC t.args+JC r) by omega]at ih;have o1:jJ (jq t) 0 [sv s]=[sv s,jW t.args]:=by rw[kU];rfl
  have o2:jJ [sv s,jW t.args] 1 [jW vs]=[sv s,jW vs]:=rfl;have tv:Zw (jq t) 0 1=true:=by rw[kU];rfl
  refine⟨T.mk s vs::us,by simp[l1],by rw[JC,jiL];exact hHL,?_⟩
  rw[jkr,List.map_cons,JC,jiL];simp only[jo,h1,e0,h2,h3,JQ,tv,o1,h4,h5,h6,Qi,e1,e3,List.getElem?_cons_zero,o2,h7,e2,ih]
theorem jn6(t:T):KC t-> ∀k:Nat,k+JC t.args<=100000000-> ∃us:Xg,jdH (vi (k:Nat)) (t.args.map jq)=some (.top,[vi ((k+JC t.args:Nat):Int),.sl 66 (us.map jq)])/\G 91 [jW us,vi (k:Nat)]=some (vi ((k+JC t.args:Nat):Int),[]):=by
 refine T.ind (p:=λt=>KC t-> ∀k:Nat,k+JC t.args<=100000000-> ∃us:Xg,jdH (vi (k:Nat)) (t.args.map jq)=some (.top,[vi ((k+JC t.args:Nat):Int),.sl 66 (us.map jq)])/\G 91 [jW us,vi (k:Nat)]=some (vi ((k+JC t.args:Nat):Int),[])) ?_ t;intro t ih hw k hk;obtain⟨_,w2,w3⟩:=(kS t).1 hw;have w3:=(kz _).1 w3;obtain⟨us,l1,l2,h⟩:=Ya t.args [] k hk (by simpa using w2) λu hu=>ih u hu (w3 u hu);refine⟨us,?_,jpN us k _ hk (by rw[l1];exact w2) l2⟩;rw[jtM];exact h
theorem jna(a b c d e f:A):jJ [a,b,c] 0 [d,e,f]=[d,e,f]:=rfl
theorem jm9(a d:A):jJ [a] 0 [d]=[d]:=rfl
theorem jqI(l:Lt)(h:tsz l.2<=1048576):jmG (ltm l)=some (.top,[vb l.1,sv l.2.name,.sl 66 (l.2.args.map jq)]):=by
 have e1:=jo7 l.2 h;rw[jtO];simp only[jo,e1,List.getElem?_cons_zero]
theorem jo6(c:jP)(hl:c.length<=1048576)(hs:∀l∈c,tsz l.2<=1048576):jmD (.sl 3 (c.map jD))=some (.top,[.sl 67 (c.map jD)]):=by
 have key:=(upto (P:=λi=>jbq (.sl 3 (c.map jD)) (vi i) (part jD [vb false,sv [],.sl 2 []] c i)=some (.top,[.sl 67 (c.map jD)])) (n:=c.length) ?_ ?_ 0 (Nat.zero_le _))
 .rw [jtK];have hm:=ZK (b:=48) (n:=c.length) (by omega) hl;simp only[Int.natCast_zero,<-ZL]at key;simp only[jo,hm,key]
 .rw [jkq,QA];simp only[jo]
 .intro i hi ih';have h1:=Ji (f:=jD) (z:=[vb false,sv [],.sl 2 []]) (Nat.le_of_lt hi);have h2:pIx (part jD [vb false,sv [],.sl 2 []] c i).length (vi i)=some i:=YD (by omega);have h4:=QC (f:=jD) (z:=[vb false,sv [],.sl 2 []]) hi;have h5:=js hi (Nat.le_trans hl (by decide));have e1:=jqI c[i] (hs _ (List.getElem_mem _));rw[jkq];simp only[jo,hi,Int.ofNat_lt,jb hi,jag,e1,List.getElem?_cons_zero,List.getElem?_cons_succ,JQ,jck,h2,QB hi,jna,h4,h5,ih']
theorem jjl(c:jP)(hl:c.length<=1048576)(hs:∀l∈c,tsz l.2<=1048576):jmz (cm c)=some (.top,[.sl 67 (c.map jD)]):=by
 have e1:=jo6 c hl hs;rw[jtD];simp only[jo,e1]
theorem jhP(l:List jP)(hl:l.length<=1048576)(hs:∀c∈l,csz c<=1048576):jk0 (cls l)=some (.top,[.sl 65 (l.map ze)]):=by
 have key:=(upto (P:=λi=>jeO (cls l) (vi i) (part ze [.sl 3 []] l i)=some (.top,[.sl 65 (l.map ze)])) (n:=l.length) ?_ ?_ 0 (Nat.zero_le _))
 .rw [jvD];have hm:=ZK (b:=24) (n:=l.length) (by omega) hl;simp only[Int.natCast_zero,<-ZL]at key;simp only[jo,hm,key]
 .rw [jnX,QA];simp only[jo]
 .intro i hi ih';have h1:=Ji (f:=ze) (z:=[.sl 3 []]) (Nat.le_of_lt hi);have h2:pIx (part ze [.sl 3 []] l i).length (vi i)=some i:=YD (by omega);have h4:=QC (f:=ze) (z:=[.sl 3 []]) hi;have h5:=js hi (Nat.le_trans hl (by decide));have hz:=hs _ (List.getElem_mem hi);have e1:=jjl l[i] (by unfold csz at hz;omega) λx hx=>by have:=jfg hx;unfold csz at hz;omega
  rw[jnX];simp only[jo,hi,Int.ofNat_lt,jb hi,JZ,e1,h2,QB hi,jm9,h4,h5,ih']
def Yb:jP->Nat
 | []=>0
 |l::c=>2+JC l.2.args+Yb c
theorem jiK:∀c:jP,Yb c<=2*c.length+lsz c
 | []=>by simp[Yb]
 |l::c=>by
  have h1:=jiK c;have h2:=jfn l.2.args;have h3:=kC l.2;simp only[Yb,lsz,List.length_cons];omega
def yE:List jP->Nat
 | []=>0
 |c::l=>Yb c+yE l
theorem jfm:∀l:List jP,yE l<=2*Q4 l
 | []=>by simp[yE]
 |c::l=>by
  have h1:=jfm l;have h2:=jiK c;simp only[yE,Q4,csz];omega
def mkS(s:Stp):Nat:=1+s.par.length+s.whr.length+Yb s.cls
def qu:List Stp->Nat
 | []=>0
 |s::l=>mkS s+qu l
def HC:Nat->jP->Nat->Prop
 |k,[],k'=>k'=k
 |k,l::c,k'=>∃k1:Nat,l.1=decide (((k % 3:Nat):Int)=0)/\G 49 [vi ((k+1:Nat):Int)]=some (sv l.2.name,[])/\G 91 [jW l.2.args,vi ((k+2:Nat):Int)]=some (vi (k1:Nat),[])/\k<k1/\HC k1 c k'
theorem jmK:∀(r:jP)(k k':Nat),HC k r k'->k<=k'
 | [],k,k',h=>by have h:k'=k:=h;omega
 |u::r,k,k',⟨k1,_,_,_,g3,g4⟩=>by have:=jmK r k1 k' g4;omega
theorem Z6:∀(r M:jP)(k k':Nat),k'<=100000000->M.length+r.length<=9223372036854775807->k<=k'->HC k r k'->jjN (.sl 3 ((M++r).map jD)) (vi (k:Nat)) (vi (M.length:Nat))=some (vi (k':Nat),[])
 | [],M,k,k',_,_,_,h=>by
  have h:k'=k:=h;subst h;rw[jro,List.append_nil];simp only[jo]
 |l::r,M,k,k',hk,hl,hkk,⟨k1,g0,g1,g2,g3,g4⟩=>by
  have h1:((M.length:Nat):Int)<(((M++l::r).length:Nat):Int):=jcC M r l;have h2:jk 3 (.sl 3 ((M++l::r).map jD)) (vi (M.length:Nat))=some (.elt (jD l) 0):=Zh (f:=jD) (k:=3) M r l;have hle:k1<=k':=jmK r k1 k' g4;have hm:((k:Nat):Int).tmod 3=((k % 3:Nat):Int):=by rw[Int.tmod_eq_emod_of_nonneg (by omega)];rfl
  have e1:=js (i:=k) (n:=k+1) (by omega) (by omega);have e1':=js (i:=k+1) (n:=k+2) (by omega) (by omega);have h5:=js (i:=M.length) (n:=(M++l::r).length) (by simp) (by simp;simp at hl;omega);have ih:=Z6 r (M++[l]) k1 k' hk (by simp at hl⊢;omega) hle g4;have q:(M++[l]).length=M.length+1:=by simp
  rw[q,List.append_assoc,List.singleton_append]at ih;have a0:kQ (.elt (jD l) 0) 0=some (.elt (jD l) 0):=by rw[ko]
  have a1:kQ (.elt (jD l) 0) 1=some (.elt (jD l) 1):=by rw[ko]
  have a2:kQ (.elt (jD l) 1) 0=some (.elt (jD l) 1):=by rw[ko]
  have a3:kQ (.elt (jD l) 1) 1=some (.elt (jD l) 2):=by rw[ko]
  have p0:jZ (.elt (jD l) 0)=some (vb l.1):=rfl;have p1:jZ (.elt (jD l) 1)=some (sv l.2.name):=rfl;have p2:jZ (.elt (jD l) 2)=some (jW l.2.args):=rfl;have nk:¬((k1:Nat):Int)<0:=by omega
  rw[jro];generalize hb:decide (((k % 3:Nat):Int)=0)=b at g0;cases b<;>simp only[jo,h1,h2,a0,a1,a2,a3,p0,p1,p2,g0,jd6,hm,hb,g1,e1,e1',g2,nk,h5,ih]
theorem jgx(c:jP)(k k':Nat)(hk:k'<=100000000)(hl:c.length<=9223372036854775807)(h:HC k c k'):G 72 [.sl 3 (c.map jD),vi (k:Nat)]=some (vi (k':Nat),[]):=by
 have:=Z6 c [] k k' hk (by simpa using hl) (jmK c k k' h) h;rw[g72];exact this
theorem Jh:∀(r:jP)(M:Xc)(k:Nat),k+Yb r<=100000000->M.length+r.length<=9223372036854775807->(∀l∈r,KC l.2)->
  ∃c:jP,c.length=r.length/\HC k c (k+Yb r)/\jbo (vi (k:Nat)) (vi (M.length:Nat)) (M++r.map jD)=some (.top,[vi ((k+Yb r:Nat):Int),.sl 67 (M++c.map jD)])
 | [],M,k,hk,hl,_=>by
  refine⟨[],rfl,rfl,?_⟩;rw[jko,List.map_nil,List.append_nil];simp only[jo,Yb,Nat.add_zero]
 |l::r,M,k,hk,hl,ht=>by
  simp only[Yb,List.length_cons]at hk hl;have h1:((M.length:Nat):Int)<(((M++jD l::r.map jD).length:Nat):Int):=by simp;omega
  have hm:((k:Nat):Int).tmod 3=((k % 3:Nat):Int):=by rw[Int.tmod_eq_emod_of_nonneg (by omega)];rfl
  generalize hb:decide (((k % 3:Nat):Int)=0)=b;have h2:=qU M (r.map jD) (jD l);have h3:=yo M (r.map jD) (jD l);obtain⟨s,e0⟩:=jaW (k+1) (by omega);have s1:=yp M (r.map jD) (jD l) [vb b,sv l.2.name,jW l.2.args];have i1:=qU M (r.map jD) [vb b,sv l.2.name,jW l.2.args];have g1:=yo M (r.map jD) [vb b,sv l.2.name,jW l.2.args];have s2:=yp M (r.map jD) [vb b,sv l.2.name,jW l.2.args] [vb b,sv s,jW l.2.args];have i2:=qU M (r.map jD) [vb b,sv s,jW l.2.args];have g2:=yo M (r.map jD) [vb b,sv s,jW l.2.args];obtain⟨vs,e3,e4⟩:=jn6 l.2 (ht l (by simp)) (k+2) (by omega);have s3:=yp M (r.map jD) [vb b,sv s,jW l.2.args] [vb b,sv s,jW vs];have e1:=js (i:=k) (n:=k+1) (by omega) (by omega);have e1':=js (i:=k+1) (n:=k+2) (by omega) (by omega);have e2:=js (i:=M.length) (n:=M.length+1) (by omega) (by omega);obtain⟨c,l1,l2,ih⟩:=Jh r (M++[[vb b,sv s,jW vs]]) (k+2+JC l.2.args) (by omega) (by simp;omega) λu hu=>ht u (by simp[hu]);have q:(M++[[vb b,sv s,jW vs]]).length=M.length+1:=by simp
  have q2:M++[[vb b,sv s,jW vs]]++r.map jD=M++[vb b,sv s,jW vs]::r.map jD:=by simp
  have q3:M++[[vb b,sv s,jW vs]]++c.map jD=M++(((b,T.mk s vs):Lt)::c).map jD:=by rw[List.map_cons,List.append_assoc];rfl
  rw[q,q2,q3,show k+2+JC l.2.args+Yb r=k+(2+JC l.2.args+Yb r) by omega]at ih;have o1:jJ (jD l) 0 [vb b]=[vb b,sv l.2.name,jW l.2.args]:=rfl;have o2:jJ [vb b,sv l.2.name,jW l.2.args] 1 [sv s]=[vb b,sv s,jW l.2.args]:=rfl;have o3:jJ [vb b,sv s,jW l.2.args] 2 [jW vs]=[vb b,sv s,jW vs]:=rfl;have t1:Zw (jD l) 0 1=true:=rfl;have t2:Zw [vb b,sv l.2.name,jW l.2.args] 1 1=true:=rfl;refine⟨(b,T.mk s vs)::c,by simp[l1],?_,?_⟩
  .rw [Yb];exact⟨k+2+JC l.2.args,hb.symm,e0,e4,by omega,by rw[show k+(2+JC l.2.args+Yb r)=k+2+JC l.2.args+Yb r by omega];exact l2⟩
  .rw [jko,List.map_cons,Yb];simp only[jo,h1,jd6,hm,hb,h2,h3,jck,t1,o1,e1,e0,s1,i1,JQ,g1,t2,o2,e1',s2,i2,g2,Qi,e3,List.getElem?_cons_zero,o3,s3,e2,ih]
theorem Qr(c:jP)(k:Nat)(hk:k+Yb c<=100000000)(hw:cwf c):∃d:jP,jju (vi (k:Nat)) (c.map jD)=some (.top,[vi ((k+Yb c:Nat):Int),.sl 67 (d.map jD)])/\G 72 [.sl 3 (d.map jD),vi (k:Nat)]=some (vi ((k+Yb c:Nat):Int),[]):=by
 obtain⟨d,l1,l2,h⟩:=Jh c [] k hk (by simpa using hw.2) hw.1;refine⟨d,?_,jgx d k _ hk (by rw[l1];exact hw.2) l2⟩;rw[jtH];exact h
def HCs:Nat->List jP->Nat->Prop
 |k,[],k'=>k'=k
 |k,c::l,k'=>∃k1:Nat,G 72 [.sl 3 (c.map jD),vi (k:Nat)]=some (vi (k1:Nat),[])/\k<=k1/\HCs k1 l k'
theorem jh2:∀(r:List jP)(k k':Nat),HCs k r k'->k<=k'
 | [],k,k',h=>by have h:k'=k:=h;omega
 |u::r,k,k',⟨k1,_,g3,g4⟩=>by have:=jh2 r k1 k' g4;omega
theorem JP:∀(r M:List jP)(k k':Nat),k'<=100000000->M.length+r.length<=9223372036854775807->k<=k'->HCs k r k'->jjH (cls (M++r)) (vi (k:Nat)) (vi (M.length:Nat))=some (vi (k':Nat),[])
 | [],M,k,k',_,_,_,h=>by
  have h:k'=k:=h;subst h;rw[jrf,List.append_nil];simp only[jo]
 |c::r,M,k,k',hk,hl,hkk,⟨k1,g2,g3,g4⟩=>by
  have h1:((M.length:Nat):Int)<(((M++c::r).length:Nat):Int):=jcC M r c;have h2:jk 1 (cls (M++c::r)) (vi (M.length:Nat))=some (.elt (ze c) 0):=Zh (f:=ze) (k:=1) M r c;have hle:k1<=k':=jh2 r k1 k' g4;have h5:=js (i:=M.length) (n:=(M++c::r).length) (by simp) (by simp;simp at hl;omega);have ih:=JP r (M++[c]) k1 k' hk (by simp at hl⊢;omega) hle g4;have q:(M++[c]).length=M.length+1:=by simp
  rw[q,List.append_assoc,List.singleton_append]at ih;have a0:kQ (.elt (ze c) 0) 0=some (.elt (ze c) 0):=by rw[ko]
  have p0:jZ (.elt (ze c) 0)=some (.sl 3 (c.map jD)):=rfl;have nk:¬((k1:Nat):Int)<0:=by omega
  rw[jrf];simp only[jo,h1,h2,a0,p0,g2,nk,h5,ih]
theorem jce(l:List jP)(k k':Nat)(hk:k'<=100000000)(hl:l.length<=9223372036854775807)(h:HCs k l k'):G 52 [cls l,vi (k:Nat)]=some (vi (k':Nat),[]):=by
 have:=JP l [] k k' hk (by simpa using hl) (jh2 l k k' h) h;rw[g52];exact this
theorem yW:∀(r:List jP)(M:Xc)(k:Nat),k+yE r<=100000000->M.length+r.length<=9223372036854775807->(∀c∈r,cwf c)->
  ∃l:List jP,l.length=r.length/\HCs k l (k+yE r)/\jbl (vi (k:Nat)) (vi (M.length:Nat)) (M++r.map ze)=some (.top,[vi ((k+yE r:Nat):Int),.sl 65 (M++l.map ze)])
 | [],M,k,hk,hl,_=>by
  refine⟨[],rfl,rfl,?_⟩;rw[jkl,List.map_nil,List.append_nil];simp only[jo,yE,Nat.add_zero]
 |c::r,M,k,hk,hl,ht=>by
  simp only[yE,List.length_cons]at hk hl;have h1:((M.length:Nat):Int)<(((M++ze c::r.map ze).length:Nat):Int):=by simp;omega
  have h2:=qU M (r.map ze) (ze c);have h3:=yo M (r.map ze) (ze c);obtain⟨d,e3,e4⟩:=Qr c k (by omega) (ht c (by simp));have s3:=yp M (r.map ze) (ze c) (ze d);have e2:=js (i:=M.length) (n:=M.length+1) (by omega) (by omega);obtain⟨l,l1,l2,ih⟩:=yW r (M++[ze d]) (k+Yb c) (by omega) (by simp;omega) λu hu=>ht u (by simp[hu]);have q:(M++[ze d]).length=M.length+1:=by simp
  have q2:M++[ze d]++r.map ze=M++ze d::r.map ze:=by simp
  have q3:M++[ze d]++l.map ze=M++(d::l).map ze:=by simp
  rw[q,q2,q3,show k+Yb c+yE r=k+(Yb c+yE r) by omega]at ih;have o3:jJ (ze c) 0 [.sl 3 (d.map jD)]=ze d:=rfl;refine⟨d::l,by simp[l1],?_,?_⟩
  .rw [yE];exact⟨k+Yb c,e4,by omega,by rw[show k+(Yb c+yE r)=k+Yb c+yE r by omega];exact l2⟩
  .rw [jkl,List.map_cons,yE];simp only[jo,h1,h2,h3,Qi,e3,List.getElem?_cons_zero,o3,s3,e2,ih]
theorem KJ(l:List jP)(k:Nat)(hk:k+yE l<=100000000)(hl:l.length<=9223372036854775807)(hw:∀c∈l,cwf c):∃d:List jP,jjt (vi (k:Nat)) (l.map ze)=some (.top,[vi ((k+yE l:Nat):Int),.sl 65 (d.map ze)])/\G 52 [cls d,vi (k:Nat)]=some (vi ((k+yE l:Nat):Int),[]):=by
 obtain⟨d,l1,l2,h⟩:=yW l [] k hk (by simpa using hl) hw;refine⟨d,?_,jce d k _ hk (by rw[l1];exact hl) l2⟩;rw[jtB];exact h
def yV:Nat->Nat->Xi
 |_,0=>[]
 |k,n+1=>(k:Int)::yV (k+1) n
theorem Z5:∀(n:Nat)(M:Xi)(k:Nat),k+n<=100000000->M.length+n<=9223372036854775807->jjz (ints (M++yV k n)) (vi (k:Nat)) (vi (M.length:Nat))=some (vi ((k+n:Nat):Int),[])
 |0,M,k,hk,hl=>by
  rw[jq4,yV,List.append_nil];simp only[jo,Nat.add_zero]
 |n+1,M,k,hk,hl=>by
  have h1:((M.length:Nat):Int)<(((M++(k:Int)::yV (k+1) n).length:Nat):Int):=jcC M _ _;have h2:jk 1 (ints (M++(k:Int)::yV (k+1) n)) (vi (M.length:Nat))=some (.elt (ci (k:Int)) 0):=Zh (f:=ci) (k:=1) M _ _;have e1:=js (i:=k) (n:=k+1) (by omega) (by omega);have h5:=js (i:=M.length) (n:=M.length+1) (by omega) (by omega);have ih:=Z5 n (M++[(k:Int)]) (k+1) (by omega) (by simp at hl⊢;omega);have q:(M++[(k:Int)]).length=M.length+1:=by simp
  rw[q,List.append_assoc,List.singleton_append,show k+1+n=k+(n+1) by omega]at ih;have p0:jZ (.elt (ci (k:Int)) 0)=some (vi (k:Nat)):=rfl;rw[jq4,yV];simp only[jo,h1,h2,p0,e1,h5,ih]
theorem Jf(n k:Nat)(hk:k+n<=100000000):G 30 [ints (yV k n),vi (k:Nat)]=some (vi ((k+n:Nat):Int),[]):=by
 have:=Z5 n [] k hk (by simp;omega)
 rw[g30];exact this
theorem Jg:∀(r:Xi)(M:Xc)(k:Nat),k+r.length<=100000000->M.length+r.length<=9223372036854775807->
  jbp (vi (k:Nat)) (vi (M.length:Nat)) (M++r.map ci)=some (.top,[vi ((k+r.length:Nat):Int),.sl 65 (M++(yV k r.length).map ci)])
 | [],M,k,hk,hl=>by
  rw[jkp,List.map_nil,List.append_nil];simp only[jo,Nat.add_zero,List.length_nil,yV,List.map_nil,List.append_nil]
 |x::r,M,k,hk,hl=>by
  simp only[List.length_cons]at hk hl;have h1:((M.length:Nat):Int)<(((M++ci x::r.map ci).length:Nat):Int):=by simp;omega
  have h2:=qU M (r.map ci) (ci x);have h3:=yo M (r.map ci) (ci x);have s3:=yp M (r.map ci) (ci x) [vi (k:Nat)];have e1:=js (i:=k) (n:=k+1) (by omega) (by omega);have e2:=js (i:=M.length) (n:=M.length+1) (by omega) (by omega);have ih:=Jg r (M++[[vi (k:Nat)]]) (k+1) (by omega) (by simp;omega);have q:(M++[[vi (k:Nat)]]).length=M.length+1:=by simp
  have q2:M++[[vi (k:Nat)]]++r.map ci=M++[vi (k:Nat)]::r.map ci:=by simp
  have q3:M++[[vi (k:Nat)]]++(yV (k+1) r.length).map ci=M++(yV k (r.length+1)).map ci:=by simp[yV]
  rw[q,q2,q3,show k+1+r.length=k+(r.length+1) by omega]at ih;have o3:jJ (ci x) 0 [vi (k:Nat)]=[vi (k:Nat)]:=rfl;have t1:Zw (ci x) 0 1=true:=rfl;rw[jkp,List.map_cons,List.length_cons];simp only[jo,h1,h2,h3,JR,t1,o3,s3,e1,e2,ih]
theorem qt(l:Xi)(k:Nat)(hk:k+l.length<=100000000):jdG (vi (k:Nat)) (l.map ci)=some (.top,[vi ((k+l.length:Nat):Int),.sl 65 ((yV k l.length).map ci)]):=by
 rw[jtJ];exact Jg l [] k hk (by simp;omega)
def HSs:Nat->List Stp->Nat->Prop
 |k,[],k'=>k'=k
 |k,s::l,k'=>∃k1 k2 k3:Nat,s.rule=(k:Int)/\G 30 [ints s.par,vi ((k+1:Nat):Int)]=some (vi (k1:Nat),[])/\G 30 [ints s.whr,vi (k1:Nat)]=some (vi (k2:Nat),[])/\G 72 [.sl 3 (s.cls.map jD),vi (k2:Nat)]=some (vi (k3:Nat),[])/\k<k3/\HSs k3 l k'
theorem jh3:∀(r:List Stp)(k k':Nat),HSs k r k'->k<=k'
 | [],k,k',h=>by have h:k'=k:=h;omega
 |u::r,k,k',⟨k1,k2,k3,_,_,_,_,g3,g4⟩=>by have:=jh3 r k3 k' g4;omega
theorem Za:∀(r M:List Stp)(k k':Nat),k'<=100000000->M.length+r.length<=9223372036854775807->k<=k'->HSs k r k'->jjI (jbi (M++r)) (vi (k:Nat)) (vi (M.length:Nat))=some (vi (k':Nat),[])
 | [],M,k,k',_,_,_,h=>by
  have h:k'=k:=h;subst h;rw[jrg,List.append_nil];simp only[jo]
 |s::r,M,k,k',hk,hl,hkk,⟨k1,k2,k3,g0,g1,g2,g3,g4,g5⟩=>by
  have h1:((M.length:Nat):Int)<(((M++s::r).length:Nat):Int):=jcC M r s;have h2:jk 4 (jbi (M++s::r)) (vi (M.length:Nat))=some (.elt (stc s) 0):=Zh (f:=stc) (k:=4) M r s;have hle:k3<=k':=jh3 r k3 k' g5;have e1:=js (i:=k) (n:=k+1) (by omega) (by omega);have h5:=js (i:=M.length) (n:=(M++s::r).length) (by simp) (by simp;simp at hl;omega);have ih:=Za r (M++[s]) k3 k' hk (by simp at hl⊢;omega) hle g5;have q:(M++[s]).length=M.length+1:=by simp
  rw[q,List.append_assoc,List.singleton_append]at ih;have a0:kQ (.elt (stc s) 0) 0=some (.elt (stc s) 0):=by rw[ko]
  have a1:kQ (.elt (stc s) 0) 1=some (.elt (stc s) 1):=by rw[ko]
  have a2:kQ (.elt (stc s) 0) 2=some (.elt (stc s) 2):=by rw[ko]
  have a3:kQ (.elt (stc s) 0) 3=some (.elt (stc s) 3):=by rw[ko]
  have a4:kQ (.elt (stc s) 3) 0=some (.elt (stc s) 3):=by rw[ko]
  have p0:jZ (.elt (stc s) 0)=some (vi (k:Nat)):=by rw[<-g0];rfl
  have p1:jZ (.elt (stc s) 1)=some (ints s.par):=rfl;have p2:jZ (.elt (stc s) 2)=some (ints s.whr):=rfl;have p3:jZ (.elt (stc s) 3)=some (.sl 3 (s.cls.map jD)):=rfl;have n1:¬((k1:Nat):Int)<0:=by omega
  have n2:¬((k2:Nat):Int)<0:=by omega
  have n3:¬((k3:Nat):Int)<0:=by omega
  rw[jrg];simp only[jo,h1,h2,a0,a1,a2,a3,a4,p0,p1,p2,p3,e1,g1,g2,g3,n1,n2,n3,h5,ih]
theorem je4(l:List Stp)(k k':Nat)(hk:k'<=100000000)(hl:l.length<=9223372036854775807)(h:HSs k l k'):G 53 [jbi l,vi (k:Nat)]=some (vi (k':Nat),[]):=by
 have:=Za l [] k k' hk (by simpa using hl) (jh3 l k k' h) h;rw[g53];exact this
theorem qK:∀(r:List Stp)(M:Xc)(k:Nat),k+qu r<=100000000->M.length+r.length<=9223372036854775807->(∀s∈r,swf s)->
  ∃l:List Stp,l.length=r.length/\HSs k l (k+qu r)/\jbs (vi (k:Nat)) (vi (M.length:Nat)) (M++r.map stc)=some (.top,[vi ((k+qu r:Nat):Int),.sl 68 (M++l.map stc)])
 | [],M,k,hk,hl,_=>by
  refine⟨[],rfl,rfl,?_⟩;rw[jks,List.map_nil,List.append_nil];simp only[jo,qu,Nat.add_zero]
 |s::r,M,k,hk,hl,ht=>by
  simp only[qu,mkS,List.length_cons]at hk hl;have h1:((M.length:Nat):Int)<(((M++stc s::r.map stc).length:Nat):Int):=by simp;omega
  have e1:=js (i:=k) (n:=k+1) (by omega) (by omega);have e2:=js (i:=M.length) (n:=M.length+1) (by omega) (by omega);have m1:=qt s.par (k+1) (by omega);have m2:=qt s.whr (k+1+s.par.length) (by omega);obtain⟨d,m3,w3⟩:=Qr s.cls (k+1+s.par.length+s.whr.length) (by omega) (ht s (by simp)).2.2.2;have w1:=Jf s.par.length (k+1) (by omega);have w2:=Jf s.whr.length (k+1+s.par.length) (by omega);generalize hY1:yV (k+1) s.par.length=Y1 at m1 w1;generalize hY2:yV (k+1+s.par.length) s.whr.length=Y2 at m2 w2;have i0:=qU M (r.map stc) (stc s);have g0:=yo M (r.map stc) (stc s);have s0:=yp M (r.map stc) (stc s) [vi (k:Nat),ints s.par,ints s.whr,.sl 3 (s.cls.map jD)];have i1:=qU M (r.map stc) [vi (k:Nat),ints s.par,ints s.whr,.sl 3 (s.cls.map jD)];have g1:=yo M (r.map stc) [vi (k:Nat),ints s.par,ints s.whr,.sl 3 (s.cls.map jD)];have s1:=yp M (r.map stc) [vi (k:Nat),ints s.par,ints s.whr,.sl 3 (s.cls.map jD)] [vi (k:Nat),ints Y1,ints s.whr,.sl 3 (s.cls.map jD)];have i2:=qU M (r.map stc) [vi (k:Nat),ints Y1,ints s.whr,.sl 3 (s.cls.map jD)];have g2:=yo M (r.map stc) [vi (k:Nat),ints Y1,ints s.whr,.sl 3 (s.cls.map jD)];have s2:=yp M (r.map stc) [vi (k:Nat),ints Y1,ints s.whr,.sl 3 (s.cls.map jD)] [vi (k:Nat),ints Y1,ints Y2,.sl 3 (s.cls.map jD)];have i3:=qU M (r.map stc) [vi (k:Nat),ints Y1,ints Y2,.sl 3 (s.cls.map jD)];have g3:=yo M (r.map stc) [vi (k:Nat),ints Y1,ints Y2,.sl 3 (s.cls.map jD)];have s3:=yp M (r.map stc) [vi (k:Nat),ints Y1,ints Y2,.sl 3 (s.cls.map jD)] [vi (k:Nat),ints Y1,ints Y2,.sl 3 (d.map jD)];obtain⟨l,l1,l2,ih⟩:=qK r (M++[[vi (k:Nat),ints Y1,ints Y2,.sl 3 (d.map jD)]]) (k+1+s.par.length+s.whr.length+Yb s.cls) (by omega) (by simp;omega) λu hu=>ht u (by simp[hu]);have q:(M++[[vi (k:Nat),ints Y1,ints Y2,.sl 3 (d.map jD)]]).length=M.length+1:=by simp
  have q2:M++[[vi (k:Nat),ints Y1,ints Y2,.sl 3 (d.map jD)]]++r.map stc=M++[vi (k:Nat),ints Y1,ints Y2,.sl 3 (d.map jD)]::r.map stc:=by simp
  have q3:M++[[vi (k:Nat),ints Y1,ints Y2,.sl 3 (d.map jD)]]++l.map stc=M++((⟨(k:Int),Y1,Y2,d⟩:Stp)::l).map stc:=by simp
  rw[q,q2,q3,show k+1+s.par.length+s.whr.length+Yb s.cls+qu r=k+(1+s.par.length+s.whr.length+Yb s.cls+qu r) by omega]at ih;have o0:jJ (stc s) 0 [vi (k:Nat)]=[vi (k:Nat),ints s.par,ints s.whr,.sl 3 (s.cls.map jD)]:=rfl;have o1:jJ [vi (k:Nat),ints s.par,ints s.whr,.sl 3 (s.cls.map jD)] 1 [ints Y1]=[vi (k:Nat),ints Y1,ints s.whr,.sl 3 (s.cls.map jD)]:=rfl;have o2:jJ [vi (k:Nat),ints Y1,ints s.whr,.sl 3 (s.cls.map jD)] 2 [ints Y2]=[vi (k:Nat),ints Y1,ints Y2,.sl 3 (s.cls.map jD)]:=rfl;have o3:jJ [vi (k:Nat),ints Y1,ints Y2,.sl 3 (s.cls.map jD)] 3 [.sl 3 (d.map jD)]=[vi (k:Nat),ints Y1,ints Y2,.sl 3 (d.map jD)]:=rfl;have t0:Zw (stc s) 0 1=true:=rfl;refine⟨⟨(k:Int),Y1,Y2,d⟩::l,by simp[l1],?_,?_⟩
  .rw [qu,mkS];exact⟨_,_,_,rfl,w1,w2,w3,by omega,by rw[show k+(1+s.par.length+s.whr.length+Yb s.cls+qu r)=k+1+s.par.length+s.whr.length+Yb s.cls+qu r by omega];exact l2⟩
  .rw [jks,List.map_cons,qu,mkS];simp only[jo,h1,i0,g0,JR,t0,o0,s0,e1,i1,g1,Qi,m1,List.getElem?_cons_zero,o1,s1,i2,g2,m2,o2,s2,i3,g3,m3,o3,s3,e2,ih]
theorem jdB(l:List Stp)(k:Nat)(hk:k+qu l<=100000000)(hl:l.length<=9223372036854775807)(hw:∀s∈l,swf s):∃d:List Stp,jmF (vi (k:Nat)) (l.map stc)=some (.top,[vi ((k+qu l:Nat):Int),.sl 68 (d.map stc)])/\G 53 [jbi d,vi (k:Nat)]=some (vi ((k+qu l:Nat):Int),[]):=by
 obtain⟨d,l1,l2,h⟩:=qK l [] k hk (by simpa using hl) hw;refine⟨d,?_,je4 d k _ hk (by rw[l1];exact hl) l2⟩;rw[jtN];exact h
theorem jgt(s:Xb):zu (sv s)=true:=rfl
theorem jik(ts:Xg)(hl:ts.length<=1048576)(ih:∀t∈ts,jdI (tm t)=some (.top,[sv t.name,.sl 66 (t.args.map jq)])):jmJ (jW ts)=some (.top,[.sl 66 (ts.map jq)]):=by
 by_cases h0:ts.length=0
 .have:ts=[]:=List.eq_nil_of_length_eq_zero h0;subst this;have hz:(((0:Nat):Int)=0)=True:=by simp
  rw[jqS];simp only[jo,List.map_nil,hz]
 have hn:¬(((ts.length:Nat):Int)=0):=by omega
 have key:=(upto (P:=λi=>jbw (jW ts) (vi (ts.length:Nat)) (vi i) (part jq [sv [],.sl 2 []] ts i)=some (.top,[.sl 66 (ts.map jq)])) (n:=ts.length) ?_ ?_ 0 (Nat.zero_le _))
 .rw [jqS];have hm:=ZK (b:=40) (n:=ts.length) (by omega) hl;simp only[Int.natCast_zero,<-ZL]at key;simp only[jo,hn,hm,key]
 .rw [jkw,QA];simp only[jo]
 .intro i hi ih';have h1:=Ji (f:=jq) (z:=[sv [],.sl 2 []]) (Nat.le_of_lt hi);have h2:pIx (part jq [sv [],.sl 2 []] ts i).length (vi i)=some i:=YD (by omega);have h4:=QC (f:=jq) (z:=[sv [],.sl 2 []]) hi;rw[kU]at h4;have h5:=js hi (Nat.le_trans hl (by decide));have e1:=ih ts[i] (List.getElem_mem _);rw[jkw];simp only[jo,hi,Int.ofNat_lt,jb hi,jp,e1,List.getElem?_cons_zero,JQ,jgt,h2,QB hi,jj0,h4,h5,ih']
theorem jt0(t:T):tsz t<=1048576->jdI (tm t)=some (.top,[sv t.name,.sl 66 (t.args.map jq)]):=by
 refine T.ind (p:=λt=>tsz t<=1048576->jdI (tm t)=some (.top,[sv t.name,.sl 66 (t.args.map jq)])) ?_ t;intro t ih h;rw[kC]at h;have e:=jik t.args (by omega) λu hu=>ih u hu (by have:=yS hu;omega);rw[jtP];simp only[jo,e]
theorem jnf(l:Lt)(h:tsz l.2<=1048576):jmE (vb l.1) (sv l.2.name) (jW l.2.args)=some (.top,[vb l.1,sv l.2.name,.sl 66 (l.2.args.map jq)]):=by
 have e:=jt0 l.2 h;rw[jtL];simp only[jo,e,List.getElem?_cons_zero,jgt]
theorem jaK(c:jP)(hl:c.length<=1000)(hz:∀x∈c,Tz x.2):jfT (.sl 3 (c.map jD))=some (.top,[.sl 67 (c.map jD)]):=by
 have key:=upto (P:=λi=>jbn (.sl 3 (c.map jD)) (vi (c.length:Nat)) (vi (i:Nat)) [] ((c.take i).map jD)=some (.top,[.sl 67 (c.map jD)])) (n:=c.length) ?_ ?_ 0 (Nat.zero_le _)
 .simp only[Int.natCast_zero,List.take_zero,List.map_nil]at key;rw[jtG];simp only[jo,key]
 .have nlt:¬((c.length:Nat):Int)<((c.length:Nat):Int):=by omega
  rw[jkn,List.take_length];simp only[jo,nlt]
 .intro i hi ih;have hlt:(i:Int)<((c.length:Nat):Int):=by omega
  have e1:=jnf c[i] (hz _ (List.getElem_mem _));have ta:=QS (f:=jD) hi;have tl:=take_len (f:=jD) (Nat.le_of_lt hi);have hf:zo (i+1) 48=true:=juu (by omega);have ix:=jb (k:=3) (f:=jD) hi;have hck:ck ((i:Int)+1)=some (vi ((i+1:Nat):Int)):=k9 (by omega) (by omega);generalize (c.take i).map jD=R at *;generalize c[i]=l at *;have y1:jL 3 (.elt (jD l) 0)=some (.agg (jD l)):=rfl;rw[jkn];simp only[jo,hlt,ix,y1,e1,List.getElem?_cons_zero,List.getElem?_cons_succ,JQ,jck,tl,hf,ta,hck,ih]
theorem jeZ(l:List jP)(hl:l.length<=1000)(hc:∀c∈l,c.length<=1000/\ ∀x∈c,Tz x.2):jmA (cls l)=some (.top,[.sl 65 (l.map ze)]):=by
 have key:=upto (P:=λi=>jbm (cls l) (vi (l.length:Nat)) (vi (i:Nat)) ((l.take i).map ze)=some (.top,[.sl 65 (l.map ze)])) (n:=l.length) ?_ ?_ 0 (Nat.zero_le _)
 .simp only[Int.natCast_zero,List.take_zero,List.map_nil]at key;rw[jtE];simp only[jo,key]
 .have nlt:¬((l.length:Nat):Int)<((l.length:Nat):Int):=by omega
  rw[jkm,List.take_length];simp only[jo,nlt]
 .intro i hi ih;have hlt:(i:Int)<((l.length:Nat):Int):=by omega
  have e1:=jaK l[i] (hc _ (List.getElem_mem hi)).1 (hc _ (List.getElem_mem hi)).2;have ta:=QS (f:=ze) hi;have tl:=take_len (f:=ze) (Nat.le_of_lt hi);have hf:=(pFs (n:=i+1) (by omega)).2.1;have ix:=jb (k:=1) (f:=ze) hi;have hck:ck ((i:Int)+1)=some (vi ((i+1:Nat):Int)):=k9 (by omega) (by omega);generalize (l.take i).map ze=R at *;generalize l[i]=c at *;have y1:jL 1 (.elt (ze c) 0)=some (cm c):=rfl;rw[jkm];simp only[jo,hlt,ix,y1,e1,List.getElem?_cons_zero,tl,hf,ta,hck,ih]
def jmX(s:Sch)(b:Bool):Out:=(.top,[vb s.lost,vb b,.sl 65 (s.prf.ax.map ze),.sl 68 (s.prf.st.map stc),.sl 65 (s.act.map ci),.sl 65 (s.pas.map ci)])
theorem jqZ(lost:Bool)(i:Nat)(c:jP)(s:Sch)(h1:s.prf.st.length<=999)(h2:s.pas.length<=999):jmB (vi 1) (vb lost) [[vi (i:Nat)]] (c.map jD) (s.prf.ax.map ze) (s.prf.st.map stc) (s.act.map ci) (s.pas.map ci) [] =
  some (.top,[vb lost,.sl 65 (s.prf.ax.map ze),.sl 68 ((s.prf.st++[Yq i c]).map stc),.sl 65 (s.act.map ci),.sl 65 ((s.pas++[(s.prf.st.length:Int)]).map ci)]):=by
 have f1:=(pFs (n:=s.pas.length+1) (by omega)).1;have f2:=(pFs (n:=s.prf.st.length+1) (by omega)).2.2;have q1:Jw (s.prf.st.map stc) [[vi 1,.sl 1 [],.sl 1 [[vi (i:Nat)]],.sl 3 (c.map jD)]]=s.prf.st.map stc++[[vi 1,.sl 1 [],.sl 1 [[vi (i:Nat)]],.sl 3 (c.map jD)]]:=rfl;have q2:Jw (s.pas.map ci) [[vi (s.prf.st.length:Nat)]]=s.pas.map ci++[[vi (s.prf.st.length:Nat)]]:=rfl;have v0:jjr []=true:=rfl;rw[jkT,jhl,jtF];simp only[jo,f1,f2,q1,q2,v0,JR]
theorem jwc(a b c d e:A)(k:Nat)(r:Xc):hR k (A.top,[a,b,c,d,e,.sl k r]) 5=some r:=by
 unfold hR;simp
theorem jnz(a:A)(k:Nat)(r:Xc)(z:Xd):hR k (A.top,a:: .sl k r::z) 1=some r:=by
 unfold hR;simp
theorem jnA(a b:A)(k:Nat)(r:Xc)(z:Xd):hR k (A.top,a::b:: .sl k r::z) 2=some r:=by
 unfold hR;simp
theorem jnC(a b c d:A)(k:Nat)(r:Xc)(z:Xd):hR k (A.top,a::b::c::d:: .sl k r::z) 4=some r:=by
 unfold hR;simp
theorem jnB(a b c:A)(k:Nat)(r:Xc)(z:Xd):hR k (A.top,a::b::c:: .sl k r::z) 3=some r:=by
 unfold hR;simp
section
variable{l:List jP}(hl:l.length<=30)(hn:∀c∈l,jN c=true)
include hl hn
theorem joP{i:Nat}(hi:i<l.length){s:Sch}(hs:StI l i s):jk 1 (cls l) (vi (i:Nat))=some (.elt (ze l[i]) 0)/\G 20 [.elt (scc s) 0,cm l[i]]=some (vb (QE s l[i]),[])/\jfT (.sl 3 (l[i].map jD))=some (.top,[.sl 67 (l[i].map jD)])/\StI l (i+1) (jh9 s i l[i]):=by
 have hc:=hn _ (List.getElem_mem hi);have cn:=(kE hc).1;obtain⟨r1,r2⟩:=hs.red (by omega);exact⟨jb hi,(jhq hs.nrm hc r1 r2).1,jaK _ (by have:=cn.1;omega) cn.tz,hs.add hc (List.getElem_mem hi)⟩
theorem jss:∀i,i<=l.length-> ∀(s:Sch)(R0 R1 R2 R3:Xc),StI l i s->jbP (cls l) (vi (l.length:Nat)) (vi (i:Nat)) (vb false) (vb s.lost) R0 R1 R2 R3 (s.prf.ax.map ze) (s.prf.st.map stc) (s.act.map ci) (s.pas.map ci)=some (jmX (jc0 (l.drop i) i s) true):=by
 refine upto (P:=λi=>∀(s:Sch)(R0 R1 R2 R3:Xc),StI l i s->jbP (cls l) (vi (l.length:Nat)) (vi (i:Nat)) (vb false) (vb s.lost) R0 R1 R2 R3 (s.prf.ax.map ze) (s.prf.st.map stc) (s.act.map ci) (s.pas.map ci)=some (jmX (jc0 (l.drop i) i s) true)) ?_ ?_
 .intro s R0 R1 R2 R3 hs;have nlt:¬((l.length:Nat):Int)<((l.length:Nat):Int):=by omega
  rw[jnZ,List.drop_length];simp only[jo,nlt];rfl
 .intro i hi ih s R0 R1 R2 R3 hs;have hlt:(i:Int)<((l.length:Nat):Int):=by omega
  obtain⟨x1,e1,e2,hs'⟩:=joP hl hn hi hs;have ih:=λA B C D=>ih _ A B C D hs';have k1:=jqZ s.lost i l[i] s (by have:=hs.st;omega) (by have:=hs.pas;omega);have y1:∀c:jP,jL 1 (.elt (ze c) 0)=some (cm c):=λc=>rfl;have hck:ck ((i:Int)+1)=some (vi ((i+1:Nat):Int)):=k9 (by omega) (by omega);rw[jr hi,jc0,jnZ];generalize l[i]=c at *;unfold jh9 at ih⊢;cases hr:QE s c<;>rw[hr]at e1 ih
  .rw [if_neg Bool.false_ne_true]at ih⊢;simp only[jo,hlt,x1,y1,e1,e2,JR,List.getElem?_cons_zero,k1,jnz,jnA,jnB,jnC,hck,ih]
  .rw [if_pos rfl]at ih⊢;simp only[jo,hlt,x1,y1,e1,hck,ih]
theorem jsr(i:Nat)(hil:i<=l.length)(s:Sch)(hs:StI l i s):jh5 (cls l) (vi (l.length:Nat)) (vi (i:Nat)) (vb false) (vb s.lost) (s.prf.ax.map ze) [] [] [] [] (s.prf.st.map stc) (s.act.map ci) (s.pas.map ci)=some (jmX (jc0 (l.drop i) i s) true):=by
 by_cases hi:i<l.length
 .have hlt:(i:Int)<((l.length:Nat):Int):=by omega
  obtain⟨x1,e1,e2,hs'⟩:=joP hl hn hi hs;have ih:=λA B C D=>jss hl hn (i+1) hi _ A B C D hs';have k1:=jqZ s.lost i l[i] s (by have:=hs.st;omega) (by have:=hs.pas;omega);have y1:∀c:jP,jL 1 (.elt (ze c) 0)=some (cm c):=λc=>rfl;have hck:ck ((i:Int)+1)=some (vi ((i+1:Nat):Int)):=k9 (by omega) (by omega);rw[jr hi,jc0,jnY];generalize l[i]=c at *;unfold jh9 at ih⊢;cases hr:QE s c<;>rw[hr]at e1 ih
  .rw [if_neg Bool.false_ne_true]at ih⊢;simp only[jo,hlt,x1,y1,e1,e2,JR,List.getElem?_cons_zero,k1,jnz,jnA,jnB,jnC,hck,ih]
  .rw [if_pos rfl]at ih⊢;simp only[jo,hlt,x1,y1,e1,hck,ih]
 .have hi:i=l.length:=by omega
  subst hi;have nlt:¬((l.length:Nat):Int)<((l.length:Nat):Int):=by omega
  rw[jnY,List.drop_length];simp only[jo,nlt];rfl
end
theorem jgB(l:List jP)(hl:l.length<=1048576)(hz:∀c∈l,Cz c):jpi (cls l)=some (jmX (kP l) (jar l)):=by
 have ea:=jeV l hl hz;rw[jvE];unfold kP jar;by_cases h1:((l.length:Nat):Int) > 30
 .have h1':¬(l.length<=30/\l.all jN=true):=λh=>by have:=h.1;omega
  rw[if_neg h1',if_neg h1'];simp only[jo,h1];rfl
 cases h2:l.all jN<;>rw[h2]at ea
 .rw [if_neg (λh=>by cases h.2),if_neg (λh=>by cases h.2)];simp only[jo,h1,ea];rfl
 have h30:l.length<=30:=by omega
 have hn:=List.all_eq_true.1 h2;have e1:=jeZ l (by omega) λc hc=>⟨by have:=(kE (hn c hc)).1.1;omega,(kE (hn c hc)).1.tz⟩;have e2:=jsr h30 hn 0 (Nat.zero_le _) _ (StI.zero l);simp only[Int.natCast_zero,List.map_nil,List.drop_zero]at e2;rw[if_pos ⟨h30,rfl⟩,if_pos ⟨h30,rfl⟩];simp only[jo,h1,ea,e1,e2]
theorem jg5{B:Nat} :∀st:List Stp,(∀q∈st,mkS q<=B)->qu st<=st.length*B
 | [],_=>by show 0<=_;exact Nat.zero_le _
 |q::r,h=>by
  have:=jg5 r λx hx=>h x (by simp[hx]);have:=h q (by simp);rw[qu,List.length_cons,Nat.add_mul,Nat.one_mul];omega
theorem jg2(s:Sch)(hw:jkN s)(h1:yE s.prf.ax<=10000000)(h2:qu s.prf.st<=80000000)(h3:s.act.length<=1000)(h4:s.pas.length<=1000):∃(m:Nat)(a:List jP)(b:List Stp)(c d:Xi),
  jmy (vb s.lost) (vi 1) (s.prf.ax.map ze) (s.prf.st.map stc) (s.act.map ci) (s.pas.map ci)=some (.top,[vi (m:Nat),.sl 65 (a.map ze),.sl 68 (b.map stc),.sl 65 (c.map ci),.sl 65 (d.map ci)])/\
  G 12 [scm ⟨⟨a,b⟩,c,d,s.lost⟩,vi 1]=some (vi (m:Nat),[]):=by
 obtain⟨a,a1,a2⟩:=KJ s.prf.ax 1 (by omega) hw.1.1.2 hw.1.1.1;obtain⟨b,b1,b2⟩:=jdB s.prf.st (1+yE s.prf.ax) (by omega) hw.1.2.2 hw.1.2.1;have c1:=qt s.act (1+yE s.prf.ax+qu s.prf.st) (by omega);have c2:=Jf s.act.length (1+yE s.prf.ax+qu s.prf.st) (by omega);have d1:=qt s.pas (1+yE s.prf.ax+qu s.prf.st+s.act.length) (by omega);have d2:=Jf s.pas.length (1+yE s.prf.ax+qu s.prf.st+s.act.length) (by omega);generalize hk1:1+yE s.prf.ax=k1 at *;generalize hk2:k1+qu s.prf.st=k2 at *;generalize hk3:k2+s.act.length=k3 at *;generalize hk4:k3+s.pas.length=k4 at *;generalize yV k2 s.act.length=c at *;generalize yV k3 s.pas.length=d at *;have n1:¬((k1:Nat):Int)<0:=by omega
 have n2:¬((k2:Nat):Int)<0:=by omega
 have n3:¬((k3:Nat):Int)<0:=by omega
 have n4:¬((k4:Nat):Int)<0:=by omega
 simp only[Int.natCast_one]at a1 a2;have p1:jmC (vi 1) (s.prf.ax.map ze) (s.prf.st.map stc)=some (.top,[vi (k2:Nat),.sl 65 (a.map ze),.sl 68 (b.map stc)]):=by
  rw[jtI];simp only[jo,a1,b1,List.getElem?_cons_zero]
 have p2:G 29 [.agg [cls a,jbi b],vi 1]=some (vi (k2:Nat),[]):=by
  rw[g29];simp only[jo,a2,n1,b2,n2]
 refine⟨k4,a,b,c,d,?_,?_⟩
 .rw [jtC];simp only[jo,p1,c1,d1,List.getElem?_cons_zero]
 .rw [g12];simp only[jo,p2,n2,c2,n3,d2,n4,jgg]
theorem jfH(l:List jP)(hw:∀c∈l,cwf c)(hz:l.length+Q4 l<=1048576):jkN (kP l)/\yE (kP l).prf.ax<=10000000/\qu (kP l).prf.st<=80000000/\(kP l).act.length<=1000/\(kP l).pas.length<=1000:=by
 by_cases h:l.length<=30/\l.all jN=true
 .have hs:=jjc l h;have h1:=hs.st;have h2:=hs.pas;have h3:=h.1;have hm:=jfm l;refine⟨⟨⟨⟨by rw[hs.ax];exact hw,by rw[hs.ax];omega⟩,⟨λq hq=>?_,by omega⟩⟩,⟨λx hx=>?_,?_⟩,⟨λx hx=>?_,by omega⟩⟩,by rw[hs.ax];omega,?_,by rw[hs.act];simp,by omega⟩
  .obtain ⟨j,c,rfl,hj,hc⟩:=hs.mem q hq;refine⟨⟨by show(-9223372036854775808:Int)<=1;decide,by show(1:Int)<=9223372036854775807;decide⟩,⟨λx hx=>(List.not_mem_nil hx).elim,by show 0<=_;omega⟩,⟨λx hx=>?_,by show 1<=_;omega⟩,hw c hc⟩;have hx:x=(j:Int):=List.mem_singleton.1 hx;subst hx;constructor<;>omega
  .rw [hs.act]at hx;exact(List.not_mem_nil hx).elim
  .rw [hs.act];simp
  .have:=hs.rng x hx;constructor<;>omega
  .refine Nat.le_trans (jg5 (B:=2200000) _ λq hq=>?_) (Nat.le_trans (Nat.mul_le_mul_right _ (Nat.le_trans h1 h3)) (by decide));obtain⟨j,c,rfl,hj,hc⟩:=hs.mem q hq;have e:=jiK c;have hcz:=Y6 hc;show 1+0+1+Yb c<=_;unfold csz at hcz;omega
 .unfold kP;rw[if_neg h];refine⟨⟨⟨⟨λ_ h=>(List.not_mem_nil h).elim,by show 0<=_;omega⟩,⟨λ_ h=>(List.not_mem_nil h).elim,by show 0<=_;omega⟩⟩,⟨λ_ h=>(List.not_mem_nil h).elim,by show 0<=_;omega⟩,⟨λ_ h=>(List.not_mem_nil h).elim,by show 0<=_;omega⟩⟩,by show 0<=_;omega,by show 0<=_;omega,by show 0<=_;omega,by show 0<=_;omega⟩
theorem jbe(l:List jP)(hw:(∀c∈l,cwf c)/\l.length<=9223372036854775807):G 3 [cls l]=some (vb true,[]):=by
 have e1:=jqD l hw.2 (λc hc=>jsY c (hw.1 c hc)) 1048576 (by decide) (by decide);rw[g3];by_cases h1:jX 1048576 ((l.length+Q4 l:Nat):Int)<0
 .simp only[jo,e1,h1]
 .obtain ⟨b1,b2,b3⟩:=jn1 (by decide) (by decide) h1;have hz:∀c∈l,csz c<=1048576:=λc hc=>by have:=Y6 hc;omega
  have t1:=jhP l (by omega) hz;have s1:=jhI l (by omega) λc hc=>Cz.of (hz c hc);have i1:=jgB l (by omega) λc hc=>Cz.of (hz c hc);have q1:=jj8 l hw.2 λc hc=>jin c (hw.1 c hc);obtain⟨w1,w2,w3,w4,w5⟩:=jfH l hw.1 b3;have hm:=jfm l;obtain⟨k,x1,_⟩:=KJ l 1 (by omega) hw.2 hw.1;obtain⟨m,a,b,c,d,m1,m2⟩:=jg2 (kP l) w1 w2 w3 w4 w5;generalize kP l=s at *;generalize jar l=ok at *;have q2:=jld s w1;have n1:¬((1+yE l:Nat):Int)<0:=by omega
  have n2:¬((m:Nat):Int)<0:=by omega
  have fl:∀b:Bool,zu (vb b)=true:=λb=>rfl;have fb:∀b:Bool,fin true (vb b,[])=some (vb b):=λb=>rfl;have fi:∀n:Int,fin true (vi n,[])=some (vi n):=λn=>rfl;simp only[Int.natCast_one]at x1;unfold jmX at i1;simp only[jo,e1,h1,t1,s1,i1,jnz,jnA,jnB,jnC,jwc,List.getElem?_cons_zero,List.getElem?_cons_succ,fl,fb,fi,q1,q2,x1,n1,m1,m2,n2,jgg]
end Go.Proofs.YtcmflcpoohgmmaaGreatDoor
