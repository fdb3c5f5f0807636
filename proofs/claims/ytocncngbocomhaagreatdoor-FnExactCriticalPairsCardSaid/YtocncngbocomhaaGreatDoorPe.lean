/- Pe -/
import Derived.Test.YtocncngbocomhaaGreatDoorPd
import Derived.Test.YtocncngbocomhaaGreatDoorPb
namespace Go.Proofs.YtocncngbocomhaaGreatDoor
open Go Go.RowKit Go.Proofs.YtocncngbocomhaaGreatDoor.Abs
set_option linter.unusedSimpArgs false
set_option linter.unusedVariables false
set_option maxHeartbeats 1000000
theorem jjs(s:Xb):z6 (sv s)=true:=rfl
theorem jk3(b:Bool):z6 (vb b)=true:=rfl
theorem walk_eq:∀(t:T)(p:Xf),Tz t->p.length+tsz t<=2000000->G 17 [tm t,pln p]=some (.sl 1 ((jjl t).map λq=>plc (p++q)),[]):=by
 refine T.ind λt ih p ht hp=>?_;have hs:=ht;unfold Tz at hs;rw[jhq]at hs hp;have hnl:=jiF t;have hne:=jeU t;have e0:=jwP p (by omega);have key:=upto (P:=λi=>∀R:Xc,R.length+jct (t.args.drop i)<=2000000->jr5 (pln p) (vi i) (sv t.name) (tms t.args) R=some (.sl 1 (R++(jmn i (t.args.drop i)).map λq=>plc (p++q)),[])) (n:=t.args.length) ?_ ?_ 0 (Nat.zero_le _) [plc p] (by rw[List.drop_zero];unfold Tz at ht;simp only[zz,jhr];omega)
 .rw [g17,jsU];simp only[Int.natCast_zero,List.drop_zero]at key;simp only[evz,e0,key,List.getElem?_cons_zero];rw[ky,KO];rfl
 .intro R hR;rw[jxk,List.drop_length];simp only[evz];rw[jmn,List.map_nil,KO]
 .intro i hi ih2 R hR;have hlt:(i:Int)<((t.args.length:Nat):Int):=by omega
  have h5:=jeN hi (by show t.args.length<=9223372036854775807;omega)
  have hm:tsz t.args[i]<=jji t.args:=jim (jdM _);have ed:jct (t.args.drop i)=nodes t.args[i]+jct (t.args.drop (i+1)):=by rw[jcS hi];rfl
  have e2:=ih t.args[i] (jdM _) (p++[i]) (ht.args _ (jdM _)) (by rw[qg,List.length_singleton];omega)
  have ea:jgs (p.map λn:Nat=>[vi (n:Nat)]) [[vi (i:Nat)]]=(p++[i]).map λn:Nat=>[vi (n:Nat)]:=by rw[jB];rfl
  have hf1:jbb (p.length+1) 8=true:=jyB (by omega);have hpl:=jmo t.args[i];have hf2:jbb (R.length+(jjl t.args[i]).length) 24=true:=jzS (by omega);have ih3:=ih2 (jgs R ((jjl t.args[i]).map λq=>plc ((p++[i])++q))) (by show(R++_).length+_<=_;rw[qg,jbD];omega);rw[jxk,jcS hi,jmn];simp only[evz,hlt,jay hi,jbK,e0,hf1,ea,e2,hf2,h5,ih3,List.getElem?_cons_zero];congr 2;show A.sl 1 ((R++_)++_)=_;congr 1;rw[JP,jB,QW];congr 2;refine List.map_congr_left λq _=>?_;show plc (p++[i]++q)=plc (p++(i::q));rw[JP];rfl
theorem jvv(k:Nat)(x1:A)(x2:A):∀(r M:List Xf)(R:Xc),(M++r).length<=2000000->(∀q∈r,q.length<=2000000)->R.length+r.length<=2000000->k<=2000000->
  jr7 (vi (k:Nat)) x1 x2 (vi (k:Nat)) (.sl 1 ((M++r).map plc)) (vi ((M++r).length:Nat)) (vi (M.length:Nat)) R=jp2 x1 x2 (vi ((k+1:Nat):Int)) (R++(r.map (k::·)).map plc)
 | [],M,R,_,_,_,hk=>by
  have h5:=jeN (i:=k) (n:=k+1) (by omega) (by omega);have nlt:¬((M.length:Nat):Int)<((M.length:Nat):Int):=by omega
  rw[jxn,KO];simp only[evz,nlt,h5,List.map_nil,KO]
 |q::r,M,R,hl,hq,hR,hk=>by
  have h1:=jmE M r q;have h2:zP 1 (.sl 1 ((M++q::r).map plc)) (vi (M.length:Nat))=some (.elt (plc q) 0):=jmh (f:=plc) (k:=1) M r q;have h3:jb7 (.elt (plc q) 0)=some (pln q):=rfl;have h5:=jeN (i:=M.length) (n:=(M++q::r).length) (by simp) (by omega);have hq0:=hq q (by simp);have hf1:jbb (1+q.length) 8=true:=jyB (by omega);have hf2:jbb (R.length+1) 24=true:=jzS (by simp only[zz]at hR;omega);have ih:=jvv k x1 x2 r (M++[q]) (jgs R [plc (k::q)]) (by simpa using hl) (λy hy=>hq y (by simp[hy])) (by show(R++_).length+_<=_;simp only[qg,zz,jhr]at hR⊢;omega) hk;rw[show(M++[q]).length=M.length+1 by simp,JP,List.singleton_append]at ih;have e:jgs [[vi (k:Nat)]] (q.map λn:Nat=>[vi (n:Nat)])=(k::q).map λn:Nat=>[vi (n:Nat)]:=rfl;have e2:jgs R [plc (k::q)]++(r.map (k::·)).map plc=R++((q::r).map (k::·)).map plc:=by unfold jgs;simp
  rw[e2]at ih;rw[jxn];simp only[evz,h1,h2,h3,hf1,hf2,e,h5,ih]
theorem jpO:∀t:T,Tz t->G 23 [tm t]=some (.sl 1 ((jjl t).map plc),[]):=by
 refine T.ind λt ih ht=>?_;have hs:=ht;unfold Tz at hs;rw[jhq]at hs;have hnl:=jiF t;have hne:=jeU t;have key:=upto (P:=λi=>∀R:Xc,R.length+jct (t.args.drop i)<=2000000->jp2 (tms t.args) (vi (t.args.length:Nat)) (vi i) R=some (.sl 1 (R++(jmn i (t.args.drop i)).map plc),[])) (n:=t.args.length) ?_ ?_ 0 (Nat.zero_le _) [plc []] (by rw[List.drop_zero];unfold Tz at ht;simp only[zz,jhr];omega)
 .rw [g23,jsU];simp only[Int.natCast_zero,List.drop_zero]at key;simp only[evz];exact key
 .intro R hR;have nlt:¬((t.args.length:Nat):Int)<((t.args.length:Nat):Int):=by omega
  rw[jxm,List.drop_length];simp only[evz,nlt];rw[jmn,List.map_nil,KO]
 .intro i hi ih2 R hR;have hlt:(i:Int)<((t.args.length:Nat):Int):=by omega
  have ed:jct (t.args.drop i)=nodes t.args[i]+jct (t.args.drop (i+1)):=by rw[jcS hi];rfl
  have e2:=ih t.args[i] (jdM _) (ht.args _ (jdM _));have hpl:=jmo t.args[i];have hin:=jvv i (tms t.args) (vi (t.args.length:Nat)) (jjl t.args[i]) [] R (by rw[jY];omega) (λq hq=>by have:=(jmp t.args[i] q hq).2;omega) (by omega) (by omega);have ih3:=ih2 (R++((jjl t.args[i]).map (i::·)).map plc) (by rw[qg,jbD,jbD];omega);simp only[jY,jhr,Int.natCast_zero]at hin;rw[jxm,jcS hi,jmn];simp only[evz,hlt,jay hi,jbK,e2,hin,ih3];rw[JP,jB]
theorem jvA(m:Nm')(hm:∀p∈m,jcE p.1=true):∀t:T,Rx' t->Tz t->joF (tm t) (.mp (m.map kn))=some (.top,[sv (jik (λn=>(jih m n).getD n) t).name,.sl 66 ((jik (λn=>(jih m n).getD n) t).args.map jbL)]):=by
 refine T.ind λt ih hk ht=>?_;have hz:=ht;unfold Tz at hz;rw[jhq]at hz;have e0:=jyD m t.name;rw[jzd,jlu];cases hv:jcE t.name with
 |true=>
  have ha:=hk.va hv;rw[jc6 rfl];obtain⟨n,us⟩:=t;have ha:us=[]:=ha;subst ha;have lp:∀x:Xb,jlm (.mp (m.map kn)) (.sl 2 []) (vi 0) (vi 0) (sv []) (sv x) [] []=some (.top,[sv x,.sl 66 []]):=λx=>by
   rw[jpF];simp only[evz]
  have e0:jcP none true true [sv []] (.mp (m.map kn)) (sv n)=some (match jih m n with|some r=>.tup [sv r,vb true]|none=>.tup [sv [],vb false]):=e0;show Option.bind (jeo 2 (.agg [sv n,.sl 2 []])) _=some (A.top,[sv ((jih m n).getD n),.sl 66 []]);cases hl:jih m n with
  |none=>
   rw[hl]at e0;have lp:=lp n;simp only[evz,e0,lp,Option.getD_none,Int.natCast_zero]
  |some r=>
   rw[hl]at e0;have lp:=lp r;simp only[evz,e0,lp,QU,Int.natCast_zero]
 |false=>
  rw[jtl hm hv]at e0;rw[ko Bool.false_ne_true];have key:=(upto (P:=λi=>jlm (.mp (m.map kn)) (tms t.args) (vi (t.args.length:Nat)) (vi i) (sv []) (sv t.name) [] (((t.args.map (jik λn=>(jih m n).getD n)).take i).map jbL)=some (.top,[sv t.name,.sl 66 ((t.args.map (jik λn=>(jih m n).getD n)).map jbL)])) (n:=t.args.length) ?_ ?_) 0 (Nat.zero_le _)
  .simp only[Int.natCast_zero,List.take_zero,List.map_nil]at key;simp only[evz,e0,key];rfl
  .rw [jpF,jQ (by rw[jbD];omega)]
   simp only[evz]
  .intro i hi ih';have hlt:(i:Int)<((t.args.length:Nat):Int):=by omega
   have h5:=jeN hi (by show t.args.length<=9223372036854775807;omega)
   have e2:=ih t.args[i] (jdM _) (hk.args _ (jdM _)) (ht.args _ (jdM _));have hf:jbb (i+1) 40=true:=jrM (by omega);have hi2:i<(t.args.map (jik λn=>(jih m n).getD n)).length:=by rw[jbD];exact hi
   have hl:(((t.args.map (jik λn=>(jih m n).getD n)).take i).map jbL).length=i:=by rw[jbD,List.length_take,jbD];omega
   have ha:jgs (((t.args.map (jik λn=>(jih m n).getD n)).take i).map jbL) [[sv (jik (λn=>(jih m n).getD n) t.args[i]).name,tms (jik (λn=>(jih m n).getD n) t.args[i]).args]]=((t.args.map (jik λn=>(jih m n).getD n)).take (i+1)).map jbL:=by
    rw[show[sv (jik (λn=>(jih m n).getD n) t.args[i]).name,tms (jik (λn=>(jih m n).getD n) t.args[i]).args]=jbL (jik (λn=>(jih m n).getD n) t.args[i]) from(jf3 _).symm,List.take_add_one,jw hi2,jB,List.getElem_map];rfl
   generalize ((t.args.map (jik λn=>(jih m n).getD n)).take i).map jbL=R at *;generalize jik (λn=>(jih m n).getD n) t.args[i]=u at *;rw[jpF];simp only[evz,hlt,jay hi,jbK,e2,hl,hf,ha,h5,ih',List.getElem?_cons_zero,List.getElem?_cons_succ,jjs,jk5]
theorem jvB(p:UInt8)(t:T)(hx:Rx' t)(ht:Tz t):joF (tm t) (.mp ((jkS p 0 (jiz [] t)).map kn))=some (.top,[sv (ji6 p t).name,.sl 66 ((ji6 p t).args.map jbL)]):=by
 have hv:∀n∈jiz [] t,jcE n=true:=λn hn=>by
  rcases(jqJ t [] n).1 hn with h|h
  .cases h
  .exact jvU t h
 have:=jvA (jkS p 0 (jiz [] t)) (jqM hv) t hx ht;rw[jrr]at this;exact this
theorem jww{t:T}(ht:Tz t)(h:jmb t=true):Rx' t/\nodes t<=30:=by
 unfold jmb at h;rw[QV,QR,YZ]at h;rcases h with h|⟨h,he⟩
 .unfold jgE at h;rw[QR]at h;exact⟨Or.inl h.2,by have:=h.1;simp only[jeO,QR,YZ]at this;exact this.1⟩
 .have:=jvD h he;exact⟨AxT.rx this.rx,this.2.2.2.2⟩
theorem jyH(p:UInt8)(hp:upc p=true)(t:T)(ht:Tz t)(he:jmb t=true) :
  G 22 [tm t,sv [p]]=some (.tup [tm (ji6 p t),vb true],[])/\jtY (tm t) (sv [p])=some (.top,[sv (ji6 p t).name,vb true,.sl 66 ((ji6 p t).args.map jbL)]):=by
 obtain⟨hx,hn⟩:=jww ht he;have e1:=jtd t ht;rw[he]at e1;have e2:=jkG p;rw[hp]at e2;have ix:jaj (sv [p]) (vi 0)=some (vy (p.toNat:Int)):=rfl;have c1:=jqm t hx ht [] (by simp only[jhr];omega);rw[List.map_nil]at c1;have hl:=jlc (t:=t) (by omega);have e3:=jq3 p (jiz [] t) (jn3 t List.nodup_nil) hl;have e4:=jvB p t hx ht;have hlen:((((1:Nat)):Int)=1)=True:=by simp
 constructor
 .rw [g22];simp only[evz,e1,hlen,ix,e2,c1,e3,e4,List.getElem?_cons_zero,List.getElem?_cons_succ,jjs]
 .rw [jza];simp only[evz,e1,hlen,ix,e2,c1,e3,e4,List.getElem?_cons_zero,List.getElem?_cons_succ,jjs]
theorem jzN(t:T)(ht:Tz t)(hn:nodes t<=30)(hv:jcE t.name=false):jrX (sv t.name) (tms t.args) []=some (.top,[.sl 1 ((jiz [] t).map cs)]):=by
 have hz:=ht;unfold Tz at hz;rw[jhq]at hz;have hnn:=jeU t;have e0:=jhT t.name (((jgC t).1 ht.wf).1);rw[hv]at e0;have key:=upto (P:=λi=>∀l:Xa,l.length+jct (t.args.drop i)<=4000000->jm9 (vi (i:Nat)) (sv t.name) (tms t.args) (l.map cs)=some (.top,[.sl 1 ((jkK l (t.args.drop i)).map cs)])) (n:=t.args.length) ?_ ?_ 0 (Nat.zero_le _) [] (by rw[List.drop_zero];simp only[jhr];omega);rotate_left
 .intro l _;rw[jpA,List.drop_length];simp only[evz];rfl
 .intro i hi ihi l hl;have hlt:(i:Int)<((t.args.length:Nat):Int):=by omega
  have h5:=jeN hi (by show t.args.length<=9223372036854775807;omega)
  rw[jcS hi,jct]at hl;have q:=jlQ t.args[i] (ht.args _ (jdM hi)) l (by omega);have hln:=jlr t.args[i] l;have q2:=ihi (jiz l t.args[i]) (by omega);rw[jpA,jcS hi,jkK];generalize jiz l t.args[i]=l' at *;have hr:hR 1 (A.top,[.sl 1 (l'.map cs)]) 0=some (l'.map cs):=rfl;simp only[evz,hlt,jay hi,jbK,q,hr,h5,q2]
 rw[List.drop_zero,List.map_nil]at key;have e2:jpq (vi 0) (sv t.name) (tms t.args) []=jm9 (vi 0) (sv t.name) (tms t.args) []:=by rw[jwF,jpA]
 simp only[Int.natCast_zero]at key;rw[jy6,jmj,hv,ko Bool.false_ne_true];simp only[evz,e0,e2,key]
theorem jAY(a b:T)(ha:Tz a)(hb:Tz b)(na:nodes a<=3000)(nb:nodes b<=3000):jtX (sv [61]) [[sv a.name,tms a.args],[sv b.name,tms b.args]] []=some (.top,[.sl 2 [[sv a.name,tms a.args],[sv b.name,tms b.args]],.sl 1 ((jiz [] (.mk [61] [a,b])).map cs)]):=by
 have e0:=jhT [61] (by decide);have q1:=jlQ a ha [] (by simp only[jhr];omega);have hln:=jlr a [];have q2:=jlQ b hb (jiz [] a) (by simp only[jhr]at hln;omega);rw[List.map_nil]at q1;have e1:jiz [] (.mk [61] [a,b])=jiz (jiz [] a) b:=by
  rw[jmj,show jcE (T.mk [61] [a,b]).name=false from by show jcE [61]=false;decide,ko Bool.false_ne_true]
  rfl
 have hv:jcE [61]=false:=by decide
 rw[hv]at e0;have r0:jfU [[sv a.name,tms a.args],[sv b.name,tms b.args]] 0 0 2=some (tm a):=by cases a;rfl
 have r1:jfU [[sv a.name,tms a.args],[sv b.name,tms b.args]] 1 0 2=some (tm b):=by cases b;rfl
 have hr:∀l':Xa,hR 1 (A.top,[.sl 1 (l'.map cs)]) 0=some (l'.map cs):=λ_=>rfl;have lr: [[sv a.name,tms a.args],[sv b.name,tms b.args]].length=2:=rfl;rw[e1];generalize hR': [[sv a.name,tms a.args],[sv b.name,tms b.args]]=R at *;generalize jiz [] a=l1 at *;have c1:ck (0+1)=some (vi 1):=jht (n:=0+1) (by omega) (by omega);have c2:ck (1+1)=some (vi 2):=jht (n:=1+1) (by omega) (by omega);have i0:pIx R.length (vi 0)=some 0:=jit (i:=0) (by omega);have i1:pIx R.length (vi 1)=some 1:=jit (i:=1) (by omega);have n0:(0:Int)<((R.length:Nat):Int):=by omega
 have n1:(1:Int)<((R.length:Nat):Int):=by omega
 have n2:¬(2:Int)<((R.length:Nat):Int):=by omega
 have s2:jna (vi 2) (sv [61]) ((jiz l1 b).map cs) R=some (.top,[.sl 2 R,.sl 1 ((jiz l1 b).map cs)]):=by
  rw[jsE];simp only[evz,n2]
 have s1:jna (vi 1) (sv [61]) (l1.map cs) R=some (.top,[.sl 2 R,.sl 1 ((jiz l1 b).map cs)]):=by
  rw[jsE];simp only[evz,n1,i1,r1,q2,hr,c2,s2]
 have s0:jpr (vi 0) (sv [61]) [] R=some (.top,[.sl 2 R,.sl 1 ((jiz l1 b).map cs)]):=by
  rw[jwG];simp only[evz,n0,i0,r0,q1,hr,c1,s1]
 rw[jy7];simp only[evz,e0,s0]
theorem jqi:∀{q:Xf}{t:T},okP q t->atI (q.map λn:Nat=>(n:Int)) t=some (atT q t)
 | [],_,_=>rfl
 |i::q,t,h=>by
  show(if 0<=(i:Int)/\(i:Int)<(t.args.length:Int)then atI (q.map λn:Nat=>(n:Int)) (t.args.getD ((i:Int)).toNat (.mk [] []))else none)=_;rw[jc6 ⟨by omega,by have:=h.1;omega⟩,Int.toNat_natCast];exact jqi h.2
theorem jst(t:T)(q:Xf)(ht:Tz t)(hq:okP q t)(hl:q.length<=1048576):G 47 [tm t,pln q]=some (.tup [tm (atT q t),vb true],[])/\G 35 [tm t,pln q]=some (.tup [tm (atT q t),vb true],[]):=by
 refine⟨?_,at_eq t q ht hq (by omega)⟩;have:=jya t (q.map λn:Nat=>(n:Int)) ht (by rw[jbD];exact hl);rw[juA,jqi hq]at this;exact this
theorem tm2(l r:T):tm (.mk [61] [l,r]) = .agg [sv [61],.sl 2 [[sv l.name,tms l.args],[sv r.name,tms r.args]]]:=by
 show A.agg [_,A.sl 2 [jbL l,jbL r]]=_;rw[jf3 l,jf3 r];rfl
theorem jjD{t:T}(h:okT t=true)(hn:nodes t<=100000):Tz t:=by have:=jjy t h;unfold Tz;omega
def jAZ(o:Option T):Out:=match o with|none=>(.top,[sv [],vb false,.sl 66 []])|some u=>(.top,[sv u.name,vb true,.sl 66 (u.args.map jbL)])
def jA0(o:Option T):Out:=match o with|none=>(.tup [.agg [sv [],.sl 2 []],vb false],[])|some u=>(.tup [tm u,vb true],[])
theorem hRp(x y:A)(k:Nat)(r:Xc):hR k (A.top,[x,y,.sl k r]) 2=some r:=by
 unfold hR;simp
section
variable{x y:T}(hx:RL x)(hy:RL y){q:Xf}(hq:q∈jjl (jhp y))
include hx hy hq
theorem jtF:jpZ (tm x) (tm y) (pln q)=some (jAZ (jio x y q)):=by
 obtain⟨ok,hl⟩:=jmp _ q hq;have nx:=hx.nd;have ny:=hy.nd;have tx0:=jjD hx.2.2.1 (by omega);have tx1:=jjD hx.2.2.2.1 (by omega);have ty0:=jjD hy.2.2.1 (by omega);have ty1:=jjD hy.2.2.2.1 (by omega);obtain⟨j0,j1⟩:=jkt hx.2.1;obtain⟨i0,i1⟩:=jkt hy.2.1;have a1:=(jst (jhp y) q ty0 ok (by omega)).1;have hs:=jud ok hy.2.2.1;have hn:=jl7 ok;have v1:=ji9 (atT q (jhp y)) (Or.inl hs);have ea:=jmC hs (by omega);have ex:=jmC hx.2.2.1 (by omega);have u1:=jvR (atT q (jhp y)) (jhp x) ea ex;rw[jrg ex ea]at u1;rw[jzb];cases hv:jcE (atT q (jhp y)).name<;>rw[hv]at v1
 rotate_left
 .have ho:jio x y q=none:=by unfold jio;rw[jc6 hv]
  rw[ho];simp only[evz,i0,jbK,a1,v1];rfl
 cases hu:jjV (jhp x) (atT q (jhp y))with
 |none=>
  rw[hu]at u1;have u1:G 49 [tm (atT q (jhp y)),tm (jhp x)]=some (.tup [.agg [.sl 3 []],vb false],[]):=u1;have ho:jio x y q=none:=by unfold jio;rw[ko (by rw[hv];decide),hu]
  rw[ho];simp only[evz,i0,j0,jbK,a1,v1,u1];rfl
 |some s=>
  rw[hu]at u1;have u1:G 49 [tm (atT q (jhp y)),tm (jhp x)]=some (.tup [sb s,vb true],[]):=u1;have hsv:=jkP ex ea hu;obtain⟨w1,w2,w3,w4,w5⟩:=jmG hx hy ok hsv;have r1:=jmZ (jii x) tx1 q (jhp y) ty0 ok (by omega);have tw:=jjD w1 (by omega);have p1:=jln s hsv (jhs (jii x) q (jhp y)) (Or.inl w1) tw;have p2:=jln s hsv (jii y) (Or.inl hy.2.2.2.1) ty1;have to2:tm (jiV s x y q) = .agg [sv [61],.sl 2 [[sv (sub s (jhs (jii x) q (jhp y))).name,tms (sub s (jhs (jii x) q (jhp y))).args],[sv (sub s (jii y)).name,tms (sub s (jii y)).args]]]:=tm2 _ _;have eo:jiV s x y q = .mk [61] [sub s (jhs (jii x) q (jhp y)),sub s (jii y)]:=rfl;have ho:jio x y q=if !jeO (jiV s x y q) || dq (sub s (jhs (jii x) q (jhp y))) (sub s (jii y))then none else some (ji6 88 (jiV s x y q)):=by
   unfold jio;rw[ko (by rw[hv];decide),hu]
  have nl:nodes (sub s (jhs (jii x) q (jhp y)))<=2700/\nodes (sub s (jii y))<=2700:=by
   simp only[jiV,nodes,jct]at w5;omega
  rw[ho];generalize sub s (jhs (jii x) q (jhp y))=l at *;generalize sub s (jii y)=r at *;have tl:=jjD w3 (by omega);have tr:=jjD w4 (by omega);have to:Tz (jiV s x y q):=by
   rw[eo];have h1:=jjy l w3;have h2:=jjy r w4;unfold Tz;rw[jhq];simp only[jji,zz,jhr,T.name,T.args];omega
  have sm:=jkF (jiV s x y q) to.wf to;have en:=jin l tl.wf r tr.wf;have k0:pIx 2 (vi 0)=some 0:=jit (i:=0) (by omega);have k1:pIx 2 (vi 1)=some 1:=jit (i:=1) (by omega);have z0:jfU [[sv l.name,tms l.args],[sv r.name,tms r.args]] 0 0 2=some (tm l):=by cases l;rfl
  have z1:jfU [[sv l.name,tms l.args],[sv r.name,tms r.args]] 1 0 2=some (tm r):=by cases r;rfl
  have ln:JL [[sv l.name,tms l.args],[sv r.name,tms r.args]]=2:=rfl;cases hsm:jeO (jiV s x y q)<;>rw[hsm]at sm
  .rw [eo,tm2]at sm;rw[show(!false || dq l r)=true from rfl,jc6 rfl];simp only[evz,i0,i1,j0,j1,jbK,a1,v1,u1,r1,p1,p2,sm];rfl
  cases hd:dq l r<;>rw[hd]at en
  rotate_left
  .rw [eo,tm2]at sm;rw[show(!true || true)=true from rfl,jc6 rfl];simp only[evz,i0,i1,j0,j1,jbK,a1,v1,u1,r1,p1,p2,sm,ln,k0,k1,z0,z1,en];rfl
  .have he:jmb (jiV s x y q)=true:=by
    unfold jmb jkq;rw[hsm,eo];show(_ || (decide ([61]=[61]) && (decide (2=2) && (true && (okT l && okT r)))))=true;rw[w3,w4];simp
   have rn:=(jyH 88 (by decide) (jiV s x y q) to he).2;rw[eo,tm2]at sm;rw[to2]at rn;rw[show(!true || false)=false from rfl,ko Bool.false_ne_true];generalize ji6 88 (jiV s x y q)=u at *;show _=some (A.top,[sv u.name,vb true,.sl 66 (u.args.map jbL)]);simp only[evz,i0,i1,j0,j1,jbK,a1,v1,u1,r1,p1,p2,sm,ln,k0,k1,z0,z1,en,rn,hRp,List.getElem?_cons_zero,List.getElem?_cons_succ,jjs,jk3]
theorem jtG:G 18 [tm x,tm y,pln q]=some (jA0 (jio x y q)):=by
 obtain⟨ok,hl⟩:=jmp _ q hq;have nx:=hx.nd;have ny:=hy.nd;have tx0:=jjD hx.2.2.1 (by omega);have tx1:=jjD hx.2.2.2.1 (by omega);have ty0:=jjD hy.2.2.1 (by omega);have ty1:=jjD hy.2.2.2.1 (by omega);obtain⟨j0,j1⟩:=jkt hx.2.1;obtain⟨i0,i1⟩:=jkt hy.2.1;have a1:=(jst (jhp y) q ty0 ok (by omega)).2;have hs:=jud ok hy.2.2.1;have hn:=jl7 ok;have v1:=jhT (atT q (jhp y)).name (((jgC _).1 (jjD hs (by omega)).wf).1);have ea:=jmC hs (by omega);have ex:=jmC hx.2.2.1 (by omega);have u1:=jrE (jhp x) (atT q (jhp y)) ex ea;rw[g18];cases hv:jcE (atT q (jhp y)).name<;>rw[hv]at v1
 rotate_left
 .have ho:jio x y q=none:=by unfold jio;rw[jc6 hv]
  rw[ho];simp only[evz,i0,jbK,a1,v1];rfl
 cases hu:jjV (jhp x) (atT q (jhp y))with
 |none=>
  rw[hu]at u1;have u1:G 36 [tm (jhp x),tm (atT q (jhp y))]=some (.tup [.agg [.sl 3 []],vb false],[]):=u1;have ho:jio x y q=none:=by unfold jio;rw[ko (by rw[hv];decide),hu]
  rw[ho];simp only[evz,i0,j0,jbK,a1,v1,u1];rfl
 |some s=>
  rw[hu]at u1;have u1:G 36 [tm (jhp x),tm (atT q (jhp y))]=some (.tup [sb s,vb true],[]):=u1;have hsv:=jkP ex ea hu;obtain⟨w1,w2,w3,w4,w5⟩:=jmG hx hy ok hsv;have r1:=js6 (jii x) tx1 q (jhp y) ty0 ok (by omega);have tw:=jjD w1 (by omega);have sz:Sz 1048576 s:=(jiy hsv).sz;have p1:=jkH s sz (jhs (jii x) q (jhp y)) tw;have p2:=jkH s sz (jii y) ty1;have to2:tm (jiV s x y q) = .agg [sv [61],.sl 2 [[sv (sub s (jhs (jii x) q (jhp y))).name,tms (sub s (jhs (jii x) q (jhp y))).args],[sv (sub s (jii y)).name,tms (sub s (jii y)).args]]]:=tm2 _ _;have eo:jiV s x y q = .mk [61] [sub s (jhs (jii x) q (jhp y)),sub s (jii y)]:=rfl;have ho:jio x y q=if !jeO (jiV s x y q) || dq (sub s (jhs (jii x) q (jhp y))) (sub s (jii y))then none else some (ji6 88 (jiV s x y q)):=by
   unfold jio;rw[ko (by rw[hv];decide),hu]
  have nl:nodes (sub s (jhs (jii x) q (jhp y)))<=2700/\nodes (sub s (jii y))<=2700:=by
   simp only[jiV,nodes,jct]at w5;omega
  rw[ho];generalize sub s (jhs (jii x) q (jhp y))=l at *;generalize sub s (jii y)=r at *;have tl:=jjD w3 (by omega);have tr:=jjD w4 (by omega);have to:Tz (jiV s x y q):=by
   rw[eo];have h1:=jjy l w3;have h2:=jjy r w4;unfold Tz;rw[jhq];simp only[jji,zz,jhr,T.name,T.args];omega
  have sm:=jlO (jiV s x y q) to.wf to (by rw[eo];rfl)
  have eq0:jkq (jiV s x y q)=jeO (jiV s x y q):=by
   unfold jkq;rw[eo];show(decide (2=2) && (jeO _ && (okT l && okT r)))=_;rw[w3,w4];simp
  rw[eq0]at sm;have en:=jjj l tl.wf r tr.wf;have k0:pIx 2 (vi 0)=some 0:=jit (i:=0) (by omega);have k1:pIx 2 (vi 1)=some 1:=jit (i:=1) (by omega);have z0:jfU [[sv l.name,tms l.args],[sv r.name,tms r.args]] 0 0 2=some (tm l):=by cases l;rfl
  have z1:jfU [[sv l.name,tms l.args],[sv r.name,tms r.args]] 1 0 2=some (tm r):=by cases r;rfl
  have ln:JL [[sv l.name,tms l.args],[sv r.name,tms r.args]]=2:=rfl;cases hsm:jeO (jiV s x y q)<;>rw[hsm]at sm
  .rw [eo,tm2]at sm;rw[show(!false || dq l r)=true from rfl,jc6 rfl];simp only[evz,i0,i1,j0,j1,jbK,a1,v1,u1,r1,p1,p2,sm];rfl
  cases hd:dq l r<;>rw[hd]at en
  rotate_left
  .rw [eo,tm2]at sm;rw[show(!true || true)=true from rfl,jc6 rfl];simp only[evz,i0,i1,j0,j1,jbK,a1,v1,u1,r1,p1,p2,sm,ln,k0,k1,z0,z1,en];rfl
  .have o1:=jAY l r tl tr (by omega) (by omega);have hno:nodes (jiV s x y q)<=30:=by simp only[jeO,QR,YZ]at hsm;exact hsm.1
   have rn:=jla 88 (jiz [] (jiV s x y q)) (jlc (by omega)) (jiV s x y q) to;rw[<-eo]at o1;rw[eo,tm2]at sm;rw[to2]at rn;rw[show(!true || false)=false from rfl,ko Bool.false_ne_true];have hr0:∀R l',hR 2 (A.top,[.sl 2 R,.sl 1 l']) 0=some R:=λ_ _=>rfl;have hr1:∀R l',hR 1 (A.top,[.sl 2 R,.sl 1 l']) 1=some l':=λ_ _=>rfl;have rn:G 15 [.agg [sv [61],.sl 2 [[sv l.name,tms l.args],[sv r.name,tms r.args]]],strs (jiz [] (jiV s x y q)),sv [88]]=some (tm (ji6 88 (jiV s x y q)),[]):=rn;generalize ji6 88 (jiV s x y q)=u at *;generalize jiz [] (jiV s x y q)=os at *;show _=some (A.tup [tm u,vb true],[]);simp only[evz,i0,i1,j0,j1,jbK,a1,v1,u1,r1,p1,p2,sm,ln,k0,k1,z0,z1,en,o1,hr0,hr1,rn]
end
theorem RL.sz{t:T}(h:RL t):tsz t<=1000:=by
 have n:=h.nd;have h1:=jjy _ h.2.2.1;have h2:=jjy _ h.2.2.2.1;rw[jhq,h.two,h.1];simp only[jji,zz,jhr];omega
theorem RL.tz{t:T}(h:RL t):Tz t:=by have:=h.sz;unfold Tz;omega
theorem jpN{x y:T}(hx:RL x)(hy:RL y){q:Xf}(hq:q∈jjl (jhp y)){u:T}(h:jio x y q=some u):RL u:=by
 obtain⟨ok,_⟩:=jmp _ q hq;have nx:=hx.nd;have ny:=hy.nd;have hs:=jud ok hy.2.2.1;have hn:=jl7 ok;unfold jio at h;split at h
 .cases h
 split at h
 .cases h
 rename_i s hu;have hsv:=jkP (jmC hx.2.2.1 (by omega)) (jmC hs (by omega)) hu;obtain⟨w1,w2,w3,w4,w5⟩:=jmG hx hy ok hsv;split at h
 .cases h
 rename_i hc;cases h;have hsm:jeO (jiV s x y q)=true:=by
  cases e:jeO (jiV s x y q)
  .rw [e]at hc;exact absurd rfl hc
  .rfl
 simp only[jeO,QR,YZ]at hsm;exact jrQ (by decide) ⟨rfl,rfl,w3,w4,hsm.1⟩
theorem jnD(acc:Xg)(o:Option T):(jl6 acc o).length<=acc.length+1:=by
 cases o with
 |none=>exact Nat.le_succ _
 |some t=>
  show(if _ then acc else acc++[t]).length<=_;split
  .omega
  .simp
theorem jnE{p:T->Prop}{acc:Xg}(h:∀u∈acc,p u){o:Option T}(ho:∀u,o=some u->p u):∀u∈jl6 acc o,p u:=by
 cases o with
 |none=>exact h
 |some t=>
  show ∀u∈(if acc.any (λu=>dq u t)then acc else acc++[t]),p u;split
  .exact h
  .intro u hu;rcases YW.1 hu with hu|hu
   .exact h u hu
   .rw [j6.1 hu];exact ho t rfl
theorem jv7(acc:Xg)(hl:acc.length<=1000)(hz:∀v∈acc,RL v)(u:T)(hu:RL u):G 25 [A.sl 2 (acc.map jbL),A.fn 26 [A.elt [sv u.name,tms u.args] 0]]=some (vb (acc.any λv=>dq v u),[]):=
 jk0 (f:=26) (caps:=[A.elt [sv u.name,tms u.args] 0]) rfl (λv=>dq v u) acc (by show acc.length<=9223372036854775807;omega) λv hv=>by
  have e:=jin v (hz v hv).tz.wf u hu.tz.wf;have l:jb6 2 (.elt [sv u.name,tms u.args] 0)=some (tm u):=by cases u;rfl
  rw[g26];simp only[evz,l,e]
theorem joL(acc:Xg)(u:T):jgs (acc.map jbL) [[sv u.name,tms u.args]]=(acc++[u]).map jbL:=by
 unfold jgs;rw[jB,show[sv u.name,tms u.args]=jbL u from(jf3 u).symm];rfl
section
variable{x y:T}(hx:RL x)(hy:RL y)
include hx hy
theorem jqq:∀(r M:List Xf)(acc:Xg),M++r=jjl (jhp y)->(∀u∈acc,RL u)->acc.length+r.length<=1000->(M++r).length<=1000->
  jmx (.sl 1 ((M++r).map plc)) (vi ((M++r).length:Nat)) (vi (M.length:Nat)) (sv x.name) (tms x.args) (sv y.name) (tms y.args) (acc.map jbL)=some (.top,[vb true,.sl 66 ((r.foldl (λacc q=>jl6 acc (jio x y q)) acc).map jbL)])
 | [],M,acc,_,_,_,_=>by
  have nlt:¬((M.length:Nat):Int)<((M.length:Nat):Int):=by omega
  rw[ju0,KO];simp only[evz,nlt,List.foldl_nil]
 |q::r,M,acc,hM,ha,hl,hn=>by
  have h1:=jmE M r q;have h2:zP 1 (.sl 1 ((M++q::r).map plc)) (vi (M.length:Nat))=some (.elt (plc q) 0):=jmh (f:=plc) (k:=1) M r q;have h3:jb7 (.elt (plc q) 0)=some (pln q):=rfl;have h5:=jeN (i:=M.length) (n:=(M++q::r).length) (by simp) (by omega);have hq:q∈jjl (jhp y):=by rw[<-hM];simp
  have e:=jtF hx hy hq;have hrl:∀u,jio x y q=some u->RL u:=λu h=>jpN hx hy hq h;have hal:=jnD acc (jio x y q);have ih:=jqq r (M++[q]) (jl6 acc (jio x y q)) (by rw[<-hM];simp) (jnE ha hrl) (by simp only[zz]at hl;omega) (by simpa using hn);rw[show(M++[q]).length=M.length+1 by simp,JP,List.singleton_append]at ih;rw[ju0,List.foldl_cons];cases ho:jio x y q with
  |none=>
   rw[ho]at e ih;have e:jpZ (tm x) (tm y) (pln q)=some (.top,[sv [],vb false,.sl 66 []]):=e;have ih:jmx (.sl 1 ((M++q::r).map plc)) (vi ((M++q::r).length:Nat)) (vi ((M.length+1:Nat):Int)) (sv x.name) (tms x.args) (sv y.name) (tms y.args) (acc.map jbL)=_:=ih;simp only[evz,h1,h2,h3,e,h5,ih,hRp,List.getElem?_cons_zero,List.getElem?_cons_succ,jjs,jk3]
  |some u=>
   rw[ho]at e ih;have e:jpZ (tm x) (tm y) (pln q)=some (.top,[sv u.name,vb true,.sl 66 (u.args.map jbL)]):=e;have hu:=hrl u ho;have hc:=jv7 acc (by simp only[zz]at hl;omega) ha u hu;cases hb:(acc.any λv=>dq v u)<;>rw[hb]at hc
   .have ea:jl6 acc (some u)=acc++[u]:=by show(if _ then acc else acc++[u])=_;rw[hb];rfl
    have hf:jbb (acc.length+1) 40=true:=jrM (by simp only[zz]at hl;omega)
    have ap:=joL acc u;rw[ea]at ih⊢;simp only[evz,h1,h2,h3,e,h5,hc,hf,ap,ih,hRp,List.getElem?_cons_zero,List.getElem?_cons_succ,jjs,jk3,jk5]
   .have ea:jl6 acc (some u)=acc:=by show(if _ then acc else acc++[u])=_;rw[hb];rfl
    rw[ea]at ih⊢;simp only[evz,h1,h2,h3,e,h5,hc,ih,hRp,List.getElem?_cons_zero,List.getElem?_cons_succ,jjs,jk3]
omit hx hy in
theorem inS(P:A)(i:Nat)(hi:i<=100000)(u:T)(hu:RL u)(b1 b2 b3 b4:A):∀(r M:Xg)(b:Bool),(∀v∈r,RL v)->(M++r).length<=1000->
  juc P (vi (i:Nat)) (vb b) (vi (M.length:Nat)) b1 b2 b3 b4 (sv u.name) (tms u.args) ((M++r).map jbL)=jp7 P (vi ((i+1:Nat):Int)) b1 b2 b3 b4 ((if b && !(r.any λv=>dq v u)then M++r++[u]else M++r).map jbL)
 | [],M,b,_,hl=>by
  have h5:=jeN (i:=i) (n:=i+1) (by omega) (by omega);have nlt:¬((M.length:Nat):Int)<((M.length:Nat):Int):=by omega
  have hf:jbb (M.length+1) 40=true:=jrM (by simp only[KO]at hl;omega)
  have ap:=joL M u;rw[jwI,KO];cases b
  .rw [Bool.false_and,ko Bool.false_ne_true];simp only[evz,nlt,h5]
  .rw [show(true && !(([]:Xg).any λv=>dq v u))=true from rfl,jc6 rfl];simp only[evz,nlt,hf,ap,h5]
 |v::r,M,false,_,hl=>by
  have h5:=jeN (i:=i) (n:=i+1) (by omega) (by omega);have h1:=jmE M r v;rw[jwI,Bool.false_and,ko Bool.false_ne_true];simp only[evz,h1,h5]
 |v::r,M,true,hv,hl=>by
  have h1:=jmE M r v;have h4:=jeN (i:=M.length) (n:=(M++v::r).length) (by simp) (by omega);have i0:pIx (M++v::r).length (vi (M.length:Nat))=some M.length:=jit (by simp);have z0:jfU ((M++v::r).map jbL) M.length 0 2=some (tm v):=by
   unfold jfU;rw[KN];simp;rw[jf3];rfl
  have e:=jjj v (hv v (by simp)).tz.wf u hu.tz.wf;have ih:=inS P i hi u hu b1 b2 b3 b4 r (M++[v]) (!dq v u) (λw hw=>hv w (by simp[hw])) (by simpa using hl);rw[show(M++[v]).length=M.length+1 by simp,JP,List.singleton_append]at ih;rw[jwI,List.any_cons];cases hd:dq v u<;>rw[hd]at e ih
  .rw [show(!false)=true from rfl,Bool.true_and]at ih;rw[Bool.false_or,Bool.true_and];simp only[evz,h1,i0,z0,e,h4,ih]
  .rw [show(!true)=false from rfl,Bool.false_and,ko Bool.false_ne_true]at ih;rw[Bool.true_or,show(true && !true)=false from rfl,ko Bool.false_ne_true];simp only[evz,h1,i0,z0,e,h4,ih]
theorem jqr:∀(r M:List Xf)(acc:Xg),M++r=jjl (jhp y)->(∀u∈acc,RL u)->acc.length+r.length<=1000->(M++r).length<=1000->
  jp7 (.sl 1 ((M++r).map plc)) (vi (M.length:Nat)) (sv x.name) (tms x.args) (sv y.name) (tms y.args) (acc.map jbL)=some (.tup [tms (r.foldl (λacc q=>jl6 acc (jio x y q)) acc),vb true],[])
 | [],M,acc,_,_,_,_=>by
  have nlt:¬((M.length:Nat):Int)<((M.length:Nat):Int):=by omega
  rw[jyr,KO];simp only[evz,nlt,List.foldl_nil]
 |q::r,M,acc,hM,ha,hl,hn=>by
  have h1:=jmE M r q;have h2:zP 1 (.sl 1 ((M++q::r).map plc)) (vi (M.length:Nat))=some (.elt (plc q) 0):=jmh (f:=plc) (k:=1) M r q;have h3:jb7 (.elt (plc q) 0)=some (pln q):=rfl;have hq:q∈jjl (jhp y):=by rw[<-hM];simp
  have e:=jtG hx hy hq;have hrl:∀u,jio x y q=some u->RL u:=λu h=>jpN hx hy hq h;have hal:=jnD acc (jio x y q);have hML:M.length<=1000:=by rw[qg]at hn;omega
  have hal2:acc.length<=1000:=by omega
  have ih:=jqr r (M++[q]) (jl6 acc (jio x y q)) (by rw[<-hM];simp) (jnE ha hrl) (by simp only[zz]at hl;omega) (by simpa using hn)
  rw[show(M++[q]).length=M.length+1 by simp,JP,List.singleton_append]at ih;rw[jyr,List.foldl_cons];cases ho:jio x y q with
  |none=>
   rw[ho]at e ih;have e:G 18 [tm x,tm y,pln q]=some (.tup [.agg [sv [],.sl 2 []],vb false],[]):=e;have hin2:juc (.sl 1 ((M++q::r).map plc)) (vi (M.length:Nat)) (vb false) (vi 0) (sv x.name) (tms x.args) (sv y.name) (tms y.args) (sv []) (.sl 2 []) (acc.map jbL)=jp7 (.sl 1 ((M++q::r).map plc)) (vi ((M.length+1:Nat):Int)) (sv x.name) (tms x.args) (sv y.name) (tms y.args) (acc.map jbL):=by
    have h5:=jeN (i:=M.length) (n:=M.length+1) (by omega) (by omega);rw[jwI];by_cases hc:(0:Int)<((acc.length:Nat):Int)
    .simp only[evz,hc,h5]
    .simp only[evz,hc,h5]
   have ih:jp7 (.sl 1 ((M++q::r).map plc)) (vi ((M.length+1:Nat):Int)) (sv x.name) (tms x.args) (sv y.name) (tms y.args) (acc.map jbL)=_:=ih;simp only[evz,h1,h2,h3,e,hin2,ih]
  |some u=>
   rw[ho]at e ih;have e:G 18 [tm x,tm y,pln q]=some (.tup [tm u,vb true],[]):=e;have hu:=hrl u ho;have hin:=inS (.sl 1 ((M++q::r).map plc)) M.length (by omega) u hu (sv x.name) (tms x.args) (sv y.name) (tms y.args) acc [] true ha (by rw[jY];exact hal2);have ea:jl6 acc (some u)=if true && !(acc.any λv=>dq v u)then[]++acc++[u]else[]++acc:=by
    show(if _ then acc else acc++[u])=_;cases (acc.any λv=>dq v u)<;>rfl
   rw[<-ea,ih]at hin;simp only[jY,jhr,Int.natCast_zero]at hin;simp only[evz,h1,h2,h3,e,hin]
end
theorem jqu{t:T}(h:t.name=[61])(he:jkq t=true):jmb t=true:=by
 unfold jmb;rw[h,he];simp
theorem jrO{t:T}(h:nodes t<=30):(jjl t).length<=30:=by rw[jmo];exact h
theorem jnP{x y:T}(hx:RL x)(hy:RL y):∀(r:List Xf)(acc:Xg),(∀q∈r,q∈jjl (jhp y))->(∀u∈acc,RL u)->(∀u∈r.foldl (λacc q=>jl6 acc (jio x y q)) acc,RL u)/\(r.foldl (λacc q=>jl6 acc (jio x y q)) acc).length<=acc.length+r.length
 | [],acc,_,ha=>⟨ha,jl _⟩
 |q::r,acc,hq,ha=>by
  obtain⟨h1,h2⟩:=jnP hx hy r (jl6 acc (jio x y q)) (λp hp=>hq p (by simp[hp])) (jnE ha λu h=>jpN hx hy (hq q (by simp)) h);have:=jnD acc (jio x y q);refine⟨h1,?_⟩;rw[List.foldl_cons,zz];omega
theorem jzn(a b:T)(ha:Tz a)(hb:Tz b):∃(l:Xg)(ok:Bool),(∀u∈l,RL u)/\l.length<=100/\jv3 (tm a) (tm b)=some (.top,[vb ok,.sl 66 (l.map jbL)])/\G 5 [tm a,tm b]=some (.tup [tms l,vb ok],[]):=by
 obtain⟨p,p1,p2,p3⟩:=js2 a ha;obtain⟨q,q1,q2,q3⟩:=js2 b hb;cases p
 .refine ⟨[],false,(λu h=>by cases h),by simp,?_,?_⟩
  .rw [jye];simp only[evz,p2];rfl
  .rw [g5];simp only[evz,p1];rfl
 cases q
 .refine ⟨[],false,(λu h=>by cases h),by simp,?_,?_⟩
  .rw [jye];simp only[evz,p2,q2];rfl
  .rw [g5];simp only[evz,p1,q1];rfl
 obtain⟨na,ea,va⟩:=p3 rfl;obtain⟨nb,eb,vb'⟩:=q3 rfl;have la:=jvD na ea;have lb:=jvD nb eb;have hx:RL (ji6 65 a):=jrQ (by decide) la;have hy:RL (ji6 66 b):=jrQ (by decide) lb;have r1:=(jyH 65 (by decide) a ha (jqu na ea)).1;have r2:=(jyH 66 (by decide) b hb (jqu nb eb)).1;have s1:=jzN a ha la.2.2.2.2 (by rw[na];decide);have s2:=jzN b hb lb.2.2.2.2 (by rw[nb];decide);have s3:G 15 [tm a,strs (jiz [] a),sv [65]]=some (tm (ji6 65 a),[]):=jla 65 (jiz [] a) (jlc (by have:=la.2.2.2.2;omega)) a ha;have s4:G 15 [tm b,strs (jiz [] b),sv [66]]=some (tm (ji6 66 b),[]):=jla 66 (jiz [] b) (jlc (by have:=lb.2.2.2.2;omega)) b hb;have ny:=hy.nd;have ty0:=jjD hy.2.2.1 (by omega);obtain⟨i0,_⟩:=jkt hy.2.1;have po:=jpO (jhp (ji6 66 b)) ty0;have wa:=walk_eq (jhp (ji6 66 b)) [] ty0 (by have:=ty0;unfold Tz at this;simp only[jhr];omega);have wa:G 17 [tm (jhp (ji6 66 b)),.sl 1 []]=some (.sl 1 ((jjl (jhp (ji6 66 b))).map plc),[]):=wa;have hp:=jrO (t:=jhp (ji6 66 b)) (by omega);obtain⟨f1,f2⟩:=jnP hx hy (jjl (jhp (ji6 66 b))) [] (λ_ h=>h) (λu h=>by cases h);have cI:=jqq hx hy (jjl (jhp (ji6 66 b))) [] [] rfl (λu h=>by cases h) (by simp only[jhr];omega) (by rw[jY];omega);have cS:=jqr hx hy (jjl (jhp (ji6 66 b))) [] [] rfl (λu h=>by cases h) (by simp only[jhr];omega) (by rw[jY];omega);simp only[jY,jhr,Int.natCast_zero,List.map_nil]at cI cS;generalize (jjl (jhp (ji6 66 b))).foldl (λacc q=>jl6 acc (jio (ji6 65 a) (ji6 66 b) q)) []=l at *;generalize jjl (jhp (ji6 66 b))=P at *;generalize ji6 65 a=x at *;generalize ji6 66 b=y at *;have h02:jx7 (.sl 1 (P.map plc)) (vi 0) (sv x.name) (tms x.args) (sv y.name) (tms y.args) []=jp7 (.sl 1 (P.map plc)) (vi 0) (sv x.name) (tms x.args) (sv y.name) (tms y.args) []:=by
  rw[jAX,jyr]
 refine⟨l,true,f1,by simp only[jhr]at f2;omega,?_,?_⟩
 .rw [jye];simp only[evz,p2,q2,r1,r2,i0,jbK,po,cI]
 .rw [g5];simp only[evz,p1,q1,s1,s2,s3,s4,i0,jbK,wa,h02,cS,List.getElem?_cons_zero]
theorem joZ(t:T)(hw:twf t)(k:Nat)(hk:k+mkL t.args<=100000000):∃X,jpX (sv t.name) (vi (k:Nat)) (t.args.map jbL)=some (.top,[vi ((k+mkL t.args:Nat):Int),.sl 66 X]):=by
 obtain⟨X,h1⟩:=jqF t hw k hk;refine⟨X,?_⟩;rw[jy5];simp only[evz,h1,List.getElem?_cons_zero,List.getElem?_cons_succ]
theorem ju7(t:T):mkL t.args<=tsz t:=by
 have:=jpI t.args;rw[jhq];omega
theorem jqG:∀l:Xg,(∀u∈l,RL u)->mkL l<=1001*l.length
 | [],_=>by simp[mkL]
 |t::l,h=>by
  have h1:=jqG l λu hu=>h u (by simp[hu]);have h2:=jsM t;have h3:=(h t (by simp)).sz;rw[mkL,zz];omega
theorem jyf(a b:A):kG [a,b] 0=a/\kG [a,b] 1=b:=⟨rfl,rfl⟩
set_option maxRecDepth 4000 in
theorem jmg(a b:T)(hw:twf a)(hwb:twf b):G 3 [tm a,tm b]=some (vb true,[]):=by
 have e1:=js5 a hw 1048576 (by decide) (by decide);have c2:jeo 2 (tm a)=some [sv a.name,.sl 2 (a.args.map jbL)]:=rfl;have c3:jeo 2 (tm b)=some [sv b.name,.sl 2 (b.args.map jbL)]:=rfl;rw[g3];by_cases h1:jiw 1048576 ((tsz a:Nat):Int)<0
 .simp only[evz,c2,c3,jyf,e1,h1]
 obtain⟨b1,b2,b3⟩:=jqE (by decide) (by decide) h1;generalize jiw 1048576 ((tsz a:Nat):Int)=l1 at *;have e2:=js5 b hwb l1 b1 b2;by_cases h2:jiw l1 ((tsz b:Nat):Int)<0
 .simp only[evz,c2,c3,jyf,e1,h1,e2,h2]
 obtain⟨b4,b5,b6⟩:=jqE b1 b2 h2;generalize jiw l1 ((tsz b:Nat):Int)=l2 at *;have tb:tsz b<=1048576:=by omega
 have a1:=jrd a b3;have a2:=jrd b tb;obtain⟨l,ok,hl,hn,r1,r2⟩:=jzn a b b3 tb;have hlw:∀u∈l,twf u:=λu hu=>(hl u hu).tz.wf;have a5:=jqt l (by omega) λt ht=>jpv t (hlw t ht);have a6:=jpv a hw;have a7:=jpv b hwb;have k1:=ju7 a;have k2:=ju7 b;have k3:=jqG l hl;obtain⟨X,m1⟩:=joZ a hw 1 (by omega);obtain⟨Y,m2⟩:=joZ b hwb (1+mkL a.args) (by omega);have hwl:twf (.mk [] l):=(jgC _).2 ⟨by show([]:Xb).length<=9223372036854775807;decide,by show l.length<=9223372036854775807;omega,(jfY _).2 hlw⟩;obtain⟨vs,m3,m4⟩:=ju6 (.mk [] l) hwl 1 (by show 1+mkL l<=100000000;omega);have m3:jkX (vi 1) (l.map jbL)=some (.top,[vi ((1+mkL l:Nat):Int),.sl 66 (vs.map jbL)]):=m3;have m4:G 12 [tms vs,vi 1]=some (vi ((1+mkL l:Nat):Int),[]):=m4;have m1:jpX (sv a.name) (vi 1) (a.args.map jbL)=_:=m1;have n1:¬((1+mkL a.args+mkL b.args:Nat):Int)<0:=by omega
 have n2:¬((1+mkL l:Nat):Int)<0:=by omega
 cases ok<;>simp only[evz,c2,c3,jyf,e1,h1,e2,h2,a1,a2,r1,r2,a5,a6,a7,m1,m2,m3,m4,n1,n2,List.getElem?_cons_zero,List.getElem?_cons_succ,jjs,jk3]
end Go.Proofs.YtocncngbocomhaaGreatDoor
