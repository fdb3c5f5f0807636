/- Pg -/
import Derived.Test.YthlhadhipnokfaaGreatDoorPf
import Derived.Test.YthlhadhipnokfaaGreatDoorPd
namespace Go.Proofs.YthlhadhipnokfaaGreatDoor
open Go Go.RowKit Go.Proofs.YthlhadhipnokfaaGreatDoor.Abs
set_option linter.unusedSimpArgs false
set_option linter.unusedVariables false
set_option maxHeartbeats 1000000
def pcl(p:Prf)(s:Stp):List kj:=p.ax++s.par.map λx=>((p.st[x.toNat]?).map Stp.cls).getD []
def jem(p:Prf)(s:Stp):Prop:=∃r:Option kj,Res (G 108 [Qu p,stm s]) r/\Res (G 93 [Qu p,stm s]) r/\ ∀c,r=some c->Cz c/\(wfP p=true->jJ c=true)/\Sd (pcl p s) c
theorem zB{p:Prf}{s:Stp}(h1:G 108 [Qu p,stm s]=some (.tup [cz,vb false],[]))(h2:G 93 [Qu p,stm s]=some (.tup [cz,vb false],[])):jem p s:=
 ⟨none,⟨[],false,h1,(λh=>by cases h),λ_=>rfl⟩,⟨[],false,h2,(λh=>by cases h),λ_=>rfl⟩,λc h=>by cases h⟩
theorem jen{ps ps':List kj}{x:kj}(h:Sd ps x)(hm:∀c∈ps,c∈ps'):Sd ps' x:=λm t=>h m λc hc=>t c (hm c hc)
theorem jFd{ps:List kj}{x:kj}(h:x∈ps):Sd ps x:=λ_ t=>t x h
theorem jaA{p:Prf}{s:Stp}{j:Nat}(hj:j<s.par.length){q:Stp}(hq:p.st[s.par[j].toNat]? = some q):q.cls∈pcl p s:=YS _ (yn.2 ⟨s.par[j],jr hj,by rw[hq];rfl⟩)
theorem jj5{p:Prf} :∀{l:Xi}{rs:Xg},qI p l=some rs-> ∀t∈rs,∃x∈l,((p.st[x.toNat]?).map Stp.cls).getD []=[(true,t)]
 | [],rs,h=>by cases h;exact λt ht=>by cases ht
 |x::xs,rs,h=>by
  unfold qI at h;split at h
  .rename_i q hq;split at h
   .rename_i t ht;rw[Jh]at h;obtain⟨rs',h1,rfl⟩:=h;intro r hr;rcases jK.1 hr with rfl|hr
    .refine ⟨x,List.mem_cons_self ..,?_⟩;rw[hq];show q.cls=[(true,r)];unfold jch at ht;split at ht
     .rename_i l hl;split at ht
      .rename_i hb;cases ht;rw[hl,<-hb]
      .cases ht
     .cases ht
    .obtain ⟨y,hy,e⟩:=jj5 h1 r hr;exact⟨y,List.mem_cons_of_mem _ hy,e⟩
   .cases h
  .cases h
theorem jIs(p:Prf)(s:Stp)(hs:s.rule=1)(hz:∀c∈p.ax,Cz c)(ha:p.ax.length<=1048576):jem p s:=by
 have a1:(s.rule=1)=True:=eq_true hs;have a2:(s.rule=2)=False:=eq_false (by omega);have a3:(s.rule=3)=False:=eq_false (by omega);have a4:(s.rule=4)=False:=eq_false (by omega);have a5:(s.rule=5)=False:=eq_false (by omega);have a6:(s.rule=6)=False:=eq_false (by omega);by_cases h1:((s.par.length:Nat):Int)=0;rotate_left
 .exact zB (by rw[Zy];simp only[je,a1,a2,a3,a4,a5,a6,h1]) (by rw[g93];simp only[je,a1,a2,a3,a4,a5,a6,h1])
 by_cases h2:((s.whr.length:Nat):Int)=1;rotate_left
 .exact zB (by rw[Zy];simp only[je,a1,a2,a3,a4,a5,a6,h1,h2]) (by rw[g93];simp only[je,a1,a2,a3,a4,a5,a6,h1,h2])
 have w0:=ixN (l:=s.whr) (j:=0) (by omega) (k:=0) rfl;have c1:ck (((p.ax.length:Nat):Int)-1)=some (vi (((p.ax.length:Nat):Int)-1)):=jV (by omega) (by omega);have p1:=yQ s.whr[0] 0 (((p.ax.length:Nat):Int)-1);have q1:=zW s.whr[0] 0 (((p.ax.length:Nat):Int)-1);cases hb:y8 0 (((p.ax.length:Nat):Int)-1) s.whr[0]<;>rw[hb]at p1 q1
 .exact zB (by rw[Zy];simp only[je,a1,a2,a3,a4,a5,a6,h1,h2,w0,Yx,c1,p1]) (by rw[g93];simp only[je,a1,a2,a3,a4,a5,a6,h1,h2,w0,Yx,c1,q1])
 have hx:0<=s.whr[0]/\s.whr[0]<((p.ax.length:Nat):Int):=by
  unfold y8 at hb;rw[jI,ky,ky]at hb;omega
 obtain⟨n,hn⟩:=jdm hx.1;have hlt:n<p.ax.length:=by omega
 have x1:jk 1 (cls p.ax) (vi s.whr[0])=some (.elt (clc p.ax[n]) 0):=by rw[hn];exact ja hlt
 refine⟨some p.ax[n],Res.of rfl ?_,Res.of rfl ?_,λc h=>by cases h;exact⟨hz _ (jr hlt),λhw=>jGN hw _ (jr hlt),jFd (ZO _ (jr hlt))⟩⟩
 .rw [Zy];simp only[je,a1,a2,a3,a4,a5,a6,h1,h2,w0,Yx,c1,p1,x1,JD]
 .rw [g93];simp only[je,a1,a2,a3,a4,a5,a6,h1,h2,w0,Yx,c1,q1,x1,JD]
theorem jIt(p:Prf)(s:Stp)(hs:s.rule=2)(hr:Pok p s)(hz:∀q∈p.st,Cz q.cls):jem p s:=by
 have a1:(s.rule=1)=False:=eq_false (by omega);have a2:(s.rule=2)=True:=eq_true hs;have a3:(s.rule=3)=False:=eq_false (by omega);have a4:(s.rule=4)=False:=eq_false (by omega);have a5:(s.rule=5)=False:=eq_false (by omega);have a6:(s.rule=6)=False:=eq_false (by omega);by_cases h1:((s.par.length:Nat):Int)=2;rotate_left
 .exact zB (by rw[Zy];simp only[je,a1,a2,a3,a4,a5,a6,h1]) (by rw[g93];simp only[je,a1,a2,a3,a4,a5,a6,h1])
 by_cases h2:((s.whr.length:Nat):Int)=2;rotate_left
 .exact zB (by rw[Zy];simp only[je,a1,a2,a3,a4,a5,a6,h1,h2]) (by rw[g93];simp only[je,a1,a2,a3,a4,a5,a6,h1,h2])
 have w0:=ixN (l:=s.whr) (j:=0) (by omega) (k:=0) rfl;have w1:=ixN (l:=s.whr) (j:=1) (by omega) (k:=1) rfl;have y0:=ixN (l:=s.par) (j:=0) (by omega) (k:=0) rfl;have y1:=ixN (l:=s.par) (j:=1) (by omega) (k:=1) rfl;obtain⟨q,mq,pq,xq⟩:=qH hr 0 (by omega);obtain⟨q',mq',pq',xq'⟩:=qH hr 1 (by omega);have k0:=jds (s:=s) 0 (by omega) (k:=0) rfl xq;have k1:=jds (s:=s) 1 (by omega) (k:=1) rfl xq';obtain⟨r,e1,e2,e3⟩:=jkV q.cls q'.cls (hz _ mq).1 (hz _ mq).2 (hz _ mq').1 (hz _ mq').2 s.whr[0] s.whr[1];obtain⟨c',b',hf⟩:=zw r;rw[hf]at e1 e2;refine⟨r,Res.of hf ?_,Res.of hf ?_,λc h=>⟨Ys (e3 c h).1,λ_=>(e3 c h).1,jen (e3 c h).2 (λx hx=>by
  simp only[jK,List.not_mem_nil,or_false]at hx;rcases hx with rfl|rfl
  .exact jaA (j:=0) (by omega) pq
  .exact jaA (j:=1) (by omega) pq')⟩⟩
 .rw [Zy];simp only[je,a1,a2,a3,a4,a5,a6,h1,h2,w0,w1,Yx,k0,k1,jpR,jpS,jpT,jpU,jpV,jpW,jpX,Za,e1]
 .rw [g93];simp only[je,a1,a2,a3,a4,a5,a6,h1,h2,w0,w1,y0,y1,Yx,xq,xq',adS,ldC,e2]
theorem jIu(p:Prf)(s:Stp)(hs:s.rule=3)(hr:Pok p s)(hz:∀q∈p.st,Cz q.cls)(hw:∀x∈s.whr,I64 x):jem p s:=by
 have a1:(s.rule=1)=False:=eq_false (by omega);have a2:(s.rule=2)=False:=eq_false (by omega);have a3:(s.rule=3)=True:=eq_true hs;have a4:(s.rule=4)=False:=eq_false (by omega);have a5:(s.rule=5)=False:=eq_false (by omega);have a6:(s.rule=6)=False:=eq_false (by omega);by_cases h1:((s.par.length:Nat):Int)=1;rotate_left
 .exact zB (by rw[Zy];simp only[je,a1,a2,a3,a4,a5,a6,h1]) (by rw[g93];simp only[je,a1,a2,a3,a4,a5,a6,h1])
 by_cases h2:((s.whr.length:Nat):Int)=2;rotate_left
 .exact zB (by rw[Zy];simp only[je,a1,a2,a3,a4,a5,a6,h1,h2]) (by rw[g93];simp only[je,a1,a2,a3,a4,a5,a6,h1,h2])
 have w0:=ixN (l:=s.whr) (j:=0) (by omega) (k:=0) rfl;have w1:=ixN (l:=s.whr) (j:=1) (by omega) (k:=1) rfl;have y0:=ixN (l:=s.par) (j:=0) (by omega) (k:=0) rfl;obtain⟨q,mq,pq,xq⟩:=qH hr 0 (by omega);have k0:=jds (s:=s) 0 (by omega) (k:=0) rfl xq;have hi:=hw s.whr[0] (jr (by omega));obtain⟨r,e1,e2,e3⟩:=jn0 q.cls (hz _ mq).1 (hz _ mq).2 s.whr[0] s.whr[1] (by unfold I64 at hi;omega);obtain⟨c',b',hf⟩:=zw r;rw[hf]at e1 e2;refine⟨r,Res.of hf ?_,Res.of hf ?_,λc h=>⟨Ys (e3 c h).1,λ_=>(e3 c h).1,jen (e3 c h).2 (λx hx=>by
  rw[zx.1 hx];exact jaA (j:=0) (by omega) pq)⟩⟩
 .rw [Zy];simp only[je,a1,a2,a3,a4,a5,a6,h1,h2,w0,w1,Yx,k0,jpR,jpS,jpT,jpU,jpV,jpW,jpX,Za,e1]
 .rw [g93];simp only[je,a1,a2,a3,a4,a5,a6,h1,h2,w0,w1,y0,Yx,xq,adS,ldC,e2]
theorem jIw(p:Prf)(s:Stp)(hs:s.rule=5)(hr:Pok p s)(hz:∀q∈p.st,Cz q.cls):jem p s:=by
 have a1:(s.rule=1)=False:=eq_false (by omega);have a2:(s.rule=2)=False:=eq_false (by omega);have a3:(s.rule=3)=False:=eq_false (by omega);have a4:(s.rule=4)=False:=eq_false (by omega);have a5:(s.rule=5)=True:=eq_true hs;have a6:(s.rule=6)=False:=eq_false (by omega);by_cases h1:((s.par.length:Nat):Int)=1;rotate_left
 .exact zB (by rw[Zy];simp only[je,a1,a2,a3,a4,a5,a6,h1]) (by rw[g93];simp only[je,a1,a2,a3,a4,a5,a6,h1])
 by_cases h2:((s.whr.length:Nat):Int)=1;rotate_left
 .exact zB (by rw[Zy];simp only[je,a1,a2,a3,a4,a5,a6,h1,h2]) (by rw[g93];simp only[je,a1,a2,a3,a4,a5,a6,h1,h2])
 have w0:=ixN (l:=s.whr) (j:=0) (by omega) (k:=0) rfl;have y0:=ixN (l:=s.par) (j:=0) (by omega) (k:=0) rfl;obtain⟨q,mq,pq,xq⟩:=qH hr 0 (by omega);have k0:=jds (s:=s) 0 (by omega) (k:=0) rfl xq;obtain⟨r,e1,e2,e3⟩:=jhg q.cls (hz _ mq).1 (hz _ mq).2 s.whr[0];obtain⟨c',b',hf⟩:=zw r;rw[hf]at e1 e2;refine⟨r,Res.of hf ?_,Res.of hf ?_,λc h=>⟨Ys (e3 c h).1,λ_=>(e3 c h).1,jen (e3 c h).2 (λx hx=>by
  rw[zx.1 hx];exact jaA (j:=0) (by omega) pq)⟩⟩
 .rw [Zy];simp only[je,a1,a2,a3,a4,a5,a6,h1,h2,w0,Yx,k0,jpR,jpS,jpT,jpU,jpV,jpW,jpX,Za,e1]
 .rw [g93];simp only[je,a1,a2,a3,a4,a5,a6,h1,h2,w0,y0,Yx,xq,adS,ldC,e2]
theorem jIv(p:Prf)(s:Stp)(hs:s.rule=4)(hr:Pok p s)(hz:∀q∈p.st,Cz q.cls)(hl:s.whr.length<=1048576):jem p s:=by
 have a1:(s.rule=1)=False:=eq_false (by omega);have a2:(s.rule=2)=False:=eq_false (by omega);have a3:(s.rule=3)=False:=eq_false (by omega);have a4:(s.rule=4)=True:=eq_true hs;have a5:(s.rule=5)=False:=eq_false (by omega);have a6:(s.rule=6)=False:=eq_false (by omega);by_cases h1:((s.par.length:Nat):Int)=2;rotate_left
 .exact zB (by rw[Zy];simp only[je,a1,a2,a3,a4,a5,a6,h1]) (by rw[g93];simp only[je,a1,a2,a3,a4,a5,a6,h1])
 by_cases h2:((s.whr.length:Nat):Int)>=3;rotate_left
 .have h3:¬((s.whr.length:Nat):Int) > 3:=by omega
  exact zB (by rw[Zy];simp only[je,a1,a2,a3,a4,a5,a6,h1,h2]) (by rw[g93];simp only[je,a1,a2,a3,a4,a5,a6,h1,h3])
 have w0:=ixN (l:=s.whr) (j:=0) (by omega) (k:=0) rfl;have w1:=ixN (l:=s.whr) (j:=1) (by omega) (k:=1) rfl;have w2:=ixN (l:=s.whr) (j:=2) (by omega) (k:=2) rfl;have y0:=ixN (l:=s.par) (j:=0) (by omega) (k:=0) rfl;have y1:=ixN (l:=s.par) (j:=1) (by omega) (k:=1) rfl;have hsl:yb 1 (ints s.whr) (some (vi 3)) none=some (ints (s.whr.drop 3)):=by
  have:=qf (k:=1) (xs:=s.whr.map ci) (i:=3) (by rw[List.length_map];omega)
  rw[<-List.map_drop]at this;exact this
 obtain⟨q,mq,pq,xq⟩:=qH hr 0 (by omega);obtain⟨q',mq',pq',xq'⟩:=qH hr 1 (by omega);have k0:=jds (s:=s) 0 (by omega) (k:=0) rfl xq;have k1:=jds (s:=s) 1 (by omega) (k:=1) rfl xq';by_cases h3:((s.whr.length:Nat):Int) > 3
 .obtain ⟨r,e1,e2,e3⟩:=jhj q.cls q'.cls (hz _ mq).1 (hz _ mq).2 (hz _ mq').1 (hz _ mq').2 s.whr[0] s.whr[1] s.whr[2] (s.whr.drop 3) (by rw[List.length_drop];omega)
  obtain⟨c',b',hf⟩:=zw r;rw[hf]at e1 e2;refine⟨r,Res.of hf ?_,Res.of hf ?_,λc h=>⟨Ys (e3 c h).1,λ_=>(e3 c h).1,jen (e3 c h).2 (λx hx=>by
   simp only[jK,List.not_mem_nil,or_false]at hx;rcases hx with rfl|rfl
   .exact jaA (j:=0) (by omega) pq
   .exact jaA (j:=1) (by omega) pq')⟩⟩
  .rw [Zy];generalize s.whr.drop 3=D at *;simp only[je,a1,a2,a3,a4,a5,a6,h1,h2,w0,w1,w2,hsl,Yx,k0,k1,jpR,jpS,jpT,jpU,jpV,jpW,jpX,Za,e1]
  .rw [g93];generalize s.whr.drop 3=D at *;simp only[je,a1,a2,a3,a4,a5,a6,h1,h3,w0,w1,w2,hsl,y0,y1,Yx,xq,xq',adS,ldC,e2]
 .rw [show s.whr.drop 3=[] from List.drop_eq_nil_of_le (by omega)]at hsl;have e1:=jkX q.cls q'.cls (hz _ mq) (hz _ mq') s.whr[0] s.whr[1] s.whr[2];have hsl:yb 1 (.sl 1 (s.whr.map ci)) (some (vi 3)) none=some (.sl 1 []):=hsl;have e1:G 132 [cm q.cls,vi s.whr[0],vi s.whr[1],cm q'.cls,vi s.whr[2],.sl 1 []]=some (.tup [cz,vb false],[]):=e1;refine zB ?_ ?_
  .rw [Zy];simp only[je,a1,a2,a3,a4,a5,a6,h1,h2,w0,w1,w2,hsl,Yx,k0,k1,jpR,jpS,jpT,jpU,jpV,jpW,jpX,Za,e1]
  .rw [g93];simp only[je,a1,a2,a3,a4,a5,a6,h1,h3]
theorem jIr(p:Prf)(s:Stp)(h1:¬s.rule=1)(h2:¬s.rule=2)(h3:¬s.rule=3)(h4:¬s.rule=4)(h5:¬s.rule=5)(h6:¬s.rule=6):jem p s:=by
 refine zB ?_ ?_
 .rw [Zy];simp only[je,h1,h2,h3,h4,h5,h6]
 .rw [g93];simp only[je,h1,h2,h3,h4,h5,h6]
theorem jIx(p:Prf)(s:Stp)(hs:s.rule=6)(hr:Pok p s)(hz:∀q∈p.st,Cz q.cls)(hl:s.par.length<=1048576):jem p s:=by
 have a1:(s.rule=1)=False:=eq_false (by omega);have a2:(s.rule=2)=False:=eq_false (by omega);have a3:(s.rule=3)=False:=eq_false (by omega);have a4:(s.rule=4)=False:=eq_false (by omega);have a5:(s.rule=5)=False:=eq_false (by omega);have a6:(s.rule=6)=True:=eq_true hs;have wi:=yQ ((s.par.length:Nat):Int) 2 11;by_cases h1:((s.par.length:Nat):Int) > 1;rotate_left
 .rw [show y8 2 11 ((s.par.length:Nat):Int)=false by unfold y8;rw[decide_eq_false (by omega),Bool.false_and]]at wi
  exact zB (by rw[Zy];simp only[je,a1,a2,a3,a4,a5,a6,wi]) (by rw[g93];simp only[je,a1,a2,a3,a4,a5,a6,h1])
 by_cases h2:((s.whr.length:Nat):Int)=0;rotate_left
 .refine zB ?_ (by rw[g93];simp only[je,a1,a2,a3,a4,a5,a6,h1,h2])
  rw[Zy];cases hb:y8 2 11 ((s.par.length:Nat):Int)<;>rw[hb]at wi<;>simp only[je,a1,a2,a3,a4,a5,a6,wi,h2]
 have y0:=ixN (l:=s.par) (j:=0) (by omega) (k:=0) rfl;obtain⟨q,mq,pq,xq⟩:=qH hr 0 (by omega);have k0:=jds (s:=s) 0 (by omega) (k:=0) rfl xq;have e1:=joK p (s.par.drop 1) (by rw[List.length_drop];omega) (λx hx=>hr x (List.mem_of_mem_drop hx));have e2:=jj3 p s.par hl hr (by omega);have hsl:yb 1 (ints s.par) (some (vi 1)) none=some (ints (s.par.drop 1)):=by
  have:=qf (k:=1) (xs:=s.par.map ci) (i:=1) (by rw[List.length_map];omega)
  rw[<-List.map_drop]at this;exact this
 have nlt:¬((s.par.length:Nat):Int)<((s.par.length:Nat):Int):=by omega
 have eS:∀o,Zv (ints s.par) (vi 1) (cls p.ax) (yj p.st) [] [] []=some (.tup [cm o,vb false],[])->G 93 [Qu p,stm s]=some (.tup [cm o,vb false],[]):=λo h=>by
  have h':G 120 [Qu p,ints s.par]=some (.tup [cm o,vb false],[]):=by
   rw[jHL];simp only[je,h]
  rw[g93];simp only[je,a1,a2,a3,a4,a5,a6,h1,h2,h']
 have eT:∀o,Zv (ints s.par) (vi 1) (cls p.ax) (yj p.st) [] [] []=some (.tup [cm o,vb true],[])->G 93 [Qu p,stm s]=some (.tup [cm o,vb true],[]):=λo h=>by
  have h':G 120 [Qu p,ints s.par]=some (.tup [cm o,vb true],[]):=by
   rw[jHL];simp only[je,h]
  rw[g93];simp only[je,a1,a2,a3,a4,a5,a6,h1,h2,h']
 have eR:G 134 [Qu p,ints (s.par.drop 1)]=jfE (ints (s.par.drop 1)) (vi ((s.par.drop 1).length:Nat)) (vi 0) (cls p.ax) (yj p.st) []:=by
  rw[jJJ];generalize s.par.drop 1=D;simp only[je]
 rw[e1]at eR;cases hrs:qI p (s.par.drop 1)with
 |none=>
  rw[hrs]at eR e2;refine zB ?_ (eS [] e2);rw[Zy];generalize s.par.drop 1=D at *;cases hb:y8 2 11 ((s.par.length:Nat):Int)<;>rw[hb]at wi
  .simp only[je,a1,a2,a3,a4,a5,a6,wi]
  .have eR:G 134 [Qu p,ints D]=some (.tup [.sl 2 [],vb false],[]):=eR;simp only[je,a1,a2,a3,a4,a5,a6,wi,h2,hsl,eR]
 |some rs=>
  rw[hrs]at eR e2;have eR:G 134 [Qu p,ints (s.par.drop 1)]=some (.tup [jG rs,vb true],[]):=eR;have e2:Zv (ints s.par) (vi 1) (cls p.ax) (yj p.st) [] [] []=Zv (ints s.par) (vi (s.par.length:Nat)) (cls p.ax) (yj p.st) (rs.map jm) [] []:=e2;obtain⟨f1,f2⟩:=jfe hz hrs;rw[List.length_drop]at f1;have hne:¬((rs.length:Nat):Int)=0:=by omega
  by_cases hm:10<rs.length
  .have er:=joI q.cls (hz _ mq) rs (by omega) f2 hm;rw[show y8 2 11 ((s.par.length:Nat):Int)=false by unfold y8;rw[decide_eq_false (p:=((s.par.length:Nat):Int)<=11) (by omega),Bool.and_false]]at wi;refine zB (by rw[Zy];simp only[je,a1,a2,a3,a4,a5,a6,wi]) (eS [] ?_);rw[e2,ji7];simp only[je,nlt,y0,Yx,xq,adS,ldC,hne,er];rfl
  .rw [show y8 2 11 ((s.par.length:Nat):Int)=true by unfold y8;rw[decide_eq_true (by omega),decide_eq_true (by omega)];rfl]at wi
   obtain⟨r,b1,b2,b3⟩:=jj2 q.cls (hz _ mq).1 (hz _ mq).2 rs (by omega) f2;have mo:∀x∈q.cls::rs.map (λt=>[(true,t)]),x∈pcl p s:=λx hx=>by
    rcases jK.1 hx with rfl|hx
    .exact jaA (j:=0) (by omega) pq
    .obtain ⟨t,ht,rfl⟩:=yn.1 hx;obtain⟨y,hy,e⟩:=jj5 hrs t ht;exact YS _ (yn.2 ⟨y,List.mem_of_mem_drop hy,e⟩)
   generalize s.par.drop 1=D at *;cases r with
   |none=>
    have b1:G 135 [cm q.cls,jG rs]=some (.tup [cz,vb false],[]):=b1;have b2:G 150 [cm q.cls,jG rs]=some (.tup [cz,vb false],[]):=b2;refine zB ?_ (eS [] ?_)
    .rw [Zy];simp only[je,a1,a2,a3,a4,a5,a6,wi,h2,hsl,eR,k0,jpR,jpS,jpT,jpU,jpV,jpW,jpX,Za,b1]
    .rw [e2,ji7];simp only[je,nlt,y0,Yx,xq,adS,ldC,hne,b2];rfl
   |some c=>
    have b1:G 135 [cm q.cls,jG rs]=some (.tup [cm c,vb true],[]):=b1;have b2:G 150 [cm q.cls,jG rs]=some (.tup [cm c,vb true],[]):=b2;have zc:=Ys (b3 c rfl).1;have s1:=jdi c q.cls zc.1 zc.2 (hz _ mq).2;have s2:=jlE c q.cls zc.1 zc.2 (hz _ mq).2;have k0':=k0;cases hsame:dq c q.cls<;>rw[hsame]at s1 s2
    .refine ⟨some c,Res.of (c:=c) (b:=true) rfl ?_,Res.of (c:=c) (b:=true) rfl (eT c ?_),λx h=>by cases h;exact⟨zc,λ_=>(b3 c rfl).1,jen (b3 c rfl).2 mo⟩⟩
     .rw [Zy];simp only[je,a1,a2,a3,a4,a5,a6,wi,h2,hsl,eR,k0,jpR,jpS,jpT,jpU,jpV,jpW,jpX,Za,b1,s1]
     .rw [e2,ji7];simp only[je,nlt,y0,Yx,xq,adS,ldC,hne,b2,s2]
    .refine ⟨none,⟨c,false,?_,(λh=>by cases h),λ_=>rfl⟩,⟨[],false,eS [] ?_,(λh=>by cases h),λ_=>rfl⟩,λx h=>by cases h⟩
     .rw [Zy];simp only[je,a1,a2,a3,a4,a5,a6,wi,h2,hsl,eR,k0,jpR,jpS,jpT,jpU,jpV,jpW,jpX,Za,b1,s1]
     .rw [e2,ji7];simp only[je,nlt,y0,Yx,xq,adS,ldC,hne,b2,s2];rfl
theorem jA9{p:Prf}(hp:Pz p){s:Stp}(hs:s∈p.st)(hr:Pok p s):jem p s:=by
 by_cases h1:s.rule=1
 .exact jIs p s h1 hp.axs hp.ax
 by_cases h2:s.rule=2
 .exact jIt p s h2 hr hp.cls
 by_cases h3:s.rule=3
 .exact jIu p s h3 hr hp.cls (hp.wI s hs)
 by_cases h4:s.rule=4
 .exact jIv p s h4 hr hp.cls (hp.whr s hs)
 by_cases h5:s.rule=5
 .exact jIw p s h5 hr hp.cls
 by_cases h6:s.rule=6
 .exact jIx p s h6 hr hp.cls (hp.par s hs)
 exact jIr p s h1 h2 h3 h4 h5 h6
theorem jpE{p:Prf}(hp:Pz p)(i:Nat)(hi:i<p.st.length):∃b:Bool,G 86 [Qu p,vi (i:Nat)]=some (vb b,[])/\G 66 [Qu p,vi (i:Nat)]=some (vb b,[])/\(b=true->(wfP p=true->jJ p.st[i].cls=true)/\Sd (pcl p p.st[i]) p.st[i].cls):=by
 have hst:=hp.st;have ms:=jr hi;have x1:jk 4 (yj p.st) (vi (i:Nat))=some (.elt (stc p.st[i]) 0):=ja hi;generalize p.st[i]=s at ms x1⊢;have hl:=hp.par s ms;have e1:=jnT i (by omega) s.par hl;have e2:=Qq p s i (by omega) hl;have ok:jU (vi (i:Nat))=true:=rfl;cases hb:s.par.all (y8 0 ((i:Int)-1))<;>rw[hb]at e1 e2
 .refine ⟨false,?_,?_,λh=>by cases h⟩
  .rw [g86];simp only[je,ok,x1,yP,e1]
  .have e2:=e2.trans (jh (by decide));rw[g66];simp only[je,x1,yP,e2]
 have e2:=e2.trans (jg rfl);have hr:Pok p s:=λx hx=>by
  have:=yx.1 hb x hx;unfold y8 at this;rw[jI,ky,ky]at this;omega
 have nlt:¬((s.par.length:Nat):Int)<((s.par.length:Nat):Int):=by omega
 obtain⟨r,⟨c1,b1,i1,t1,f1⟩,⟨c2,b2,i2,t2,f2⟩,hz⟩:=jA9 hp ms hr;cases b1
 .have hr0:=f1 rfl;cases b2
  .have e3:jc1 (vi (i:Nat)) (vi (s.par.length:Nat)) (cls p.ax) (yj p.st) (vi s.rule) (ints s.par) (ints s.whr) (.sl 3 (s.cls.map jN))=some (vb false,[]):=by
    rw[jvb];simp only[je,nlt,i2]
   rw[e3]at e2;refine⟨false,?_,?_,λh=>by cases h⟩
   .rw [g86];simp only[je,ok,x1,yP,e1,i1]
   .rw [g66];simp only[je,x1,yP,e2]
  .rw [hr0]at t2;exact absurd (t2 rfl) (by intro h;cases h)
 .have hr1:=t1 rfl;cases b2
  .rw [hr1]at f2;exact absurd (f2 rfl) (by intro h;cases h)
  .have hr2:=t2 rfl;rw[hr1]at hr2;cases hr2;have zc:=(hz _ hr1).1;have s1:=jdi c1 s.cls zc.1 zc.2 (hp.cls s ms).2;have s2:=jlE c1 s.cls zc.1 zc.2 (hp.cls s ms).2;have e3:jc1 (vi (i:Nat)) (vi (s.par.length:Nat)) (cls p.ax) (yj p.st) (vi s.rule) (ints s.par) (ints s.whr) (.sl 3 (s.cls.map jN))=some (vb (dq c1 s.cls),[]):=by
    rw[jvb];simp only[je,nlt,i2,s2]
   rw[e3]at e2;refine⟨dq c1 s.cls,?_,?_,λh=>by
    have h7:=(hz _ hr1).2;rw[y7.1 h]at h7;exact h7⟩
   .rw [g86];simp only[je,ok,x1,yP,e1,i1,s1]
   .rw [g66];simp only[je,x1,yP,e2]
noncomputable def jha(p:Prf)(i:Nat):Bool:=@decide (G 66 [Qu p,vi (i:Nat)]=some (vb true,[])) (Classical.propDecidable _)
theorem jam{p:Prf}(hp:Pz p)(i:Nat)(hi:i<p.st.length):G 86 [Qu p,vi (i:Nat)]=some (vb (jha p i),[])/\G 66 [Qu p,vi (i:Nat)]=some (vb (jha p i),[])/\(jha p i=true->wfP p=true->jJ p.st[i].cls=true):=by
 obtain⟨b,h1,h2,h3⟩:=jpE hp i hi;have:jha p i=b:=by
  unfold jha;rw[h2];cases b with
  |true=>exact @decide_eq_true _ (Classical.propDecidable _) rfl
  |false=>exact @decide_eq_false _ (Classical.propDecidable _) (by intro h;cases h)
 rw[this];exact⟨h1,h2,λhb=>(h3 hb).1⟩
noncomputable def qL(p:Prf):Nat->Nat->Int
 |0,_=> -1
 |n+1,i=>if jha p i then qL p n (i+1)else i
theorem jv8{p:Prf}(hp:Pz p):G 58 [Qu p]=some (vi (qL p p.st.length 0),[]):=by
 have hst:=hp.st;have key:=upto (P:=λi=>jum (vi (p.st.length:Nat)) (vi (i:Nat)) (cls p.ax) (yj p.st)=some (vi (qL p (p.st.length-i) i),[])) (n:=p.st.length) ?_ ?_ 0 (Nat.zero_le _)
 .simp only[Int.natCast_zero,Nat.sub_zero]at key;rw[g58];simp only[je,key]
 .rw [jEF,Nat.sub_self];simp only[je,qL]
 .intro i hi ih;have hlt:(i:Int)<((p.st.length:Nat):Int):=by omega
  have h5:=jo hi (by show p.st.length<=9223372036854775807;omega)
  have e:=(jam hp i hi).1;rw[jEF,show p.st.length-i=(p.st.length-(i+1))+1 by omega,qL];cases hc:jha p i<;>rw[hc]at e
  .simp only[je,hlt,e]
  .simp only[je,hlt,e,h5,ih]
theorem jv9{p:Prf}(hp:Pz p):G 44 [Qu p]=some (vi (qL p p.st.length 0),[]):=by
 have hst:=hp.st;have key:=upto (P:=λi=>jul (vi (i:Nat)) (cls p.ax) (yj p.st)=some (vi (qL p (p.st.length-i) i),[])) (n:=p.st.length) ?_ ?_ 0 (Nat.zero_le _)
 .simp only[Int.natCast_zero,Nat.sub_zero]at key;rw[g44];simp only[je,key]
 .rw [jEE,Nat.sub_self];simp only[je,qL]
 .intro i hi ih;have hlt:(i:Int)<((p.st.length:Nat):Int):=by omega
  have h5:=jo hi (by show p.st.length<=9223372036854775807;omega)
  have e:=(jam hp i hi).2.1;rw[jEE,show p.st.length-i=(p.st.length-(i+1))+1 by omega,qL];cases hc:jha p i<;>rw[hc]at e
  .simp only[je,hlt,e]
  .simp only[je,hlt,e,h5,ih]
noncomputable def jci(p:Prf):Bool:=wfP p && decide (qL p p.st.length 0<0)
theorem jxs{p:Prf}(hp:Pz p):G 37 [Qu p]=some (vb (jci p),[])/\G 23 [Qu p]=some (vb (jci p),[]):=by
 have e1:=jkZ p hp.ax hp.axs;have e2:=jqj p hp.ax hp.axs;have f1:=jv8 hp;have f2:=jv9 hp;unfold jci;cases hw:wfP p<;>rw[hw]at e1 e2
 .refine ⟨?_,?_⟩
  .rw [g37];simp only[je,e1,Bool.false_and]
  .rw [g23];simp only[je,e2,Bool.false_and]
 .refine ⟨?_,?_⟩
  .rw [g37];simp only[je,e1,f1,Bool.true_and]
  .rw [g23];simp only[je,e2,f2,Bool.true_and]
theorem jpD{p:Prf}(hp:Pz p)(i:Nat)(hi:i<p.st.length)(h:jha p i=true):p.st[i].par.all (y8 0 ((i:Int)-1))=true:=by
 have hst:=hp.st;have ms:=jr hi;have x1:jk 4 (yj p.st) (vi (i:Nat))=some (.elt (stc p.st[i]) 0):=ja hi;have e:=(jam hp i hi).2.1;rw[h]at e;generalize p.st[i]=s at ms x1;have hl:=hp.par s ms;have e2:=Qq p s i (by omega) hl;cases hb:s.par.all (y8 0 ((i:Int)-1))
 .rw [hb]at e2;have e2:=e2.trans (jh (by decide));have e3:G 66 [Qu p,vi (i:Nat)]=some (vb false,[]):=by
   rw[g66];simp only[je,x1,yP,e2]
  rw[e3]at e;exact absurd (congrArg (λo:Xe=>o.bind λx=>Ja x.1) e) (by intro h;cases h)
 .rfl
theorem jap(p:Prf):∀(n i:Nat),qL p n i<0-> ∀j,i<=j->j<i+n->jha p j=true
 |0,i,_,j,h1,h2=>by omega
 |n+1,i,h,j,h1,h2=>by
  unfold qL at h;by_cases hc:jha p i=true
  .rw [jg hc]at h;by_cases e:j=i
   .rw [e];exact hc
   .exact jap p n (i+1) h j (by omega) (by omega)
  .rw [jh hc]at h;omega
theorem jxt{p:Prf}(hp:Pz p)(h:jci p=true):p.st.length<=60/\ ∀(i:Nat)(hi:i<p.st.length),∀x∈p.st[i].par,0<=x/\x<(i:Int):=by
 unfold jci wfP at h;simp only[jI,ky]at h;refine⟨h.1.2,λi hi x hx=>?_⟩;have:=jpD hp i hi (jap p _ 0 h.2 i (Nat.zero_le _) (by omega));have:=yx.1 this x hx;unfold y8 at this;rw[jI,ky,ky]at this;omega
abbrev cn(n:Nat):Xd:=[vi (n:Nat)]
def jEt(acc:Xf):Nat->Xi->Nat
 |d,[]=>d
 |d,x::r=>jEt acc (max d (acc.getD x.toNat 0+1)) r
def dpt(p:Prf):Nat->Xf
 |0=>[]
 |i+1=>dpt p i++[jEt (dpt p i) 0 (((p.st[i]?).map Stp.par).getD [])]
theorem jpP(l:Xi):KD (l.map ci)=true:=by
 unfold KD;rw[yx];intro x hx;obtain⟨y,_,rfl⟩:=yn.1 hx;rfl
theorem jEc(l:Xi):jBM (l.map ci)=true:=by
 unfold jBM;rw[yx];intro x hx;obtain⟨z,hz,hx⟩:=jkx.1 hx;obtain⟨y,_,rfl⟩:=yn.1 hz;rw[zx.1 hx];rfl
theorem jde:∀(r M:Xi)(k:Int),0<=k->k+r.length<=4194304->(M++r).length<=9223372036854775807->jd5 (vi k) (vi (M.length:Nat)) ((M++r).map ci)=some (.top,[vi (k+(r.length:Nat)),.sl 65 ((M++jdy k r.length).map ci)])
 | [],M,k,h0,hk,hl=>by
  rw[jhJ,zm];simp only[je,jdy,zm,Int.natCast_zero,Int.add_zero]
 |x::r,M,k,h0,hk,hl=>by
  have h1:=jdH M r x;have h2:=ZD (M.map ci) (r.map ci) (ci x);have h3:=J2 (M.map ci) (r.map ci) (ci x);have h4:=J3 (M.map ci) (r.map ci) (ci x) [vi k];rw[show M.map ci++ci x::r.map ci=(M++x::r).map ci by simp,List.length_map,List.length_map]at h2;rw[show M.map ci++ci x::r.map ci=(M++x::r).map ci by simp,List.length_map]at h3;rw[show M.map ci++ci x::r.map ci=(M++x::r).map ci by simp,List.length_map,show M.map ci++[vi k]::r.map ci=(M++[k]++r).map ci by simp]at h4;have e1:ck (k+1)=some (vi (k+1)):=jV (by omega) (by simp only[j8]at hk;omega);have h5:=jo (i:=M.length) (n:=(M++x::r).length) (by simp) hl;have ih:=jde r (M++[k]) (k+1) (by omega) (by simp only[j8]at hk;omega) (by simp at hl⊢;omega);have q:(M++[k]).length=M.length+1:=by simp
  have q2:M++[k]++jdy (k+1) r.length=M++jdy k (r.length+1):=by rw[ze];rfl
  rw[q,q2,show k+1+((r.length:Nat):Int)=k+((r.length+1:Nat):Int) by omega]at ih;have o3:jS (ci x) 0 [vi k]=[vi k]:=rfl;have t1:jaU (ci x) 0 1=true:=rfl;rw[jhJ,j8];simp only[je,h1,h2,h3,h4,QI,t1,o3,e1,h5,ih]
theorem jqL(l:Xi)(hk:l.length<=1000):jhW (vi 1) (l.map ci)=some (.top,[vi (1+(l.length:Nat)),.sl 65 ((jdy 1 l.length).map ci)]):=by
 have:=jde l [] 1 (by omega) (by omega) (by simp;omega)
 rw[jEr];exact this
theorem jpq:∀{a b:Xi},a.Pairwise (· < ·)->b.Pairwise (· < ·)->(∀x,x∈a↔x∈b)->a=b
 | [],[],_,_,_=>rfl
 | [],y::b,_,_,h=>absurd ((h y).2 List.mem_cons_self) List.not_mem_nil
 |x::a,[],_,_,h=>absurd ((h x).1 List.mem_cons_self) List.not_mem_nil
 |x::a,y::b,ha,hb,h=>by
  obtain⟨a1,a2⟩:=List.pairwise_cons.1 ha;obtain⟨b1,b2⟩:=List.pairwise_cons.1 hb;have hxy:x=y:=by
   rcases jK.1 ((h x).1 List.mem_cons_self)with e|e
   .exact e
   rcases jK.1 ((h y).2 List.mem_cons_self)with f|f
   .exact f.symm
   have:=b1 x e;have:=a1 y f;omega
  subst hxy;rw[jpq a2 b2 λz=>?_];constructor
  .intro hz;rcases jK.1 ((h z).1 (List.mem_cons_of_mem _ hz))with e|e
   .have:=a1 z hz;omega
   .exact e
  .intro hz;rcases jK.1 ((h z).2 (List.mem_cons_of_mem _ hz))with e|e
   .have:=b1 z hz;omega
   .exact e
def Km:Xi->Int->Xi
 | [],x=>[x]
 |y::l,x=>if y<x then y::Km l x else if y=x then y::l else x::y::l
theorem jiX{z x:Int} :∀l:Xi,z∈Km l x↔z=x\/z∈l
 | []=>by simp[Km]
 |y::l=>by
  unfold Km;split
  .rw [jK,jiX l,jK];constructor
   .rintro (h|h|h)
    .exact Or.inr (Or.inl h)
    .exact Or.inl h
    .exact Or.inr (Or.inr h)
   .rintro (h|h|h)
    .exact Or.inr (Or.inl h)
    .exact Or.inl h
    .exact Or.inr (Or.inr h)
  .split
   .rename_i _ h;subst h;rw[jK];constructor
    .rintro (h|h)
     .exact Or.inl h
     .exact Or.inr (Or.inr h)
    .rintro (h|h|h)
     .exact Or.inl h
     .exact Or.inl h
     .exact Or.inr h
   .rw [jK]
theorem jp6{x:Int} :∀{l:Xi},l.Pairwise (· < ·)->(Km l x).Pairwise (· < ·)
 | [],_=>by simp[Km]
 |y::l,h=>by
  obtain⟨h1,h2⟩:=List.pairwise_cons.1 h;unfold Km;split
  .refine List.pairwise_cons.2 ⟨λz hz=>?_,jp6 h2⟩;rcases(jiX l).1 hz with e|e
   .omega
   .exact h1 z e
  .split
   .exact h
   .refine List.pairwise_cons.2 ⟨λz hz=>?_,h⟩;rcases jK.1 hz with e|e
    .omega
    .have:=h1 z e;omega
def cpP:Xi->Xi
 | []=>[]
 | [x]=>[x]
 |x::y::l=>if x=y then cpP (y::l)else x::cpP (y::l)
theorem jhD{z:Int} :∀l:Xi,z∈cpP l↔z∈l
 | []=>by simp[cpP]
 | [x]=>by simp[cpP]
 |x::y::l=>by
  unfold cpP;split
  .rename_i h;subst h;rw[jhD (x::l)];simp
  .rw [jK,jhD (y::l)];simp
theorem jnV:∀{l:Xi},l.Pairwise (· <= ·)->(cpP l).Pairwise (· < ·)
 | [],_=>by simp[cpP]
 | [x],_=>by simp[cpP]
 |x::y::l,h=>by
  obtain⟨h1,h2⟩:=List.pairwise_cons.1 h;unfold cpP;split
  .exact jnV h2
  .rename_i hne;refine List.pairwise_cons.2 ⟨λz hz=>?_,jnV h2⟩;have hz:=(jhD (y::l)).1 hz;have hxy:=h1 y List.mem_cons_self;rcases jK.1 hz with e|e
   .omega
   .have:=(List.pairwise_cons.1 h2).1 z e;omega
theorem jln:∀(l a:Xi),a.Pairwise (· < ·)->(l.foldl Km a).Pairwise (· < ·)/\ ∀z,z∈l.foldl Km a↔z∈a\/z∈l
 | [],a,h=>⟨h,by simp⟩
 |x::l,a,h=>by
  obtain⟨h1,h2⟩:=jln l (Km a x) (jp6 h);refine⟨h1,λz=>?_⟩;rw[List.foldl_cons,h2 z,jiX,jK];constructor
  .rintro ((h|h)|h)
   .exact Or.inr (Or.inl h)
   .exact Or.inl h
   .exact Or.inr (Or.inr h)
  .rintro (h|h|h)
   .exact Or.inl (Or.inr h)
   .exact Or.inl (Or.inl h)
   .exact Or.inr h
theorem juJ{l s:Xi}(hs:s.Pairwise (· <= ·))(hp:s.Perm l):cpP s=l.foldl Km []:=by
 obtain⟨h1,h2⟩:=jln l [] List.Pairwise.nil;refine jpq (jnV hs) h1 λz=>?_;rw[jhD,h2 z,hp.mem_iff];simp
theorem jyq{p:Prf}(hp:Pz p)(i:Nat)(hi:i<p.st.length)(h:jha p i=true)(h1:p.st[i].rule=1):0<p.st[i].whr.length:=by
 have hst:=hp.st;have hb:=jpD hp i hi h;have ms:=jr hi;have x1:jk 4 (yj p.st) (vi (i:Nat))=some (.elt (stc p.st[i]) 0):=ja hi;have e:=(jam hp i hi).2.1;rw[h]at e;generalize p.st[i]=s at ms x1 hb h1⊢;have hl:=hp.par s ms;have e2:=Qq p s i (by omega) hl;rw[hb]at e2;have e2:=e2.trans (jg rfl);by_cases h3:((s.whr.length:Nat):Int)=1
 .omega
 have a1:(s.rule=1)=True:=eq_true h1;have a2:(s.rule=2)=False:=eq_false (by omega);have a3:(s.rule=3)=False:=eq_false (by omega);have a4:(s.rule=4)=False:=eq_false (by omega);have a5:(s.rule=5)=False:=eq_false (by omega);have a6:(s.rule=6)=False:=eq_false (by omega);have i2:G 93 [Qu p,stm s]=some (.tup [cz,vb false],[]):=by
  rw[g93];by_cases h2:((s.par.length:Nat):Int)=0
  .simp only[je,a1,a2,a3,a4,a5,a6,h2,h3]
  .simp only[je,a1,a2,a3,a4,a5,a6,h2]
 have nlt:¬((s.par.length:Nat):Int)<((s.par.length:Nat):Int):=by omega
 have e3:jc1 (vi (i:Nat)) (vi (s.par.length:Nat)) (cls p.ax) (yj p.st) (vi s.rule) (ints s.par) (ints s.whr) (.sl 3 (s.cls.map jN))=some (vb false,[]):=by
  rw[jvb];simp only[je,nlt,i2]
 have e4:G 66 [Qu p,vi (i:Nat)]=some (vb false,[]):=by
  rw[g66];simp only[je,x1,yP,e2,e3]
 rw[e4]at e;exact absurd (congrArg (λo:Xe=>o.bind λx=>Ja x.1) e) (by intro h;cases h)
theorem jmz{p:Prf}(hp:Pz p)(h:jci p=true)(i:Nat)(hi:i<p.st.length)(h1:p.st[i].rule=1):0<p.st[i].whr.length:=by
 unfold jci wfP at h;simp only[jI,ky]at h;exact jyq hp i hi (jap p _ 0 h.2 i (Nat.zero_le _) (by omega)) h1
def yX(p:Prf):Xf->Xi
 | []=>[]
 |i::l=>if h:i<p.st.length then(if p.st[i].rule=1 then p.st[i].whr.headD 0::yX p l else yX p l)else yX p l
theorem jyX(l:Xi)(x:Int):(Km l x).length<=l.length+1:=by
 induction l with
 |nil=>simp[Km]
 |cons y l ih=>
  unfold Km;split
  .simp only[j8];omega
  .split
   .simp only[j8];omega
   .simp only[j8];omega
theorem jrh(x:Int):∀(r M:Xi),(M++r).length<=1000->jhs (vi x) (vi (M.length:Nat)) ((M++r).map ci)=some (.top,[.sl 1 ((M++Km r x).map ci)])
 | [],M,hl=>by
  rw[zm]at hl⊢;have nlt:¬((M.length:Nat):Int)<((M.length:Nat):Int):=by omega
  have q0:zj (M.map ci) 0=M.length:=by rw[yu,List.length_map];rfl
  have q1:pB (zX (M.map ci)) (zj (M.map ci) 0) (some (vi (M.length:Nat)))=some M.length:=by rw[q0];exact yW (j4 _)
  have q2:pB (zX (M.map ci)) (zj (M.map ci) 0) none=some M.length:=by rw[q0,yf];exact zn (j4 _)
  have q3:pB 0 M.length (some (vi (M.length:Nat)))=some M.length:=yW (j4 _);have w1:yI (M.map ci) 0 (kz M.length 0)=M.map ci:=by rw[Z2,yV,List.drop_zero,Nat.sub_zero,yN (by rw[List.length_map];exact j4 _)]
  have w2:yI (M.map ci) M.length (kz M.length M.length)=[]:=by rw[Z2,yV,Nat.sub_self,List.take_zero]
  have f1:jM M.length 8=true:=jq1 (by omega);have f2:jM (M.length+1) 8=true:=jq1 (by omega);have e:jR (jR (M.map ci) [[vi x]]) []=(M++[x]).map ci:=by unfold jR;rw[zm,List.map_append];rfl
  have e2:Km [] x=[x]:=rfl;have f3:jM (jR (M.map ci) [[vi x]]).length 8=true:=by unfold jR;rw[zv,List.length_map];exact f2
  rw[ju7,e2];simp only[je,nlt,q1,q2,q3,w1,w2,f1,f2,f3,e,j6]
 |y::r,M,hl=>by
  have h1:=jdH M r y;have gi:(M++y::r)[M.length]? = some y:=by simp
  obtain⟨_,a2,a3⟩:=Yk gi;rw[ju7];by_cases h:y<x
  .have h5:=jo (i:=M.length) (n:=(M++y::r).length) (by simp) (by omega);have ih:=jrh x r (M++[y]) (by simpa using hl);rw[show(M++[y]).length=M.length+1 by simp,ze,List.singleton_append,ze,List.singleton_append]at ih;have e:Km (y::r) x=y::Km r x:=by rw[Km,jg h]
   rw[e];simp only[je,h1,a2,a3,h,h5,ih]
  .by_cases h':y=x
   .have e:Km (y::r) x=y::r:=by rw[Km,jh h,jg h']
    have hx:(y<x)=False:=eq_false h;have hx':(y=x)=True:=eq_true h';rw[e];simp only[je,h1,a2,a3,hx,hx']
   .have e:Km (y::r) x=x::y::r:=by rw[Km,jh h,jh h']
    have hx:(y<x)=False:=eq_false h;have hx':(y=x)=False:=eq_false h';generalize hL:M++y::r=l at *;have hlen:l.length=M.length+r.length+1:=by rw[<-hL];simp;omega
    have q0:zj (l.map ci) 0=l.length:=by rw[yu,List.length_map];rfl
    have q1:pB (zX (l.map ci)) (zj (l.map ci) 0) (some (vi (M.length:Nat)))=some M.length:=by rw[q0];exact yW (by omega)
    have q2:pB (zX (l.map ci)) (zj (l.map ci) 0) none=some l.length:=by rw[q0,yf];exact zn (j4 _)
    have q3:pB 0 l.length (some (vi (M.length:Nat)))=some M.length:=yW (by omega);have w1:yI (l.map ci) 0 (kz M.length 0)=M.map ci:=by
     rw[Z2,yV,List.drop_zero,Nat.sub_zero,<-List.map_take,<-hL,List.take_left'];rfl
    have w2:yI (l.map ci) M.length (kz l.length M.length)=(y::r).map ci:=by
     rw[Z2,yV,<-List.map_drop,<-hL,List.drop_left' rfl,yN (by rw[List.length_map,zv];omega)]
    have f1:jM M.length 8=true:=jq1 (by omega);have f2:jM (M.length+1) 8=true:=jq1 (by omega);have f3:jM ((jR (M.map ci) [[vi x]]).length+(r.length+1)) 8=true:=by unfold jR;rw[zv,List.length_map];exact jq1 (by simp only[j8,zO];omega)
    have ee:jR (jR (M.map ci) [[vi x]]) ((y::r).map ci)=(M++x::y::r).map ci:=by unfold jR;simp
    rw[e,<-ee];generalize hY:(y::r).map ci=Y at *;have hYl:Y.length=r.length+1:=by rw[<-hY];simp
    simp only[je,h1,a2,a3,hx,hx',q1,q2,q3,w1,w2,f1,f2,hYl,f3]
theorem put_eq(x:Int)(l:Xi)(hl:l.length<=1000):jxI (vi x) (l.map ci)=some (.top,[.sl 1 ((Km l x).map ci)]):=by
 have:=jrh x l [] hl;rw[jHm];exact this
def ddP:Int->Xi->Xi
 |_,[]=>[]
 |y,z::r=>if z=y then ddP z r else z::ddP z r
theorem jyr:∀(r:Xi)(y:Int),cpP (y::r)=y::ddP y r
 | [],_=>rfl
 |z::r,y=>by
  rw[cpP,ddP,jyr r z];by_cases h:y=z
  .subst h;rw[jg rfl,jg rfl]
  .rw [jh h,jh (λe=>h e.symm)]
theorem cp2:∀(r K J:Xi)(y:Int)(off n2 k2:Nat),off+k2=K.length+J.length+1->k2+r.length=n2->0<k2->off+n2=(K++J++y::r).length->(K++J++y::r).length<=1000->
  jek (vi (K.length:Nat)) (nA off) (nA n2) (vi (k2:Nat)) ((K++J++y::r).map ci)=some (.top,[.sl 1 ((K++ddP y r).map ci)])
 | [],K,J,y,off,n2,k2,h1,h2,h3,h4,hl=>by
  have u2:zq (nA n2)=n2:=rfl;have b1:jy .lss false (vi (k2:Nat)) (nA n2)=some (vb false):=by
   show some (vb (decide (((k2:Nat):Int)<((n2:Nat):Int))))=_;rw[decide_eq_false (by simp only[zO]at h2;omega)]
  generalize hL:K++J++[y]=l at *;have hlen:l.length=K.length+J.length+1:=by rw[<-hL];simp;omega
  have q0:zj (l.map ci) 0=l.length:=by rw[yu,List.length_map];rfl
  have q2:pB (zX (l.map ci)) (zj (l.map ci) 0) none=some l.length:=by rw[q0,yf];exact zn (j4 _)
  have q3:pB 0 l.length (some (vi (K.length:Nat)))=some K.length:=yW (by omega);have e:yt (l.map ci) K.length (yH (kz l.length K.length) [vi 0])=K.map ci++List.replicate (J.length+1) [vi 0]:=by
   have t1:(l.map ci).take K.length=K.map ci:=by rw[<-List.map_take,<-hL,ze,List.take_left'];rfl
   have t2:(l.map ci).drop (K.length+(yH (kz l.length K.length) [vi 0]).length)=[]:=by
    apply List.drop_eq_nil_of_le;unfold yH kz;rw[List.length_map,Zr];omega
   rw[YE,t1,t2,zm];unfold yH kz;rw[show l.length-K.length=J.length+1 by omega]
  have q4:pB (zX (K.map ci++List.replicate (J.length+1) [vi 0])) (zj (K.map ci++List.replicate (J.length+1) [vi 0]) 0) (some (vi (K.length:Nat)))=some K.length:=by
   rw[yu,zv,List.length_map];exact yW (by omega)
  have t:List.take (kz K.length 0) (K.map ci++List.replicate (J.length+1) [vi 0])=K.map ci:=by
   unfold kz;rw[Nat.sub_zero,List.take_left' (by rw[List.length_map])]
  have d:ddP y []=[]:=rfl;rw[ju9,d,zm];simp only[je,u2,b1,q2,q3,e,q4,t]
 |z::r,K,J,y,off,n2,k2,h1,h2,h3,h4,hl=>by
  simp only[j8]at h2;have u1:zq (nA off)=off:=rfl;have u2:zq (nA n2)=n2:=rfl;have b1:jy .lss false (vi (k2:Nat)) (nA n2)=some (vb true):=by
   show some (vb (decide (((k2:Nat):Int)<((n2:Nat):Int))))=_;rw[decide_eq_true (by omega)]
  have i1:Zt n2 (vi (k2:Nat))=some k2:=zg (by omega);have i2:Zt n2 (vi ((k2-1:Nat):Int))=some (k2-1):=zg (by omega);have c1:ck (((k2:Nat):Int)-1)=some (vi ((k2-1:Nat):Int)):=by rw[jV (by omega) (by omega),show((k2:Nat):Int)-1=((k2-1:Nat):Int) by omega]
  have c2:=jo (i:=k2) (n:=k2+1) (by omega) (by omega);have c3:=jo (i:=K.length) (n:=K.length+1) (by omega) (by simp only[zv]at hl;omega);obtain⟨j,J1,hJ⟩:∃j J1,J++[y]=j::J1:=by cases J with|nil=>exact⟨y,[],rfl⟩|cons j J0=>exact⟨j,J0++[y],rfl⟩
  have hJl:J1.length=J.length:=by have:=congrArg List.length hJ;simpa using this.symm
  have gz:(K++J++y::z::r)[off+k2]? = some z:=by
   rw[show K++J++y::z::r=(K++J++[y])++z::r by simp,JX (by simp only[zv,j8,zO];omega),show off+k2-(K++J++[y]).length=0 by simp only[zv,j8,zO];omega]
   rfl
  have gy:(K++J++y::z::r)[off+(k2-1)]? = some y:=by
   rw[JX (by simp only[zv];omega),show off+(k2-1)-(K++J).length=0 by simp only[zv];omega]
   rfl
  have gk:(K++J++y::z::r)[K.length]? = some j:=by
   rw[show K++J++y::z::r=K++(J++[y])++z::r by simp,hJ];simp
  have sk:(K++J++y::z::r).set K.length z=(K++[z])++J1++z::r:=by
   rw[show K++J++y::z::r=K++((J++[y])++z::r) by simp,hJ,List.set_append_right _ _ (j4 _),Nat.sub_self];simp
  have ih1:=cp2 r (K++[z]) J1 z off n2 (k2+1) (by simp;omega) (by omega) (by omega) (by rw[h4];simp;omega) (by simp at hl⊢;omega)
  have ih2:=cp2 r K (J++[y]) z off n2 (k2+1) (by simp;omega) (by omega) (by omega) (by rw[h4];simp) (by simp at hl⊢;omega)
  rw[show(K++[z]).length=K.length+1 by simp]at ih1;rw[show K++(J++[y])++z::r=K++J++y::z::r by simp]at ih2;generalize hL:K++J++y::z::r=l at *;obtain⟨_,z2,_⟩:=Yk gz;obtain⟨_,y2,_⟩:=Yk gy;obtain⟨k1,_,k3⟩:=Yk gk;have s1:=jsM l K.length z;rw[sk]at s1;have o1:jS (ci j) 0 [vi z]=[vi z]:=rfl;rw[ju9];by_cases h:z=y
  .have d:ddP y (z::r)=ddP z r:=by rw[ddP,jg h]
   have e:(z=y)=True:=eq_true h;rw[d];simp only[je,u1,u2,b1,i1,i2,c1,c2,z2,y2,e,ih2]
  .have d:ddP y (z::r)=z::ddP z r:=by rw[ddP,jh h]
   have e:(z=y)=False:=eq_false h;rw[show K++[z]++ddP z r=K++z::ddP z r by simp]at ih1;rw[d];simp only[je,u1,u2,b1,i1,i2,c1,c2,c3,z2,y2,e,k1,k3,s1,o1,ih1]
theorem cp1:∀(r M:Xi)(y:Int),(M++y::r).length<=1000->jht (vi ((M.length+1:Nat):Int)) ((M++y::r).map ci)=some (.top,[.sl 1 ((M++cpP (y::r)).map ci)])
 | [],M,y,hl=>by
  have h:¬((M.length+1:Nat):Int)<((M++[y]).length:Nat):=by simp
  have e:cpP [y]=[y]:=rfl;rw[ju8,e];simp only[je,h]
 |z::r,M,y,hl=>by
  have h:((M.length+1:Nat):Int)<((M++y::z::r).length:Nat):=by simp only[zv,j8];omega
  have gz:(M++y::z::r)[M.length+1]? = some z:=by
   rw[show M++y::z::r=(M++[y])++z::r by simp,JX (by simp),show M.length+1-(M++[y]).length=0 by simp];rfl
  have gy:(M++y::z::r)[M.length]? = some y:=by simp
  obtain⟨_,z2,z3⟩:=Yk gz;obtain⟨_,y2,y3⟩:=Yk gy;have c1:ck (((M.length+1:Nat):Int)-1)=some (vi ((M.length:Nat):Int)):=by rw[show((M.length+1:Nat):Int)-1=((M.length:Nat):Int) by omega];exact jV (by omega) (by simp at hl;omega)
  have c2:=jo (i:=M.length+1) (n:=M.length+2) (by omega) (by simp at hl;omega)
  rw[ju8];by_cases e:z=y
  .have q:=cp2 r (M++[y]) [] z (M.length+1) (r.length+1) 1 (by simp) (by omega) (by omega) (by simp;omega) (by simpa using hl)
   rw[show(M++[y]).length=M.length+1 by simp,show M++[y]++[]++z::r=M++y::z::r by simp,show M++[y]++ddP z r=M++cpP (y::z::r) by rw[jyr (z::r) y,ddP,jg e];simp]at q
   generalize hL:M++y::z::r=l at *;have hlen:l.length=M.length+1+(r.length+1):=by rw[<-hL];simp;omega
   rw[show((1:Nat):Int)=1 from rfl]at q;have q0:zj (l.map ci) 0=l.length:=by rw[yu,List.length_map];rfl
   have q2:pB (zX (l.map ci)) (zj (l.map ci) 0) none=some l.length:=by rw[q0,yf];exact zn (j4 _)
   have q3:pB 0 l.length (some (vi ((M.length+1:Nat):Int)))=some (M.length+1):=yW (by omega);have q4:kz l.length (M.length+1)=r.length+1:=by unfold kz;omega
   have e':(z=y)=True:=eq_true e;simp only[je,h,z2,z3,y2,y3,c1,e',q2,q3,q4,yd,q]
  .have ih:=cp1 r (M++[y]) z (by simpa using hl);rw[show(M++[y]).length=M.length+1 by simp,ze,List.singleton_append,ze,List.singleton_append,show y::cpP (z::r)=cpP (y::z::r) by rw[cpP,jh (λq=>e q.symm)]]at ih;have e':(z=y)=False:=eq_false e;simp only[je,h,z2,z3,y2,y3,c1,c2,e',ih]
theorem jpz(l:Xi)(hl:l.length<=1000):jxK (l.map ci)=some (.top,[.sl 1 ((cpP l).map ci)]):=by
 rw[jHo]
 match l with
 | []=>
  have h:((0:Nat):Int)<2:=by omega
  have e:cpP []=[]:=rfl;rw[e];simp only[je,h,List.map_nil,zO]
 | [x]=>
  have h:((1:Nat):Int)<2:=by omega
  have e:cpP [x]=[x]:=rfl;rw[e];simp only[je,h]
 |x::y::r=>
  have h:¬(((x::y::r).length:Nat):Int)<2:=by simp only[j8];omega
  have:=cp1 (y::r) [] x hl;generalize hL:x::y::r=l at *;rw[yF,yF]at this;simp only[zO,yd]at this;simp only[je,h];exact this
theorem juI:∀l:Xi,(cpP l).length<=l.length
 | []=>j4 _
 | [_]=>j4 _
 |x::y::l=>by
  have:=juI (y::l);unfold cpP;split
  .simp only[j8]at *;omega
  .simp only[j8]at *;omega
theorem jBs(l:Xi)(hl:l.length<=1000):jxJ (l.map ci)=some (.top,[.sl 1 ((qg l).map ci)]):=by
 rw[jHn];have e:ZX (l.map ci)=some l:=jiY l;show(match ZX (l.map ci)with|some ss=>if ss.length<4611686018427387904 then some (A.top,[A.sl 1 ((qg ss).map λs=>[vi s])])else none|none=>none)=_;rw[e];exact jg (by omega)
theorem jdW(l:Xi):(qg l).Perm l:=List.mergeSort_perm ..
theorem jmg(l:Xi):(qg l).Pairwise (· <= ·):=by
 have:=List.pairwise_mergeSort (le:=λx y:Int=>decide (x<=y)) (λa b c h1 h2=>by simp only[ky]at *;omega) (λa b=>by simp only[Bool.or_eq_true,ky];omega) l
 exact this.imp λh=>by simpa using h
theorem jls{w:Xi}(h:0<w.length):w.headD 0=w[0]:=by
 cases w with
 |nil=>cases h
 |cons y ys=>rfl
theorem jmt(p:Prf):∀l:Xf,(yX p l).length<=l.length
 | []=>j4 _
 |i::l=>by
  have:=jmt p l;unfold yX;split
  .split
   .simp only[j8];omega
   .simp only[j8];omega
  .simp only[j8];omega
section
variable{p:Prf}(hw:∀(i:Nat)(hi:i<p.st.length),p.st[i].rule=1->0<p.st[i].whr.length)
include hw
theorem jiw(a:A):∀(r M:Xf)(acc:Xi),(∀i∈M++r,i<p.st.length)->(M++r).length<=1000->acc.length+r.length<=1000->
  Q4 (vi ((M++r).length:Nat)) (vi (M.length:Nat)) a (yj p.st) (acc.map ci) (((M++r).map Int.ofNat).map ci)=Q4 (vi ((M++r).length:Nat)) (vi ((M++r).length:Nat)) a (yj p.st) ((acc++yX p r).map ci) (((M++r).map Int.ofNat).map ci)
 | [],M,acc,_,_,_=>by rw[zm];simp only[yX,zm]
 |i::r,M,acc,hm,hl,ha=>by
  have hi:i<p.st.length:=hm i (by simp);have h1:=jdH M r i;have gi:((M++i::r).map Int.ofNat)[M.length]? = some (i:Int):=by simp
  obtain⟨_,a2,a3⟩:=Yk gi;rw[List.length_map]at a3;have x1:jk 4 (yj p.st) (vi ((i:Nat):Int))=some (.elt (stc p.st[i]) 0):=ja hi;have l0:j9 (.elt (stc p.st[i]) 0)=some (vi p.st[i].rule):=rfl;have p0:qe (.elt (stc p.st[i]) 0) 0=some (.elt (stc p.st[i]) 0):=by rw[qA]
  have p2:qe (.elt (stc p.st[i]) 0) 2=some (.elt (stc p.st[i]) 2):=by rw[qA]
  have l2:j9 (.elt (stc p.st[i]) 2)=some (ints p.st[i].whr):=rfl;have h5:=jo (i:=M.length) (n:=(M++i::r).length) (by simp) (by omega);have hn:(M++[i]).length=M.length+1:=by simp
  rw[jod];by_cases h:p.st[i].rule=1
  .have hx:=hw i hi h;have ih:=jiw a r (M++[i]) (acc++[p.st[i].whr[0]]) (λj hj=>hm j (by simpa using hj)) (by simpa using hl) (by simp only[zv,j8,zO]at ha⊢;omega);rw[hn,ze,List.singleton_append,ze,List.singleton_append]at ih;have w0:=ixN (l:=p.st[i].whr) (j:=0) hx (k:=0) rfl;have hf:jM (acc.length+1) 8=true:=jq1 (by omega);have hr:jR (acc.map ci) [[vi p.st[i].whr[0]]]=(acc++[p.st[i].whr[0]]).map ci:=by unfold jR;rw[List.map_append];rfl
   have hu:yX p (i::r)=p.st[i].whr[0]::yX p r:=by
    rw[yX,dif_pos hi,jg h,jls hx]
   have e:(p.st[i].rule=1)=True:=eq_true h;rw[hu];simp only[je,h1,a2,a3,x1,p0,l0,p2,l2,e,w0,Yx,hf,hr,h5,ih]
  .have ih:=jiw a r (M++[i]) acc (λj hj=>hm j (by simpa using hj)) (by simpa using hl) (by simp only[j8]at ha;omega)
   rw[hn,ze,List.singleton_append]at ih;have hu:yX p (i::r)=yX p r:=by rw[yX,dif_pos hi,jh h]
   have e:(p.st[i].rule=1)=False:=eq_false h;rw[hu];simp only[je,h1,a2,a3,x1,p0,l0,e,h5,ih]
theorem jix(a:A):∀(r M:Xf)(acc:Xi),(∀i∈M++r,i<p.st.length)->(M++r).length<=1000->acc.length+r.length<=1000->
  jd9 (vi (M.length:Nat)) a (yj p.st) (acc.map ci) (((M++r).map Int.ofNat).map ci)=some (.top,[vb true,.sl 1 (((yX p r).foldl Km acc).map ci)])
 | [],M,acc,_,_,_=>by
  have nlt:¬((M.length:Nat):Int)<((M.length:Nat):Int):=by omega
  rw[joc,zm];simp only[je,nlt,List.length_map,yX,List.foldl_nil]
 |i::r,M,acc,hm,hl,ha=>by
  have hi:i<p.st.length:=hm i (by simp);have h1:=jdH M r i;have gi:((M++i::r).map Int.ofNat)[M.length]? = some (i:Int):=by simp
  obtain⟨_,a2,a3⟩:=Yk gi;rw[List.length_map]at a3;have x1:jk 4 (yj p.st) (vi ((i:Nat):Int))=some (.elt (stc p.st[i]) 0):=ja hi;have h5:=jo (i:=M.length) (n:=(M++i::r).length) (by simp) (by omega);have hn:(M++[i]).length=M.length+1:=by simp
  rw[joc];by_cases h:p.st[i].rule=1
  .have hx:=hw i hi h;have hq:(Km acc p.st[i].whr[0]).length<=acc.length+1:=jyX _ _;have ih:=jix a r (M++[i]) (Km acc p.st[i].whr[0]) (λj hj=>hm j (by simpa using hj)) (by simpa using hl) (by simp only[j8]at ha;omega);rw[hn,ze,List.singleton_append]at ih;have w0:=ixN (l:=p.st[i].whr) (j:=0) hx (k:=0) rfl;have e0:=put_eq p.st[i].whr[0] acc (by simp only[j8]at ha;omega);have hu:yX p (i::r)=p.st[i].whr[0]::yX p r:=by
    rw[yX,dif_pos hi,jg h,jls hx]
   have e:(p.st[i].rule=1)=True:=eq_true h;rw[hu,List.foldl_cons];simp only[je,h1,a2,a3,List.length_map,x1,yP,e,w0,Yx,e0,h5,ih]
  .have ih:=jix a r (M++[i]) acc (λj hj=>hm j (by simpa using hj)) (by simpa using hl) (by simp only[j8]at ha;omega)
   rw[hn,ze,List.singleton_append]at ih;have hu:yX p (i::r)=yX p r:=by rw[yX,dif_pos hi,jh h]
   have e:(p.st[i].rule=1)=False:=eq_false h;rw[hu];simp only[je,h1,a2,a3,List.length_map,x1,yP,e,h5,ih]
end
theorem jEa{p:Prf}(hw:pwf p)(hp:Pz p)(k:Int):∃(l:Xi)(b:Bool),l.length<=1000/\jpa (Qu p) (vi k)=some (.top,[vb b,ints l])/\jxB (Qu p) (vi k)=some (.top,[vb b,ints l]):=by
 have hst:=hp.st;obtain⟨v1,v2⟩:=jxs hp;have c1:ck (((p.st.length:Nat):Int)-1)=some (vi (((p.st.length:Nat):Int)-1)):=jV (by omega) (by omega);have p1:=yQ k 0 (((p.st.length:Nat):Int)-1);have q1:=zW k 0 (((p.st.length:Nat):Int)-1);have fb:∀c:Bool,qM (vb c)=true:=λ_=>rfl;have fz:KD []=true:=rfl;have no:G 27 [Qu p,vi k]=some (vb false,[])->jpa (Qu p) (vi k)=some (.top,[vb false,ints []]):=λe=>by
  have r:jvS (Qu p) (vi k)=some (.top,[vb false,.sl 1 []]):=by
   rw[jHA];simp only[je,e]
  rw[jEs];simp only[je,r,fb,fz,List.getElem?_cons_zero,List.getElem?_cons_succ];rfl
 cases hb:y8 0 (((p.st.length:Nat):Int)-1) k<;>rw[hb]at p1 q1
 .have e:G 27 [Qu p,vi k]=some (vb false,[]):=by
   rw[g27];simp only[je,c1,p1]
  refine⟨[],false,by simp,no e,?_⟩
  .rw [jx9];simp only[je,c1,q1];rfl
 cases hv:jci p<;>rw[hv]at v1 v2
 .have e:G 27 [Qu p,vi k]=some (vb false,[]):=by
   rw[g27];simp only[je,c1,p1,v1]
  refine⟨[],false,by simp,no e,?_⟩
  .rw [jx9];simp only[je,c1,q1,v2];rfl
 .have e:G 27 [Qu p,vi k]=some (vb true,[]):=by
   rw[g27];simp only[je,c1,p1,v1]
  obtain⟨h60,hpar⟩:=jxt hp hv;have hx:0<=k/\k<((p.st.length:Nat):Int):=by
   unfold y8 at hb;rw[jI,ky,ky]at hb;omega
  obtain⟨n,rfl⟩:=jdm hx.1;have hn:n<p.st.length:=by omega
  have hp':∀i:Nat,∀q∈prL p i,0<=q/\q<(i:Int):=λi q hq=>by
   unfold prL at hq;split at hq
   .rename_i h;exact hpar i h q hq
   .cases hq
  have hb':∀i:Nat,(prL p i).length<=9223372036854775807:=λi=>by
   unfold prL;split
   .exact (hw.2.1 _ (jr _)).2.1.2
   .simp
  have d1:=jCc hp' hb' h60 n hn;have d2:=jCd hp' hb' h60 n hn;have hm:∀i∈(List.range (n+1)).filter (Qi (prL p) (n+1) λj=>decide (j=n)),i<p.st.length:=λi hi=>by
   have:=List.mem_range.1 (List.mem_filter.1 hi).1;omega
  have hll:=List.length_filter_le (Qi (prL p) (n+1) λj=>decide (j=n)) (List.range (n+1));rw[List.length_range]at hll;generalize (List.range (n+1)).filter (Qi (prL p) (n+1) λj=>decide (j=n))=L at d1 d2 hm hll;have f:=jpP (L.map Int.ofNat);have hu:=jmt p L;have l1:=jiw (jmz hp hv) (cls p.ax) L [] [] hm (by simpa using(by omega:L.length<=1000)) (by simp only[zO];omega);have l2:=jix (jmz hp hv) (cls p.ax) L [] [] hm (by simpa using(by omega:L.length<=1000)) (by simp only[zO];omega);have s1:=jBs (yX p L) (by omega);have sl:(qg (yX p L)).length=(yX p L).length:=(jdW _).length_eq;have s2:=jpz (qg (yX p L)) (by omega);rw[juJ (jmg _) (jdW _)]at s2;simp only[yF,zO,Int.natCast_zero,List.map_nil]at l1 l2;have hfl:((yX p L).foldl Km []).length<=1000:=by
   rw[<-juJ (jmg _) (jdW _)];have:=juI (qg (yX p L));omega
  have r9:jvS (Qu p) (vi (n:Nat))=some (.top,[vb true,ints (L.map Int.ofNat)]):=by
   rw[jHA];simp only[je,e,d1,f,List.getElem?_cons_zero]
  have w0:jmY (vi (L.length:Nat)) (vi 0) (cls p.ax) (yj p.st) ((L.map Int.ofNat).map ci) []=Q4 (vi (L.length:Nat)) (vi 0) (cls p.ax) (yj p.st) [] ((L.map Int.ofNat).map ci):=by
   rw[jDf,jod]
  have w1:jmV (vi 0) (cls p.ax) (yj p.st) ((L.map Int.ofNat).map ci) []=jd9 (vi 0) (cls p.ax) (yj p.st) [] ((L.map Int.ofNat).map ci):=by
   rw[jDe,joc]
  have w2:Q4 (vi (L.length:Nat)) (vi (L.length:Nat)) (cls p.ax) (yj p.st) ((yX p L).map ci) ((L.map Int.ofNat).map ci)=some (.top,[vb true,ints ((yX p L).foldl Km [])]):=by
   have nlt:¬((L.length:Nat):Int)<((L.length:Nat):Int):=by omega
   rw[jod];simp only[je,nlt,s1,s2,List.getElem?_cons_zero]
  refine⟨(yX p L).foldl Km [],true,hfl,?_,?_⟩
  .rw [jEs];simp only[je,r9,fb,f,List.length_map,w0,l1,w2,List.getElem?_cons_zero,List.getElem?_cons_succ]
  .rw [jx9];simp only[je,c1,q1,v2,d2,f,w1,l2,List.getElem?_cons_zero]
set_option maxRecDepth 4000 in
theorem jjh(p:Prf)(k:Int)(hw:pwf p):G 4 [Qu p,vi k]=some (vb true,[]):=by
 have e1:=jBC p hw 1048576 (by decide) (by decide);rw[g4];by_cases h1:ko 1048576 ((psz p:Nat):Int)<0
 .simp only[je,e1,h1]
 .obtain ⟨b1,b2,b3⟩:=jAo (by decide) (by decide) h1;have a1:=jxj p b3;have a2:=jyH p hw;obtain⟨l,b,hl,r1,r2⟩:=jEa hw (Pz.of hw b3) k;obtain⟨j,X,Y,m1⟩:=jos p hw b3;have a3:=jnX l (by omega);have m2:=jqL l hl;have m3:=jpZ l.length 1 (by omega) (by omega);have f:=jpP l;have v:=jEc l;have n1:¬((j:Nat):Int)<0:=by omega
  have n2:¬(1:Int)+((l.length:Nat):Int)<0:=by omega
  have r0:∀(x y z:A)(u:Nat)(w:Xc),hR u (A.top,[x,y,.sl u w]) 2=some w:=λx y z u w=>by unfold hR;simp
  have fb:∀c:Bool,qM (vb c)=true:=λ_=>rfl;cases b<;>simp only[je,fb,e1,h1,a1,a2,r1,r2,m1,a3,m2,m3,f,v,n1,n2,r0,List.getElem?_cons_zero,List.getElem?_cons_succ]
end Go.Proofs.YthlhadhipnokfaaGreatDoor
