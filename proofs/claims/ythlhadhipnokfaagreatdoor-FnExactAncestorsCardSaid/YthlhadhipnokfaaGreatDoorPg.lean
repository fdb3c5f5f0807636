/- Pg -/
import Derived.Test.YthlhadhipnokfaaGreatDoorPf
import Derived.Test.YthlhadhipnokfaaGreatDoorPd
namespace Go.Proofs.YthlhadhipnokfaaGreatDoor
open Go Go.RowKit Go.Proofs.YthlhadhipnokfaaGreatDoor.Abs
set_option linter.unusedSimpArgs false
set_option linter.unusedVariables false
set_option maxHeartbeats 1000000
def pcl(p:Prf)(s:Stp):List Cls:=p.ax++s.par.map λx=>((p.st[x.toNat]?).map Stp.cls).getD []
def jnK(p:Prf)(s:Stp):Prop:=∃r:Option Cls,Res (G 108 [prm p,stm s]) r/\Res (G 93 [prm p,stm s]) r/\ ∀c,r=some c->Cz c/\(wfP p=true->jgu c=true)/\Sd (pcl p s) c
theorem jg5{p:Prf}{s:Stp}(h1:G 108 [prm p,stm s]=some (.tup [cz,vb false],[]))(h2:G 93 [prm p,stm s]=some (.tup [cz,vb false],[])):jnK p s:=
 ⟨none,⟨[],false,h1,(λh=>by cases h),λ_=>rfl⟩,⟨[],false,h2,(λh=>by cases h),λ_=>rfl⟩,λc h=>by cases h⟩
theorem jnL{ps ps':List Cls}{x:Cls}(h:Sd ps x)(hm:∀c∈ps,c∈ps'):Sd ps' x:=λm t=>h m λc hc=>t c (hm c hc)
theorem jFN{ps:List Cls}{x:Cls}(h:x∈ps):Sd ps x:=λ_ t=>t x h
theorem jlq{p:Prf}{s:Stp}{j:Nat}(hj:j<s.par.length){q:Stp}(hq:p.st[s.par[j].toNat]? = some q):q.cls∈pcl p s:=jfZ _ (jfx.2 ⟨s.par[j],jfL hj,by rw[hq];rfl⟩)
theorem jri{p:Prf} :∀{l:Xi}{rs:Xg},jh3 p l=some rs-> ∀t∈rs,∃x∈l,((p.st[x.toNat]?).map Stp.cls).getD []=[(true,t)]
 | [],rs,h=>by cases h;exact λt ht=>by cases ht
 |x::xs,rs,h=>by
  unfold jh3 at h;split at h
  .rename_i q hq;split at h
   .rename_i t ht;rw[jeq]at h;obtain⟨rs',h1,rfl⟩:=h;intro r hr;rcases ja1.1 hr with rfl|hr
    .refine ⟨x,List.mem_cons_self ..,?_⟩;rw[hq];show q.cls=[(true,r)];unfold jmp at ht;split at ht
     .rename_i l hl;split at ht
      .rename_i hb;cases ht;rw[hl,<-hb]
      .cases ht
     .cases ht
    .obtain ⟨y,hy,e⟩:=jri h1 r hr;exact⟨y,List.mem_cons_of_mem _ hy,e⟩
   .cases h
  .cases h
theorem jIf(p:Prf)(s:Stp)(hs:s.rule=1)(hz:∀c∈p.ax,Cz c)(ha:p.ax.length<=1048576):jnK p s:=by
 have a1:(s.rule=1)=True:=eq_true hs;have a2:(s.rule=2)=False:=eq_false (by omega);have a3:(s.rule=3)=False:=eq_false (by omega);have a4:(s.rule=4)=False:=eq_false (by omega);have a5:(s.rule=5)=False:=eq_false (by omega);have a6:(s.rule=6)=False:=eq_false (by omega);by_cases h1:((s.par.length:Nat):Int)=0;rotate_left
 .exact jg5 (by rw[jjx];simp only[evz,a1,a2,a3,a4,a5,a6,h1]) (by rw[g93];simp only[evz,a1,a2,a3,a4,a5,a6,h1])
 by_cases h2:((s.whr.length:Nat):Int)=1;rotate_left
 .exact jg5 (by rw[jjx];simp only[evz,a1,a2,a3,a4,a5,a6,h1,h2]) (by rw[g93];simp only[evz,a1,a2,a3,a4,a5,a6,h1,h2])
 have w0:=ixN (l:=s.whr) (j:=0) (by omega) (k:=0) rfl;have c1:ck (((p.ax.length:Nat):Int)-1)=some (vi (((p.ax.length:Nat):Int)-1)):=jgA (by omega) (by omega);have p1:=jhz s.whr[0] 0 (((p.ax.length:Nat):Int)-1);have q1:=jhd s.whr[0] 0 (((p.ax.length:Nat):Int)-1);cases hb:inB 0 (((p.ax.length:Nat):Int)-1) s.whr[0]<;>rw[hb]at p1 q1
 .exact jg5 (by rw[jjx];simp only[evz,a1,a2,a3,a4,a5,a6,h1,h2,w0,jkB,c1,p1]) (by rw[g93];simp only[evz,a1,a2,a3,a4,a5,a6,h1,h2,w0,jkB,c1,q1])
 have hx:0<=s.whr[0]/\s.whr[0]<((p.ax.length:Nat):Int):=by
  unfold inB at hb;rw[jbX,jfH,jfH]at hb;omega
 obtain⟨n,hn⟩:=jfX hx.1;have hlt:n<p.ax.length:=by omega
 have x1:kL 1 (cls p.ax) (vi s.whr[0])=some (.elt (clc p.ax[n]) 0):=by rw[hn];exact jfY hlt
 refine⟨some p.ax[n],Res.of rfl ?_,Res.of rfl ?_,λc h=>by cases h;exact⟨hz _ (jfL hlt),λhw=>jG7 hw _ (jfL hlt),jFN (jfv _ (jfL hlt))⟩⟩
 .rw [jjx];simp only[evz,a1,a2,a3,a4,a5,a6,h1,h2,w0,jkB,c1,p1,x1,jiy]
 .rw [g93];simp only[evz,a1,a2,a3,a4,a5,a6,h1,h2,w0,jkB,c1,q1,x1,jiy]
theorem jIg(p:Prf)(s:Stp)(hs:s.rule=2)(hr:Pok p s)(hz:∀q∈p.st,Cz q.cls):jnK p s:=by
 have a1:(s.rule=1)=False:=eq_false (by omega);have a2:(s.rule=2)=True:=eq_true hs;have a3:(s.rule=3)=False:=eq_false (by omega);have a4:(s.rule=4)=False:=eq_false (by omega);have a5:(s.rule=5)=False:=eq_false (by omega);have a6:(s.rule=6)=False:=eq_false (by omega);by_cases h1:((s.par.length:Nat):Int)=2;rotate_left
 .exact jg5 (by rw[jjx];simp only[evz,a1,a2,a3,a4,a5,a6,h1]) (by rw[g93];simp only[evz,a1,a2,a3,a4,a5,a6,h1])
 by_cases h2:((s.whr.length:Nat):Int)=2;rotate_left
 .exact jg5 (by rw[jjx];simp only[evz,a1,a2,a3,a4,a5,a6,h1,h2]) (by rw[g93];simp only[evz,a1,a2,a3,a4,a5,a6,h1,h2])
 have w0:=ixN (l:=s.whr) (j:=0) (by omega) (k:=0) rfl;have w1:=ixN (l:=s.whr) (j:=1) (by omega) (k:=1) rfl;have y0:=ixN (l:=s.par) (j:=0) (by omega) (k:=0) rfl;have y1:=ixN (l:=s.par) (j:=1) (by omega) (k:=1) rfl;obtain⟨q,mq,pq,xq⟩:=jh1 hr 0 (by omega);obtain⟨q',mq',pq',xq'⟩:=jh1 hr 1 (by omega);have k0:=jnb (s:=s) 0 (by omega) (k:=0) rfl xq;have k1:=jnb (s:=s) 1 (by omega) (k:=1) rfl xq';obtain⟨r,e1,e2,e3⟩:=jrF q.cls q'.cls (hz _ mq).1 (hz _ mq).2 (hz _ mq').1 (hz _ mq').2 s.whr[0] s.whr[1];obtain⟨c',b',hf⟩:=jg2 r;rw[hf]at e1 e2;refine⟨r,Res.of hf ?_,Res.of hf ?_,λc h=>⟨jjZ (e3 c h).1,λ_=>(e3 c h).1,jnL (e3 c h).2 (λx hx=>by
  simp only[ja1,List.not_mem_nil,or_false]at hx;rcases hx with rfl|rfl
  .exact jlq (j:=0) (by omega) pq
  .exact jlq (j:=1) (by omega) pq')⟩⟩
 .rw [jjx];simp only[evz,a1,a2,a3,a4,a5,a6,h1,h2,w0,w1,jkB,k0,k1,juH,juI,juJ,juK,juL,juM,juN,jjm,e1]
 .rw [g93];simp only[evz,a1,a2,a3,a4,a5,a6,h1,h2,w0,w1,y0,y1,jkB,xq,xq',adS,ldC,e2]
theorem jIh(p:Prf)(s:Stp)(hs:s.rule=3)(hr:Pok p s)(hz:∀q∈p.st,Cz q.cls)(hw:∀x∈s.whr,I64 x):jnK p s:=by
 have a1:(s.rule=1)=False:=eq_false (by omega);have a2:(s.rule=2)=False:=eq_false (by omega);have a3:(s.rule=3)=True:=eq_true hs;have a4:(s.rule=4)=False:=eq_false (by omega);have a5:(s.rule=5)=False:=eq_false (by omega);have a6:(s.rule=6)=False:=eq_false (by omega);by_cases h1:((s.par.length:Nat):Int)=1;rotate_left
 .exact jg5 (by rw[jjx];simp only[evz,a1,a2,a3,a4,a5,a6,h1]) (by rw[g93];simp only[evz,a1,a2,a3,a4,a5,a6,h1])
 by_cases h2:((s.whr.length:Nat):Int)=2;rotate_left
 .exact jg5 (by rw[jjx];simp only[evz,a1,a2,a3,a4,a5,a6,h1,h2]) (by rw[g93];simp only[evz,a1,a2,a3,a4,a5,a6,h1,h2])
 have w0:=ixN (l:=s.whr) (j:=0) (by omega) (k:=0) rfl;have w1:=ixN (l:=s.whr) (j:=1) (by omega) (k:=1) rfl;have y0:=ixN (l:=s.par) (j:=0) (by omega) (k:=0) rfl;obtain⟨q,mq,pq,xq⟩:=jh1 hr 0 (by omega);have k0:=jnb (s:=s) 0 (by omega) (k:=0) rfl xq;have hi:=hw s.whr[0] (jfL (by omega));obtain⟨r,e1,e2,e3⟩:=jtE q.cls (hz _ mq).1 (hz _ mq).2 s.whr[0] s.whr[1] (by unfold I64 at hi;omega);obtain⟨c',b',hf⟩:=jg2 r;rw[hf]at e1 e2;refine⟨r,Res.of hf ?_,Res.of hf ?_,λc h=>⟨jjZ (e3 c h).1,λ_=>(e3 c h).1,jnL (e3 c h).2 (λx hx=>by
  rw[jdC.1 hx];exact jlq (j:=0) (by omega) pq)⟩⟩
 .rw [jjx];simp only[evz,a1,a2,a3,a4,a5,a6,h1,h2,w0,w1,jkB,k0,juH,juI,juJ,juK,juL,juM,juN,jjm,e1]
 .rw [g93];simp only[evz,a1,a2,a3,a4,a5,a6,h1,h2,w0,w1,y0,jkB,xq,adS,ldC,e2]
theorem jIj(p:Prf)(s:Stp)(hs:s.rule=5)(hr:Pok p s)(hz:∀q∈p.st,Cz q.cls):jnK p s:=by
 have a1:(s.rule=1)=False:=eq_false (by omega);have a2:(s.rule=2)=False:=eq_false (by omega);have a3:(s.rule=3)=False:=eq_false (by omega);have a4:(s.rule=4)=False:=eq_false (by omega);have a5:(s.rule=5)=True:=eq_true hs;have a6:(s.rule=6)=False:=eq_false (by omega);by_cases h1:((s.par.length:Nat):Int)=1;rotate_left
 .exact jg5 (by rw[jjx];simp only[evz,a1,a2,a3,a4,a5,a6,h1]) (by rw[g93];simp only[evz,a1,a2,a3,a4,a5,a6,h1])
 by_cases h2:((s.whr.length:Nat):Int)=1;rotate_left
 .exact jg5 (by rw[jjx];simp only[evz,a1,a2,a3,a4,a5,a6,h1,h2]) (by rw[g93];simp only[evz,a1,a2,a3,a4,a5,a6,h1,h2])
 have w0:=ixN (l:=s.whr) (j:=0) (by omega) (k:=0) rfl;have y0:=ixN (l:=s.par) (j:=0) (by omega) (k:=0) rfl;obtain⟨q,mq,pq,xq⟩:=jh1 hr 0 (by omega);have k0:=jnb (s:=s) 0 (by omega) (k:=0) rfl xq;obtain⟨r,e1,e2,e3⟩:=jpp q.cls (hz _ mq).1 (hz _ mq).2 s.whr[0];obtain⟨c',b',hf⟩:=jg2 r;rw[hf]at e1 e2;refine⟨r,Res.of hf ?_,Res.of hf ?_,λc h=>⟨jjZ (e3 c h).1,λ_=>(e3 c h).1,jnL (e3 c h).2 (λx hx=>by
  rw[jdC.1 hx];exact jlq (j:=0) (by omega) pq)⟩⟩
 .rw [jjx];simp only[evz,a1,a2,a3,a4,a5,a6,h1,h2,w0,jkB,k0,juH,juI,juJ,juK,juL,juM,juN,jjm,e1]
 .rw [g93];simp only[evz,a1,a2,a3,a4,a5,a6,h1,h2,w0,y0,jkB,xq,adS,ldC,e2]
theorem jIi(p:Prf)(s:Stp)(hs:s.rule=4)(hr:Pok p s)(hz:∀q∈p.st,Cz q.cls)(hl:s.whr.length<=1048576):jnK p s:=by
 have a1:(s.rule=1)=False:=eq_false (by omega);have a2:(s.rule=2)=False:=eq_false (by omega);have a3:(s.rule=3)=False:=eq_false (by omega);have a4:(s.rule=4)=True:=eq_true hs;have a5:(s.rule=5)=False:=eq_false (by omega);have a6:(s.rule=6)=False:=eq_false (by omega);by_cases h1:((s.par.length:Nat):Int)=2;rotate_left
 .exact jg5 (by rw[jjx];simp only[evz,a1,a2,a3,a4,a5,a6,h1]) (by rw[g93];simp only[evz,a1,a2,a3,a4,a5,a6,h1])
 by_cases h2:((s.whr.length:Nat):Int)>=3;rotate_left
 .have h3:¬((s.whr.length:Nat):Int) > 3:=by omega
  exact jg5 (by rw[jjx];simp only[evz,a1,a2,a3,a4,a5,a6,h1,h2]) (by rw[g93];simp only[evz,a1,a2,a3,a4,a5,a6,h1,h3])
 have w0:=ixN (l:=s.whr) (j:=0) (by omega) (k:=0) rfl;have w1:=ixN (l:=s.whr) (j:=1) (by omega) (k:=1) rfl;have w2:=ixN (l:=s.whr) (j:=2) (by omega) (k:=2) rfl;have y0:=ixN (l:=s.par) (j:=0) (by omega) (k:=0) rfl;have y1:=ixN (l:=s.par) (j:=1) (by omega) (k:=1) rfl;have hsl:Jy 1 (ints s.whr) (some (vi 3)) none=some (ints (s.whr.drop 3)):=by
  have:=jhJ (k:=1) (xs:=s.whr.map ci) (i:=3) (by rw[List.length_map];omega)
  rw[<-List.map_drop]at this;exact this
 obtain⟨q,mq,pq,xq⟩:=jh1 hr 0 (by omega);obtain⟨q',mq',pq',xq'⟩:=jh1 hr 1 (by omega);have k0:=jnb (s:=s) 0 (by omega) (k:=0) rfl xq;have k1:=jnb (s:=s) 1 (by omega) (k:=1) rfl xq';by_cases h3:((s.whr.length:Nat):Int) > 3
 .obtain ⟨r,e1,e2,e3⟩:=jpr q.cls q'.cls (hz _ mq).1 (hz _ mq).2 (hz _ mq').1 (hz _ mq').2 s.whr[0] s.whr[1] s.whr[2] (s.whr.drop 3) (by rw[List.length_drop];omega)
  obtain⟨c',b',hf⟩:=jg2 r;rw[hf]at e1 e2;refine⟨r,Res.of hf ?_,Res.of hf ?_,λc h=>⟨jjZ (e3 c h).1,λ_=>(e3 c h).1,jnL (e3 c h).2 (λx hx=>by
   simp only[ja1,List.not_mem_nil,or_false]at hx;rcases hx with rfl|rfl
   .exact jlq (j:=0) (by omega) pq
   .exact jlq (j:=1) (by omega) pq')⟩⟩
  .rw [jjx];generalize s.whr.drop 3=D at *;simp only[evz,a1,a2,a3,a4,a5,a6,h1,h2,w0,w1,w2,hsl,jkB,k0,k1,juH,juI,juJ,juK,juL,juM,juN,jjm,e1]
  .rw [g93];generalize s.whr.drop 3=D at *;simp only[evz,a1,a2,a3,a4,a5,a6,h1,h3,w0,w1,w2,hsl,y0,y1,jkB,xq,xq',adS,ldC,e2]
 .rw [show s.whr.drop 3=[] from List.drop_eq_nil_of_le (by omega)]at hsl;have e1:=jrH q.cls q'.cls (hz _ mq) (hz _ mq') s.whr[0] s.whr[1] s.whr[2];have hsl:Jy 1 (.sl 1 (s.whr.map ci)) (some (vi 3)) none=some (.sl 1 []):=hsl;have e1:G 132 [cm q.cls,vi s.whr[0],vi s.whr[1],cm q'.cls,vi s.whr[2],.sl 1 []]=some (.tup [cz,vb false],[]):=e1;refine jg5 ?_ ?_
  .rw [jjx];simp only[evz,a1,a2,a3,a4,a5,a6,h1,h2,w0,w1,w2,hsl,jkB,k0,k1,juH,juI,juJ,juK,juL,juM,juN,jjm,e1]
  .rw [g93];simp only[evz,a1,a2,a3,a4,a5,a6,h1,h3]
theorem jIe(p:Prf)(s:Stp)(h1:¬s.rule=1)(h2:¬s.rule=2)(h3:¬s.rule=3)(h4:¬s.rule=4)(h5:¬s.rule=5)(h6:¬s.rule=6):jnK p s:=by
 refine jg5 ?_ ?_
 .rw [jjx];simp only[evz,h1,h2,h3,h4,h5,h6]
 .rw [g93];simp only[evz,h1,h2,h3,h4,h5,h6]
theorem jIk(p:Prf)(s:Stp)(hs:s.rule=6)(hr:Pok p s)(hz:∀q∈p.st,Cz q.cls)(hl:s.par.length<=1048576):jnK p s:=by
 have a1:(s.rule=1)=False:=eq_false (by omega);have a2:(s.rule=2)=False:=eq_false (by omega);have a3:(s.rule=3)=False:=eq_false (by omega);have a4:(s.rule=4)=False:=eq_false (by omega);have a5:(s.rule=5)=False:=eq_false (by omega);have a6:(s.rule=6)=True:=eq_true hs;have wi:=jhz ((s.par.length:Nat):Int) 2 11;by_cases h1:((s.par.length:Nat):Int) > 1;rotate_left
 .rw [show inB 2 11 ((s.par.length:Nat):Int)=false by unfold inB;rw[decide_eq_false (by omega),Bool.false_and]]at wi
  exact jg5 (by rw[jjx];simp only[evz,a1,a2,a3,a4,a5,a6,wi]) (by rw[g93];simp only[evz,a1,a2,a3,a4,a5,a6,h1])
 by_cases h2:((s.whr.length:Nat):Int)=0;rotate_left
 .refine jg5 ?_ (by rw[g93];simp only[evz,a1,a2,a3,a4,a5,a6,h1,h2])
  rw[jjx];cases hb:inB 2 11 ((s.par.length:Nat):Int)<;>rw[hb]at wi<;>simp only[evz,a1,a2,a3,a4,a5,a6,wi,h2]
 have y0:=ixN (l:=s.par) (j:=0) (by omega) (k:=0) rfl;obtain⟨q,mq,pq,xq⟩:=jh1 hr 0 (by omega);have k0:=jnb (s:=s) 0 (by omega) (k:=0) rfl xq;have e1:=jt4 p (s.par.drop 1) (by rw[List.length_drop];omega) (λx hx=>hr x (List.mem_of_mem_drop hx));have e2:=jrh p s.par hl hr (by omega);have hsl:Jy 1 (ints s.par) (some (vi 1)) none=some (ints (s.par.drop 1)):=by
  have:=jhJ (k:=1) (xs:=s.par.map ci) (i:=1) (by rw[List.length_map];omega)
  rw[<-List.map_drop]at this;exact this
 have nlt:¬((s.par.length:Nat):Int)<((s.par.length:Nat):Int):=by omega
 have eS:∀o,jju (ints s.par) (vi 1) (cls p.ax) (jhT p.st) [] [] []=some (.tup [cm o,vb false],[])->G 93 [prm p,stm s]=some (.tup [cm o,vb false],[]):=λo h=>by
  have h':G 120 [prm p,ints s.par]=some (.tup [cm o,vb false],[]):=by
   rw[jHH];simp only[evz,h]
  rw[g93];simp only[evz,a1,a2,a3,a4,a5,a6,h1,h2,h']
 have eT:∀o,jju (ints s.par) (vi 1) (cls p.ax) (jhT p.st) [] [] []=some (.tup [cm o,vb true],[])->G 93 [prm p,stm s]=some (.tup [cm o,vb true],[]):=λo h=>by
  have h':G 120 [prm p,ints s.par]=some (.tup [cm o,vb true],[]):=by
   rw[jHH];simp only[evz,h]
  rw[g93];simp only[evz,a1,a2,a3,a4,a5,a6,h1,h2,h']
 have eR:G 134 [prm p,ints (s.par.drop 1)]=joo (ints (s.par.drop 1)) (vi ((s.par.drop 1).length:Nat)) (vi 0) (cls p.ax) (jhT p.st) []:=by
  rw[jI9];generalize s.par.drop 1=D;simp only[evz]
 rw[e1]at eR;cases hrs:jh3 p (s.par.drop 1)with
 |none=>
  rw[hrs]at eR e2;refine jg5 ?_ (eS [] e2);rw[jjx];generalize s.par.drop 1=D at *;cases hb:inB 2 11 ((s.par.length:Nat):Int)<;>rw[hb]at wi
  .simp only[evz,a1,a2,a3,a4,a5,a6,wi]
  .have eR:G 134 [prm p,ints D]=some (.tup [.sl 2 [],vb false],[]):=eR;simp only[evz,a1,a2,a3,a4,a5,a6,wi,h2,hsl,eR]
 |some rs=>
  rw[hrs]at eR e2;have eR:G 134 [prm p,ints (s.par.drop 1)]=some (.tup [tms rs,vb true],[]):=eR;have e2:jju (ints s.par) (vi 1) (cls p.ax) (jhT p.st) [] [] []=jju (ints s.par) (vi (s.par.length:Nat)) (cls p.ax) (jhT p.st) (rs.map jgi) [] []:=e2;obtain⟨f1,f2⟩:=joa hz hrs;rw[List.length_drop]at f1;have hne:¬((rs.length:Nat):Int)=0:=by omega
  by_cases hm:10<rs.length
  .have er:=jt3 q.cls (hz _ mq) rs (by omega) f2 hm;rw[show inB 2 11 ((s.par.length:Nat):Int)=false by unfold inB;rw[decide_eq_false (p:=((s.par.length:Nat):Int)<=11) (by omega),Bool.and_false]]at wi;refine jg5 (by rw[jjx];simp only[evz,a1,a2,a3,a4,a5,a6,wi]) (eS [] ?_);rw[e2,jqE];simp only[evz,nlt,y0,jkB,xq,adS,ldC,hne,er];rfl
  .rw [show inB 2 11 ((s.par.length:Nat):Int)=true by unfold inB;rw[decide_eq_true (by omega),decide_eq_true (by omega)];rfl]at wi
   obtain⟨r,b1,b2,b3⟩:=jrg q.cls (hz _ mq).1 (hz _ mq).2 rs (by omega) f2;have mo:∀x∈q.cls::rs.map (λt=>[(true,t)]),x∈pcl p s:=λx hx=>by
    rcases ja1.1 hx with rfl|hx
    .exact jlq (j:=0) (by omega) pq
    .obtain ⟨t,ht,rfl⟩:=jfx.1 hx;obtain⟨y,hy,e⟩:=jri hrs t ht;exact jfZ _ (jfx.2 ⟨y,List.mem_of_mem_drop hy,e⟩)
   generalize s.par.drop 1=D at *;cases r with
   |none=>
    have b1:G 135 [cm q.cls,tms rs]=some (.tup [cz,vb false],[]):=b1;have b2:G 150 [cm q.cls,tms rs]=some (.tup [cz,vb false],[]):=b2;refine jg5 ?_ (eS [] ?_)
    .rw [jjx];simp only[evz,a1,a2,a3,a4,a5,a6,wi,h2,hsl,eR,k0,juH,juI,juJ,juK,juL,juM,juN,jjm,b1]
    .rw [e2,jqE];simp only[evz,nlt,y0,jkB,xq,adS,ldC,hne,b2];rfl
   |some c=>
    have b1:G 135 [cm q.cls,tms rs]=some (.tup [cm c,vb true],[]):=b1;have b2:G 150 [cm q.cls,tms rs]=some (.tup [cm c,vb true],[]):=b2;have zc:=jjZ (b3 c rfl).1;have s1:=jm4 c q.cls zc.1 zc.2 (hz _ mq).2;have s2:=jr8 c q.cls zc.1 zc.2 (hz _ mq).2;have k0':=k0;cases hsame:dq c q.cls<;>rw[hsame]at s1 s2
    .refine ⟨some c,Res.of (c:=c) (b:=true) rfl ?_,Res.of (c:=c) (b:=true) rfl (eT c ?_),λx h=>by cases h;exact⟨zc,λ_=>(b3 c rfl).1,jnL (b3 c rfl).2 mo⟩⟩
     .rw [jjx];simp only[evz,a1,a2,a3,a4,a5,a6,wi,h2,hsl,eR,k0,juH,juI,juJ,juK,juL,juM,juN,jjm,b1,s1]
     .rw [e2,jqE];simp only[evz,nlt,y0,jkB,xq,adS,ldC,hne,b2,s2]
    .refine ⟨none,⟨c,false,?_,(λh=>by cases h),λ_=>rfl⟩,⟨[],false,eS [] ?_,(λh=>by cases h),λ_=>rfl⟩,λx h=>by cases h⟩
     .rw [jjx];simp only[evz,a1,a2,a3,a4,a5,a6,wi,h2,hsl,eR,k0,juH,juI,juJ,juK,juL,juM,juN,jjm,b1,s1]
     .rw [e2,jqE];simp only[evz,nlt,y0,jkB,xq,adS,ldC,hne,b2,s2];rfl
theorem jC0{p:Prf}(hp:Pz p){s:Stp}(hs:s∈p.st)(hr:Pok p s):jnK p s:=by
 by_cases h1:s.rule=1
 .exact jIf p s h1 hp.axs hp.ax
 by_cases h2:s.rule=2
 .exact jIg p s h2 hr hp.cls
 by_cases h3:s.rule=3
 .exact jIh p s h3 hr hp.cls (hp.wI s hs)
 by_cases h4:s.rule=4
 .exact jIi p s h4 hr hp.cls (hp.whr s hs)
 by_cases h5:s.rule=5
 .exact jIj p s h5 hr hp.cls
 by_cases h6:s.rule=6
 .exact jIk p s h6 hr hp.cls (hp.par s hs)
 exact jIe p s h1 h2 h3 h4 h5 h6
theorem juz{p:Prf}(hp:Pz p)(i:Nat)(hi:i<p.st.length):∃b:Bool,G 86 [prm p,vi (i:Nat)]=some (vb b,[])/\G 66 [prm p,vi (i:Nat)]=some (vb b,[])/\(b=true->(wfP p=true->jgu p.st[i].cls=true)/\Sd (pcl p p.st[i]) p.st[i].cls):=by
 have hst:=hp.st;have ms:=jfL hi;have x1:kL 4 (jhT p.st) (vi (i:Nat))=some (.elt (stc p.st[i]) 0):=jfY hi;generalize p.st[i]=s at ms x1⊢;have hl:=hp.par s ms;have e1:=jtA i (by omega) s.par hl;have e2:=jmU p s i (by omega) hl;have ok:Ka (vi (i:Nat))=true:=rfl;cases hb:s.par.all (inB 0 ((i:Int)-1))<;>rw[hb]at e1 e2
 .refine ⟨false,?_,?_,λh=>by cases h⟩
  .rw [g86];simp only[evz,ok,x1,jib,e1]
  .have e2:=e2.trans (ja0 (by decide));rw[g66];simp only[evz,x1,jib,e2]
 have e2:=e2.trans (jbZ rfl);have hr:Pok p s:=λx hx=>by
  have:=jfn.1 hb x hx;unfold inB at this;rw[jbX,jfH,jfH]at this;omega
 have nlt:¬((s.par.length:Nat):Int)<((s.par.length:Nat):Int):=by omega
 obtain⟨r,⟨c1,b1,i1,t1,f1⟩,⟨c2,b2,i2,t2,f2⟩,hz⟩:=jC0 hp ms hr;cases b1
 .have hr0:=f1 rfl;cases b2
  .have e3:jnJ (vi (i:Nat)) (vi (s.par.length:Nat)) (cls p.ax) (jhT p.st) (vi s.rule) (ints s.par) (ints s.whr) (.sl 3 (s.cls.map ltc))=some (vb false,[]):=by
    rw[jCp];simp only[evz,nlt,i2]
   rw[e3]at e2;refine⟨false,?_,?_,λh=>by cases h⟩
   .rw [g86];simp only[evz,ok,x1,jib,e1,i1]
   .rw [g66];simp only[evz,x1,jib,e2]
  .rw [hr0]at t2;exact absurd (t2 rfl) (by intro h;cases h)
 .have hr1:=t1 rfl;cases b2
  .rw [hr1]at f2;exact absurd (f2 rfl) (by intro h;cases h)
  .have hr2:=t2 rfl;rw[hr1]at hr2;cases hr2;have zc:=(hz _ hr1).1;have s1:=jm4 c1 s.cls zc.1 zc.2 (hp.cls s ms).2;have s2:=jr8 c1 s.cls zc.1 zc.2 (hp.cls s ms).2;have e3:jnJ (vi (i:Nat)) (vi (s.par.length:Nat)) (cls p.ax) (jhT p.st) (vi s.rule) (ints s.par) (ints s.whr) (.sl 3 (s.cls.map ltc))=some (vb (dq c1 s.cls),[]):=by
    rw[jCp];simp only[evz,nlt,i2,s2]
   rw[e3]at e2;refine⟨dq c1 s.cls,?_,?_,λh=>by
    have h7:=(hz _ hr1).2;rw[jhF.1 h]at h7;exact h7⟩
   .rw [g86];simp only[evz,ok,x1,jib,e1,i1,s1]
   .rw [g66];simp only[evz,x1,jib,e2]
noncomputable def jqq(p:Prf)(i:Nat):Bool:=@decide (G 66 [prm p,vi (i:Nat)]=some (vb true,[])) (Classical.propDecidable _)
theorem jnd{p:Prf}(hp:Pz p)(i:Nat)(hi:i<p.st.length):G 86 [prm p,vi (i:Nat)]=some (vb (jqq p i),[])/\G 66 [prm p,vi (i:Nat)]=some (vb (jqq p i),[])/\(jqq p i=true->wfP p=true->jgu p.st[i].cls=true):=by
 obtain⟨b,h1,h2,h3⟩:=juz hp i hi;have:jqq p i=b:=by
  unfold jqq;rw[h2];cases b with
  |true=>exact @decide_eq_true _ (Classical.propDecidable _) rfl
  |false=>exact @decide_eq_false _ (Classical.propDecidable _) (by intro h;cases h)
 rw[this];exact⟨h1,h2,λhb=>(h3 hb).1⟩
noncomputable def jh4(p:Prf):Nat->Nat->Int
 |0,_=> -1
 |n+1,i=>if jqq p i then jh4 p n (i+1)else i
theorem jy0{p:Prf}(hp:Pz p):G 58 [prm p]=some (vi (jh4 p p.st.length 0),[]):=by
 have hst:=hp.st;have key:=upto (P:=λi=>jxQ (vi (p.st.length:Nat)) (vi (i:Nat)) (cls p.ax) (jhT p.st)=some (vi (jh4 p (p.st.length-i) i),[])) (n:=p.st.length) ?_ ?_ 0 (Nat.zero_le _)
 .simp only[Int.natCast_zero,Nat.sub_zero]at key;rw[g58];simp only[evz,key]
 .rw [jFm,Nat.sub_self];simp only[evz,jh4]
 .intro i hi ih;have hlt:(i:Int)<((p.st.length:Nat):Int):=by omega
  have h5:=jgj hi (by show p.st.length<=9223372036854775807;omega)
  have e:=(jnd hp i hi).1;rw[jFm,show p.st.length-i=(p.st.length-(i+1))+1 by omega,jh4];cases hc:jqq p i<;>rw[hc]at e
  .simp only[evz,hlt,e]
  .simp only[evz,hlt,e,h5,ih]
theorem jy1{p:Prf}(hp:Pz p):G 44 [prm p]=some (vi (jh4 p p.st.length 0),[]):=by
 have hst:=hp.st;have key:=upto (P:=λi=>jxP (vi (i:Nat)) (cls p.ax) (jhT p.st)=some (vi (jh4 p (p.st.length-i) i),[])) (n:=p.st.length) ?_ ?_ 0 (Nat.zero_le _)
 .simp only[Int.natCast_zero,Nat.sub_zero]at key;rw[g44];simp only[evz,key]
 .rw [jFl,Nat.sub_self];simp only[evz,jh4]
 .intro i hi ih;have hlt:(i:Int)<((p.st.length:Nat):Int):=by omega
  have h5:=jgj hi (by show p.st.length<=9223372036854775807;omega)
  have e:=(jnd hp i hi).2.1;rw[jFl,show p.st.length-i=(p.st.length-(i+1))+1 by omega,jh4];cases hc:jqq p i<;>rw[hc]at e
  .simp only[evz,hlt,e]
  .simp only[evz,hlt,e,h5,ih]
noncomputable def joV(p:Prf):Bool:=wfP p && decide (jh4 p p.st.length 0<0)
theorem jzX{p:Prf}(hp:Pz p):G 37 [prm p]=some (vb (joV p),[])/\G 23 [prm p]=some (vb (joV p),[]):=by
 have e1:=jrJ p hp.ax hp.axs;have e2:=juX p hp.ax hp.axs;have f1:=jy0 hp;have f2:=jy1 hp;unfold joV;cases hw:wfP p<;>rw[hw]at e1 e2
 .refine ⟨?_,?_⟩
  .rw [g37];simp only[evz,e1,Bool.false_and]
  .rw [g23];simp only[evz,e2,Bool.false_and]
 .refine ⟨?_,?_⟩
  .rw [g37];simp only[evz,e1,f1,Bool.true_and]
  .rw [g23];simp only[evz,e2,f2,Bool.true_and]
theorem jAG{p:Prf}(hp:Pz p)(i:Nat)(hi:i<p.st.length)(h:jqq p i=true):p.st[i].par.all (inB 0 ((i:Int)-1))=true:=by
 have hst:=hp.st;have ms:=jfL hi;have x1:kL 4 (jhT p.st) (vi (i:Nat))=some (.elt (stc p.st[i]) 0):=jfY hi;have e:=(jnd hp i hi).2.1;rw[h]at e;generalize p.st[i]=s at ms x1;have hl:=hp.par s ms;have e2:=jmU p s i (by omega) hl;cases hb:s.par.all (inB 0 ((i:Int)-1))
 .rw [hb]at e2;have e2:=e2.trans (ja0 (by decide));have e3:G 66 [prm p,vi (i:Nat)]=some (vb false,[]):=by
   rw[g66];simp only[evz,x1,jib,e2]
  rw[e3]at e;exact absurd (congrArg (λo:Xe=>o.bind λx=>qf x.1) e) (by intro h;cases h)
 .rfl
theorem jnT(p:Prf):∀(n i:Nat),jh4 p n i<0-> ∀j,i<=j->j<i+n->jqq p j=true
 |0,i,_,j,h1,h2=>by omega
 |n+1,i,h,j,h1,h2=>by
  unfold jh4 at h;by_cases hc:jqq p i=true
  .rw [jbZ hc]at h;by_cases e:j=i
   .rw [e];exact hc
   .exact jnT p n (i+1) h j (by omega) (by omega)
  .rw [ja0 hc]at h;omega
theorem jzY{p:Prf}(hp:Pz p)(h:joV p=true):p.st.length<=60/\ ∀(i:Nat)(hi:i<p.st.length),∀x∈p.st[i].par,0<=x/\x<(i:Int):=by
 unfold joV wfP at h;simp only[jbX,jfH]at h;refine⟨h.1.2,λi hi x hx=>?_⟩;have:=jAG hp i hi (jnT p _ 0 h.2 i (Nat.zero_le _) (by omega));have:=jfn.1 this x hx;unfold inB at this;rw[jbX,jfH,jfH]at this;omega
abbrev cn(n:Nat):Xd:=[vi (n:Nat)]
def jFb(acc:Xf):Nat->Xi->Nat
 |d,[]=>d
 |d,x::r=>jFb acc (max d (acc.getD x.toNat 0+1)) r
def dpt(p:Prf):Nat->Xf
 |0=>[]
 |i+1=>dpt p i++[jFb (dpt p i) 0 (((p.st[i]?).map Stp.par).getD [])]
theorem juF(l:Xi):Ku (l.map ci)=true:=by
 unfold Ku;rw[jfn];intro x hx;obtain⟨y,_,rfl⟩:=jfx.1 hx;rfl
theorem jE2(l:Xi):je1 (l.map ci)=true:=by
 unfold je1;rw[jfn];intro x hx;obtain⟨z,hz,hx⟩:=jfD.1 hx;obtain⟨y,_,rfl⟩:=jfx.1 hz;rw[jdC.1 hx];rfl
theorem jm1:∀(r M:Xi)(k:Int),0<=k->k+r.length<=4194304->(M++r).length<=9223372036854775807->jnv (vi k) (vi (M.length:Nat)) ((M++r).map ci)=some (.top,[vi (k+(r.length:Nat)),.sl 65 ((M++jne k r.length).map ci)])
 | [],M,k,h0,hk,hl=>by
  rw[jpK,jf4];simp only[evz,jne,jf4,Int.natCast_zero,Int.add_zero]
 |x::r,M,k,h0,hk,hl=>by
  have h1:=jtV M r x;have h2:=jjB (M.map ci) (r.map ci) (ci x);have h3:=jiO (M.map ci) (r.map ci) (ci x);have h4:=jiP (M.map ci) (r.map ci) (ci x) [vi k];rw[show M.map ci++ci x::r.map ci=(M++x::r).map ci by simp,List.length_map,List.length_map]at h2;rw[show M.map ci++ci x::r.map ci=(M++x::r).map ci by simp,List.length_map]at h3;rw[show M.map ci++ci x::r.map ci=(M++x::r).map ci by simp,List.length_map,show M.map ci++[vi k]::r.map ci=(M++[k]++r).map ci by simp]at h4;have e1:ck (k+1)=some (vi (k+1)):=jgA (by omega) (by simp only[jfC]at hk;omega);have h5:=jgj (i:=M.length) (n:=(M++x::r).length) (by simp) hl;have ih:=jm1 r (M++[k]) (k+1) (by omega) (by simp only[jfC]at hk;omega) (by simp at hl⊢;omega);have q:(M++[k]).length=M.length+1:=by simp
  have q2:M++[k]++jne (k+1) r.length=M++jne k (r.length+1):=by rw[jet];rfl
  rw[q,q2,show k+1+((r.length:Nat):Int)=k+((r.length+1:Nat):Int) by omega]at ih;have o3:Zj (ci x) 0 [vi k]=[vi k]:=rfl;have t1:jej (ci x) 0 1=true:=rfl;rw[jpK,jfC];simp only[evz,h1,h2,h3,h4,jkK,t1,o3,e1,h5,ih]
theorem jvk(l:Xi)(hk:l.length<=1000):jrM (vi 1) (l.map ci)=some (.top,[vi (1+(l.length:Nat)),.sl 65 ((jne 1 l.length).map ci)]):=by
 have:=jm1 l [] 1 (by omega) (by omega) (by simp;omega)
 rw[jFa];exact this
theorem jFO{p:Prf}(hw:pwf p)(hp:Pz p)(k:Int):∃(l:Xi)(b:Bool),l.length<=1000/\jDH (prm p) (vi k)=some (.top,[vb b,ints l])/\jFI (prm p) (vi k)=some (.top,[vb b,ints l]):=by
 have hst:=hp.st;obtain⟨v1,v2⟩:=jzX hp;have c1:ck (((p.st.length:Nat):Int)-1)=some (vi (((p.st.length:Nat):Int)-1)):=jgA (by omega) (by omega);have p1:=jhz k 0 (((p.st.length:Nat):Int)-1);have q1:=jhd k 0 (((p.st.length:Nat):Int)-1);cases hb:inB 0 (((p.st.length:Nat):Int)-1) k<;>rw[hb]at p1 q1
 .have e:G 27 [prm p,vi k]=some (vb false,[]):=by
   rw[g27];simp only[evz,c1,p1]
  refine⟨[],false,by simp,?_,?_⟩
  .rw [jGf];simp only[evz,e];rfl
  .rw [jGe];simp only[evz,c1,q1];rfl
 cases hv:joV p<;>rw[hv]at v1 v2
 .have e:G 27 [prm p,vi k]=some (vb false,[]):=by
   rw[g27];simp only[evz,c1,p1,v1]
  refine⟨[],false,by simp,?_,?_⟩
  .rw [jGf];simp only[evz,e];rfl
  .rw [jGe];simp only[evz,c1,q1,v2];rfl
 .have e:G 27 [prm p,vi k]=some (vb true,[]):=by
   rw[g27];simp only[evz,c1,p1,v1]
  obtain⟨h60,hpar⟩:=jzY hp hv;have hx:0<=k/\k<((p.st.length:Nat):Int):=by
   unfold inB at hb;rw[jbX,jfH,jfH]at hb;omega
  obtain⟨n,rfl⟩:=jfX hx.1;have hn:n<p.st.length:=by omega
  have hp':∀i:Nat,∀q∈prL p i,0<=q/\q<(i:Int):=λi q hq=>by
   unfold prL at hq;split at hq
   .rename_i h;exact hpar i h q hq
   .cases hq
  have hb':∀i:Nat,(prL p i).length<=9223372036854775807:=λi=>by
   unfold prL;split
   .exact (hw.2.1 _ (jfL _)).2.1.2
   .simp
  have d1:=jDI hp' hb' h60 n hn;have d2:=jDJ hp' hb' h60 n hn;generalize hl:((List.range (n+1)).filter (jkZ (prL p) (n+1) λj=>decide (j=n))).map Int.ofNat=l at d1 d2;have hll:l.length<=1000:=by
   rw[<-hl,List.length_map];have:=List.length_filter_le (jkZ (prL p) (n+1) λj=>decide (j=n)) (List.range (n+1));rw[List.length_range]at this;omega
  have f:=juF l;refine⟨l,true,hll,?_,?_⟩
  .rw [jGf];simp only[evz,e,d1,f]
  .rw [jGe];simp only[evz,c1,q1,v2,d2,f]
set_option maxRecDepth 4000 in
theorem jrB(p:Prf)(k:Int)(hw:pwf p):G 3 [prm p,vi k]=some (vb true,[]):=by
 have e1:=jDk p hw 1048576 (by decide) (by decide);rw[g3];by_cases h1:jgI 1048576 ((psz p:Nat):Int)<0
 .simp only[evz,e1,h1]
 .obtain ⟨b1,b2,b3⟩:=jCq (by decide) (by decide) h1;have a1:=jzR p b3;have a2:=jAS p hw;obtain⟨l,b,hl,r1,r2⟩:=jFO hw (Pz.of hw b3) k;obtain⟨j,X,Y,m1⟩:=jtU p hw b3;have a3:=jtD l (by omega);have m2:=jvk l hl;have m3:=juO l.length 1 (by omega) (by omega);have f:=juF l;have v:=jE2 l;have n1:¬((j:Nat):Int)<0:=by omega
  have n2:¬(1:Int)+((l.length:Nat):Int)<0:=by omega
  have r0:∀(x y z:A)(u:Nat)(w:Xc),hR u (A.top,[x,y,.sl u w]) 2=some w:=λx y z u w=>by unfold hR;simp
  have fb:∀c:Bool,kX (vb c)=true:=λ_=>rfl;cases b<;>simp only[evz,fb,e1,h1,a1,a2,r1,r2,m1,a3,m2,m3,f,v,n1,n2,List.getElem?_cons_zero]
end Go.Proofs.YthlhadhipnokfaaGreatDoor
