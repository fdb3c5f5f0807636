/- Ph -/
import Derived.Test.YtbgikpffkgjecaaGreatDoorPg
import Derived.Test.YtbgikpffkgjecaaGreatDoorPf
namespace Go.Proofs.YtbgikpffkgjecaaGreatDoor
open Go Go.RowKit Go.Proofs.YtbgikpffkgjecaaGreatDoor.Abs
set_option linter.unusedSimpArgs false
set_option linter.unusedVariables false
set_option maxHeartbeats 1000000
def pcl (p:Prf) (s:Stp):List kh:=p.ax++s.par.map λx=>((p.st[x.toNat]?).map Stp.cls).getD []
def jep (p:Prf) (s:Stp):Prop:=∃r:Option kh,Res (G 29 [prm p,stm s]) r/\Res (G 37 [prm p,stm s]) r/\ ∀c,r=some c->Cz c/\(wfP p=true->jN c=true)/\Sd (pcl p s) c
theorem z8 {p:Prf} {s:Stp} (h1:G 29 [prm p,stm s]=some (.tup [cz,vb false],[])) (h2:G 37 [prm p,stm s]=some (.tup [cz,vb false],[])):jep p s:=
 ⟨none,⟨[],false,h1,(λh=>by cases h),λ_=>rfl⟩,⟨[],false,h2,(λh=>by cases h),λ_=>rfl⟩,λc h=>by cases h⟩
theorem jeq {ps ps':List kh} {x:kh} (h:Sd ps x) (hm:∀c∈ps,c∈ps'):Sd ps' x:=λm t=>h m λc hc=>t c (hm c hc)
theorem jFE {ps:List kh} {x:kh} (h:x∈ps):Sd ps x:=λ_ t=>t x h
theorem jaQ {p:Prf} {s:Stp} {j:Nat} (hj:j < s.par.length) {q:Stp} (hq:p.st[s.par[j].toNat]? = some q):q.cls∈pcl p s:=Kg _ (zN.2 ⟨s.par[j],jC hj,by rw [hq];rfl⟩)
theorem jjO {p:Prf} :∀ {l:List Int} {rs:List T},Jj p l=some rs-> ∀t∈rs,∃x∈l,((p.st[x.toNat]?).map Stp.cls).getD [] = [(true,t)]
 | [],rs,h=>by cases h;exact λt ht=>by cases ht
 | x::xs,rs,h=>by
  unfold Jj at h;split at h
  ·rename_i q hq;split at h
   ·rename_i t ht;rw [yB] at h;obtain ⟨rs',h1,rfl⟩:=h;intro r hr;rcases jZ.1 hr with rfl|hr
    ·refine ⟨x,K1 ..,?_⟩;rw [hq];show q.cls = [(true,r)];unfold jcm at ht;split at ht
     ·rename_i l hl;split at ht
      ·rename_i hb;cases ht;rw [hl,<-hb]
      ·cases ht
     ·cases ht
    ·obtain ⟨y,hy,e⟩:=jjO h1 r hr;exact ⟨y,JR _ hy,e⟩
   ·cases h
  ·cases h
theorem jI1 (p:Prf) (s:Stp) (hs:s.rule=1) (hz:∀c∈p.ax,Cz c) (ha:p.ax.length<=1048576):jep p s:=by
 have a1:(s.rule=1)=True:=yC hs;have a2:(s.rule=2)=False:=ke (by omega);have a3:(s.rule=3)=False:=ke (by omega);have a4:(s.rule=4)=False:=ke (by omega);have a5:(s.rule=5)=False:=ke (by omega);have a6:(s.rule=6)=False:=ke (by omega);by_cases h1:((s.par.length:Nat):Int)=0;rotate_left
 ·exact z8 (by rw [g29];simp only [jd,a1,a2,a3,a4,a5,a6,h1]) (by rw [g37];simp only [jd,a1,a2,a3,a4,a5,a6,h1])
 by_cases h2:((s.whr.length:Nat):Int)=1;rotate_left
 ·exact z8 (by rw [g29];simp only [jd,a1,a2,a3,a4,a5,a6,h1,h2]) (by rw [g37];simp only [jd,a1,a2,a3,a4,a5,a6,h1,h2])
 have w0:=ixN (l:=s.whr) (j:=0) (by omega) (k:=0) rfl;have c1:ck (((p.ax.length:Nat):Int) - 1)=some (vi (((p.ax.length:Nat):Int) - 1)):=jE (by omega) (by omega);have p1:=qh s.whr[0] 0 (((p.ax.length:Nat):Int) - 1);have q1:=yx s.whr[0] 0 (((p.ax.length:Nat):Int) - 1);cases hb:qx 0 (((p.ax.length:Nat):Int) - 1) s.whr[0]<;>rw [hb] at p1 q1
 ·exact z8 (by rw [g29];simp only [jd,a1,a2,a3,a4,a5,a6,h1,h2,w0,qN,c1,p1]) (by rw [g37];simp only [jd,a1,a2,a3,a4,a5,a6,h1,h2,w0,qN,c1,q1])
 have hx:0<=s.whr[0]/\s.whr[0] < ((p.ax.length:Nat):Int):=by
  unfold qx at hb;rw [jy,kM,kM] at hb;omega
 obtain ⟨n,hn⟩:=jcu hx.1;have hlt:n < p.ax.length:=by omega
 have x1:jl 1 (cls p.ax) (vi s.whr[0])=some (.elt (QD p.ax[n]) 0):=by rw [hn];exact ja hlt
 refine ⟨some p.ax[n],Res.of rfl ?_,Res.of rfl ?_,λc h=>by cases h;exact ⟨hz _ (jC hlt),λhw=>jHi hw _ (jC hlt),jFE (JA _ (jC hlt))⟩⟩
 ·rw [g29];simp only [jd,a1,a2,a3,a4,a5,a6,h1,h2,w0,qN,c1,p1,x1,Yz]
 ·rw [g37];simp only [jd,a1,a2,a3,a4,a5,a6,h1,h2,w0,qN,c1,q1,x1,Yz]
theorem jI2 (p:Prf) (s:Stp) (hs:s.rule=2) (hr:Pok p s) (hz:∀q∈p.st,Cz q.cls):jep p s:=by
 have a1:(s.rule=1)=False:=ke (by omega);have a2:(s.rule=2)=True:=yC hs;have a3:(s.rule=3)=False:=ke (by omega);have a4:(s.rule=4)=False:=ke (by omega);have a5:(s.rule=5)=False:=ke (by omega);have a6:(s.rule=6)=False:=ke (by omega);by_cases h1:((s.par.length:Nat):Int)=2;rotate_left
 ·exact z8 (by rw [g29];simp only [jd,a1,a2,a3,a4,a5,a6,h1]) (by rw [g37];simp only [jd,a1,a2,a3,a4,a5,a6,h1])
 by_cases h2:((s.whr.length:Nat):Int)=2;rotate_left
 ·exact z8 (by rw [g29];simp only [jd,a1,a2,a3,a4,a5,a6,h1,h2]) (by rw [g37];simp only [jd,a1,a2,a3,a4,a5,a6,h1,h2])
 have w0:=ixN (l:=s.whr) (j:=0) (by omega) (k:=0) rfl;have w1:=ixN (l:=s.whr) (j:=1) (by omega) (k:=1) rfl;have y0:=ixN (l:=s.par) (j:=0) (by omega) (k:=0) rfl;have y1:=ixN (l:=s.par) (j:=1) (by omega) (k:=1) rfl;obtain ⟨q,mq,pq,xq⟩:=Jg hr 0 (by omega);obtain ⟨q',mq',pq',xq'⟩:=Jg hr 1 (by omega);have k0:=jdA (s:=s) 0 (by omega) (k:=0) rfl xq;have k1:=jdA (s:=s) 1 (by omega) (k:=1) rfl xq';obtain ⟨r,e1,e2,e3⟩:=jdo q.cls q'.cls (hz _ mq).1 (hz _ mq).2 (hz _ mq').1 (hz _ mq').2 s.whr[0] s.whr[1];obtain ⟨c',b',hf⟩:=zW r;rw [hf] at e1 e2;refine ⟨r,Res.of hf ?_,Res.of hf ?_,λc h=>⟨Zq (e3 c h).1,λ_=>(e3 c h).1,jeq (e3 c h).2 (λx hx=>by
  simp only [jZ,qK,Jb] at hx;rcases hx with rfl|rfl
  ·exact jaQ (j:=0) (by omega) pq
  ·exact jaQ (j:=1) (by omega) pq')⟩⟩
 ·rw [g29];simp only [jd,a1,a2,a3,a4,a5,a6,h1,h2,w0,w1,qN,k0,k1,jpt,jpu,jpv,jpw,jpx,jpy,jpz,ZN,e1]
 ·rw [g37];simp only [jd,a1,a2,a3,a4,a5,a6,h1,h2,w0,w1,y0,y1,qN,xq,xq',adS,ldC,e2]
theorem jI3 (p:Prf) (s:Stp) (hs:s.rule=3) (hr:Pok p s) (hz:∀q∈p.st,Cz q.cls) (hw:∀x∈s.whr,I64 x):jep p s:=by
 have a1:(s.rule=1)=False:=ke (by omega);have a2:(s.rule=2)=False:=ke (by omega);have a3:(s.rule=3)=True:=yC hs;have a4:(s.rule=4)=False:=ke (by omega);have a5:(s.rule=5)=False:=ke (by omega);have a6:(s.rule=6)=False:=ke (by omega);by_cases h1:((s.par.length:Nat):Int)=1;rotate_left
 ·exact z8 (by rw [g29];simp only [jd,a1,a2,a3,a4,a5,a6,h1]) (by rw [g37];simp only [jd,a1,a2,a3,a4,a5,a6,h1])
 by_cases h2:((s.whr.length:Nat):Int)=2;rotate_left
 ·exact z8 (by rw [g29];simp only [jd,a1,a2,a3,a4,a5,a6,h1,h2]) (by rw [g37];simp only [jd,a1,a2,a3,a4,a5,a6,h1,h2])
 have w0:=ixN (l:=s.whr) (j:=0) (by omega) (k:=0) rfl;have w1:=ixN (l:=s.whr) (j:=1) (by omega) (k:=1) rfl;have y0:=ixN (l:=s.par) (j:=0) (by omega) (k:=0) rfl;obtain ⟨q,mq,pq,xq⟩:=Jg hr 0 (by omega);have k0:=jdA (s:=s) 0 (by omega) (k:=0) rfl xq;have hi:=hw s.whr[0] (jC (by omega));obtain ⟨r,e1,e2,e3⟩:=jeE q.cls (hz _ mq).1 (hz _ mq).2 s.whr[0] s.whr[1] (by unfold I64 at hi;omega);obtain ⟨c',b',hf⟩:=zW r;rw [hf] at e1 e2;refine ⟨r,Res.of hf ?_,Res.of hf ?_,λc h=>⟨Zq (e3 c h).1,λ_=>(e3 c h).1,jeq (e3 c h).2 (λx hx=>by
  rw [ku.1 hx];exact jaQ (j:=0) (by omega) pq)⟩⟩
 ·rw [g29];simp only [jd,a1,a2,a3,a4,a5,a6,h1,h2,w0,w1,qN,k0,jpt,jpu,jpv,jpw,jpx,jpy,jpz,ZN,e1]
 ·rw [g37];simp only [jd,a1,a2,a3,a4,a5,a6,h1,h2,w0,w1,y0,qN,xq,adS,ldC,e2]
theorem jI5 (p:Prf) (s:Stp) (hs:s.rule=5) (hr:Pok p s) (hz:∀q∈p.st,Cz q.cls):jep p s:=by
 have a1:(s.rule=1)=False:=ke (by omega);have a2:(s.rule=2)=False:=ke (by omega);have a3:(s.rule=3)=False:=ke (by omega);have a4:(s.rule=4)=False:=ke (by omega);have a5:(s.rule=5)=True:=yC hs;have a6:(s.rule=6)=False:=ke (by omega);by_cases h1:((s.par.length:Nat):Int)=1;rotate_left
 ·exact z8 (by rw [g29];simp only [jd,a1,a2,a3,a4,a5,a6,h1]) (by rw [g37];simp only [jd,a1,a2,a3,a4,a5,a6,h1])
 by_cases h2:((s.whr.length:Nat):Int)=1;rotate_left
 ·exact z8 (by rw [g29];simp only [jd,a1,a2,a3,a4,a5,a6,h1,h2]) (by rw [g37];simp only [jd,a1,a2,a3,a4,a5,a6,h1,h2])
 have w0:=ixN (l:=s.whr) (j:=0) (by omega) (k:=0) rfl;have y0:=ixN (l:=s.par) (j:=0) (by omega) (k:=0) rfl;obtain ⟨q,mq,pq,xq⟩:=Jg hr 0 (by omega);have k0:=jdA (s:=s) 0 (by omega) (k:=0) rfl xq;obtain ⟨r,e1,e2,e3⟩:=jbb q.cls (hz _ mq).1 (hz _ mq).2 s.whr[0];obtain ⟨c',b',hf⟩:=zW r;rw [hf] at e1 e2;refine ⟨r,Res.of hf ?_,Res.of hf ?_,λc h=>⟨Zq (e3 c h).1,λ_=>(e3 c h).1,jeq (e3 c h).2 (λx hx=>by
  rw [ku.1 hx];exact jaQ (j:=0) (by omega) pq)⟩⟩
 ·rw [g29];simp only [jd,a1,a2,a3,a4,a5,a6,h1,h2,w0,qN,k0,jpt,jpu,jpv,jpw,jpx,jpy,jpz,ZN,e1]
 ·rw [g37];simp only [jd,a1,a2,a3,a4,a5,a6,h1,h2,w0,y0,qN,xq,adS,ldC,e2]
theorem jI4 (p:Prf) (s:Stp) (hs:s.rule=4) (hr:Pok p s) (hz:∀q∈p.st,Cz q.cls) (hl:s.whr.length<=1048576):jep p s:=by
 have a1:(s.rule=1)=False:=ke (by omega);have a2:(s.rule=2)=False:=ke (by omega);have a3:(s.rule=3)=False:=ke (by omega);have a4:(s.rule=4)=True:=yC hs;have a5:(s.rule=5)=False:=ke (by omega);have a6:(s.rule=6)=False:=ke (by omega);by_cases h1:((s.par.length:Nat):Int)=2;rotate_left
 ·exact z8 (by rw [g29];simp only [jd,a1,a2,a3,a4,a5,a6,h1]) (by rw [g37];simp only [jd,a1,a2,a3,a4,a5,a6,h1])
 by_cases h2:((s.whr.length:Nat):Int)>=3;rotate_left
 ·have h3:¬((s.whr.length:Nat):Int) > 3:=by omega
  exact z8 (by rw [g29];simp only [jd,a1,a2,a3,a4,a5,a6,h1,h2]) (by rw [g37];simp only [jd,a1,a2,a3,a4,a5,a6,h1,h3])
 have w0:=ixN (l:=s.whr) (j:=0) (by omega) (k:=0) rfl;have w1:=ixN (l:=s.whr) (j:=1) (by omega) (k:=1) rfl;have w2:=ixN (l:=s.whr) (j:=2) (by omega) (k:=2) rfl;have y0:=ixN (l:=s.par) (j:=0) (by omega) (k:=0) rfl;have y1:=ixN (l:=s.par) (j:=1) (by omega) (k:=1) rfl;have hsl:yq 1 (ints s.whr) (some (vi 3)) none=some (ints (s.whr.drop 3)):=by
  have:=qd (k:=1) (xs:=s.whr.map ci) (i:=3) (by rw [kj];omega)
  rw [<-jcA] at this;exact this
 obtain ⟨q,mq,pq,xq⟩:=Jg hr 0 (by omega);obtain ⟨q',mq',pq',xq'⟩:=Jg hr 1 (by omega);have k0:=jdA (s:=s) 0 (by omega) (k:=0) rfl xq;have k1:=jdA (s:=s) 1 (by omega) (k:=1) rfl xq';by_cases h3:((s.whr.length:Nat):Int) > 3
 ·obtain ⟨r,e1,e2,e3⟩:=jbc q.cls q'.cls (hz _ mq).1 (hz _ mq).2 (hz _ mq').1 (hz _ mq').2 s.whr[0] s.whr[1] s.whr[2] (s.whr.drop 3) (by rw [qu];omega)
  obtain ⟨c',b',hf⟩:=zW r;rw [hf] at e1 e2;refine ⟨r,Res.of hf ?_,Res.of hf ?_,λc h=>⟨Zq (e3 c h).1,λ_=>(e3 c h).1,jeq (e3 c h).2 (λx hx=>by
   simp only [jZ,qK,Jb] at hx;rcases hx with rfl|rfl
   ·exact jaQ (j:=0) (by omega) pq
   ·exact jaQ (j:=1) (by omega) pq')⟩⟩
  ·rw [g29];generalize s.whr.drop 3=D at *;simp only [jd,a1,a2,a3,a4,a5,a6,h1,h2,w0,w1,w2,hsl,qN,k0,k1,jpt,jpu,jpv,jpw,jpx,jpy,jpz,ZN,e1]
  ·rw [g37];generalize s.whr.drop 3=D at *;simp only [jd,a1,a2,a3,a4,a5,a6,h1,h3,w0,w1,w2,hsl,y0,y1,qN,xq,xq',adS,ldC,e2]
 ·rw [show s.whr.drop 3 = [] from joy (by omega)] at hsl;have e1:=jkH q.cls q'.cls (hz _ mq) (hz _ mq') s.whr[0] s.whr[1] s.whr[2];have hsl:yq 1 (.sl 1 (s.whr.map ci)) (some (vi 3)) none=some (.sl 1 []):=hsl;have e1:G 55 [cm q.cls,vi s.whr[0],vi s.whr[1],cm q'.cls,vi s.whr[2],.sl 1 []]=some (.tup [cz,vb false],[]):=e1;refine z8 ?_ ?_
  ·rw [g29];simp only [jd,a1,a2,a3,a4,a5,a6,h1,h2,w0,w1,w2,hsl,qN,k0,k1,jpt,jpu,jpv,jpw,jpx,jpy,jpz,ZN,e1]
  ·rw [g37];simp only [jd,a1,a2,a3,a4,a5,a6,h1,h3]
theorem jI0 (p:Prf) (s:Stp) (h1:¬s.rule=1) (h2:¬s.rule=2) (h3:¬s.rule=3) (h4:¬s.rule=4) (h5:¬s.rule=5) (h6:¬s.rule=6):jep p s:=by
 refine z8 ?_ ?_
 ·rw [g29];simp only [jd,h1,h2,h3,h4,h5,h6]
 ·rw [g37];simp only [jd,h1,h2,h3,h4,h5,h6]
theorem jI6 (p:Prf) (s:Stp) (hs:s.rule=6) (hr:Pok p s) (hz:∀q∈p.st,Cz q.cls) (hl:s.par.length<=1048576):jep p s:=by
 have a1:(s.rule=1)=False:=ke (by omega);have a2:(s.rule=2)=False:=ke (by omega);have a3:(s.rule=3)=False:=ke (by omega);have a4:(s.rule=4)=False:=ke (by omega);have a5:(s.rule=5)=False:=ke (by omega);have a6:(s.rule=6)=True:=yC hs;have wi:=qh ((s.par.length:Nat):Int) 2 11;by_cases h1:((s.par.length:Nat):Int) > 1;rotate_left
 ·rw [show qx 2 11 ((s.par.length:Nat):Int)=false by unfold qx;rw [kA (by omega),jK]] at wi
  exact z8 (by rw [g29];simp only [jd,a1,a2,a3,a4,a5,a6,wi]) (by rw [g37];simp only [jd,a1,a2,a3,a4,a5,a6,h1])
 by_cases h2:((s.whr.length:Nat):Int)=0;rotate_left
 ·refine z8 ?_ (by rw [g37];simp only [jd,a1,a2,a3,a4,a5,a6,h1,h2])
  rw [g29];cases hb:qx 2 11 ((s.par.length:Nat):Int)<;>rw [hb] at wi<;>simp only [jd,a1,a2,a3,a4,a5,a6,wi,h2]
 have y0:=ixN (l:=s.par) (j:=0) (by omega) (k:=0) rfl;obtain ⟨q,mq,pq,xq⟩:=Jg hr 0 (by omega);have k0:=jdA (s:=s) 0 (by omega) (k:=0) rfl xq;have e1:=jn7 p (s.par.drop 1) (by rw [qu];omega) (λx hx=>hr x (jd4 hx));have e2:=jjM p s.par hl hr (by omega);have hsl:yq 1 (ints s.par) (some (vi 1)) none=some (ints (s.par.drop 1)):=by
  have:=qd (k:=1) (xs:=s.par.map ci) (i:=1) (by rw [kj];omega)
  rw [<-jcA] at this;exact this
 have nlt:¬((s.par.length:Nat):Int) < ((s.par.length:Nat):Int):=by omega
 have eS:∀o,ja5 (ints s.par) (vi 1) (cls p.ax) (JE p.st) [] [] []=some (.tup [cm o,vb false],[])->G 37 [prm p,stm s]=some (.tup [cm o,vb false],[]):=λo h=>by
  have h':G 73 [prm p,ints s.par]=some (.tup [cm o,vb false],[]):=by
   rw [g73];simp only [jd,h]
  rw [g37];simp only [jd,a1,a2,a3,a4,a5,a6,h1,h2,h']
 have eT:∀o,ja5 (ints s.par) (vi 1) (cls p.ax) (JE p.st) [] [] []=some (.tup [cm o,vb true],[])->G 37 [prm p,stm s]=some (.tup [cm o,vb true],[]):=λo h=>by
  have h':G 73 [prm p,ints s.par]=some (.tup [cm o,vb true],[]):=by
   rw [g73];simp only [jd,h]
  rw [g37];simp only [jd,a1,a2,a3,a4,a5,a6,h1,h2,h']
 have eR:G 57 [prm p,ints (s.par.drop 1)]=jkO (ints (s.par.drop 1)) (vi ((s.par.drop 1).length:Nat)) (vi 0) (cls p.ax) (JE p.st) []:=by
  rw [g57];generalize s.par.drop 1=D;simp only [jd]
 rw [e1] at eR;cases hrs:Jj p (s.par.drop 1) with
 | none=>
  rw [hrs] at eR e2;refine z8 ?_ (eS [] e2);rw [g29];generalize s.par.drop 1=D at *;cases hb:qx 2 11 ((s.par.length:Nat):Int)<;>rw [hb] at wi
  ·simp only [jd,a1,a2,a3,a4,a5,a6,wi]
  ·have eR:G 57 [prm p,ints D]=some (.tup [.sl 2 [],vb false],[]):=eR;simp only [jd,a1,a2,a3,a4,a5,a6,wi,h2,hsl,eR]
 | some rs=>
  rw [hrs] at eR e2;have eR:G 57 [prm p,ints (s.par.drop 1)]=some (.tup [jH rs,vb true],[]):=eR;have e2:ja5 (ints s.par) (vi 1) (cls p.ax) (JE p.st) [] [] []=ja5 (ints s.par) (vi (s.par.length:Nat)) (cls p.ax) (JE p.st) (rs.map jo) [] []:=e2;obtain ⟨f1,f2⟩:=jfa hz hrs;rw [qu] at f1;have hne:¬((rs.length:Nat):Int)=0:=by omega
  by_cases hm:10 < rs.length
  ·have er:=jn5 q.cls (hz _ mq) rs (by omega) f2 hm;rw [show qx 2 11 ((s.par.length:Nat):Int)=false by unfold qx;rw [kA (p:=((s.par.length:Nat):Int)<=11) (by omega),zr]] at wi;refine z8 (by rw [g29];simp only [jd,a1,a2,a3,a4,a5,a6,wi]) (eS [] ?_);rw [e2,jp8];simp only [jd,nlt,y0,qN,xq,adS,ldC,hne,er];rfl
  ·rw [show qx 2 11 ((s.par.length:Nat):Int)=true by unfold qx;rw [jQ (by omega),jQ (by omega)];rfl] at wi
   obtain ⟨r,b1,b2,b3⟩:=jcc q.cls (hz _ mq).1 (hz _ mq).2 rs (by omega) f2;have mo:∀x∈q.cls::rs.map (λt=>[(true,t)]),x∈pcl p s:=λx hx=>by
    rcases jZ.1 hx with rfl|hx
    ·exact jaQ (j:=0) (by omega) pq
    ·obtain ⟨t,ht,rfl⟩:=zN.1 hx;obtain ⟨y,hy,e⟩:=jjO hrs t ht;exact Kg _ (zN.2 ⟨y,jd4 hy,e⟩)
   generalize s.par.drop 1=D at *;cases r with
   | none=>
    have b1:G 58 [cm q.cls,jH rs]=some (.tup [cz,vb false],[]):=b1;have b2:G 105 [cm q.cls,jH rs]=some (.tup [cz,vb false],[]):=b2;refine z8 ?_ (eS [] ?_)
    ·rw [g29];simp only [jd,a1,a2,a3,a4,a5,a6,wi,h2,hsl,eR,k0,jpt,jpu,jpv,jpw,jpx,jpy,jpz,ZN,b1]
    ·rw [e2,jp8];simp only [jd,nlt,y0,qN,xq,adS,ldC,hne,b2];rfl
   | some c=>
    have b1:G 58 [cm q.cls,jH rs]=some (.tup [cm c,vb true],[]):=b1;have b2:G 105 [cm q.cls,jH rs]=some (.tup [cm c,vb true],[]):=b2;have zc:=Zq (b3 c rfl).1;have s1:=jdq c q.cls zc.1 zc.2 (hz _ mq).2;have s2:=jfW c q.cls zc.1 zc.2 (hz _ mq).2;have k0':=k0;cases hsame:dq c q.cls<;>rw [hsame] at s1 s2
    ·refine ⟨some c,Res.of (c:=c) (b:=true) rfl ?_,Res.of (c:=c) (b:=true) rfl (eT c ?_),λx h=>by cases h;exact ⟨zc,λ_=>(b3 c rfl).1,jeq (b3 c rfl).2 mo⟩⟩
     ·rw [g29];simp only [jd,a1,a2,a3,a4,a5,a6,wi,h2,hsl,eR,k0,jpt,jpu,jpv,jpw,jpx,jpy,jpz,ZN,b1,s1]
     ·rw [e2,jp8];simp only [jd,nlt,y0,qN,xq,adS,ldC,hne,b2,s2]
    ·refine ⟨none,⟨c,false,?_,(λh=>by cases h),λ_=>rfl⟩,⟨[],false,eS [] ?_,(λh=>by cases h),λ_=>rfl⟩,λx h=>by cases h⟩
     ·rw [g29];simp only [jd,a1,a2,a3,a4,a5,a6,wi,h2,hsl,eR,k0,jpt,jpu,jpv,jpw,jpx,jpy,jpz,ZN,b1,s1]
     ·rw [e2,jp8];simp only [jd,nlt,y0,qN,xq,adS,ldC,hne,b2,s2];rfl
theorem jA1 {p:Prf} (hp:Pz p) {s:Stp} (hs:s∈p.st) (hr:Pok p s):jep p s:=by
 by_cases h1:s.rule=1
 ·exact jI1 p s h1 hp.axs hp.ax
 by_cases h2:s.rule=2
 ·exact jI2 p s h2 hr hp.cls
 by_cases h3:s.rule=3
 ·exact jI3 p s h3 hr hp.cls (hp.wI s hs)
 by_cases h4:s.rule=4
 ·exact jI4 p s h4 hr hp.cls (hp.whr s hs)
 by_cases h5:s.rule=5
 ·exact jI5 p s h5 hr hp.cls
 by_cases h6:s.rule=6
 ·exact jI6 p s h6 hr hp.cls (hp.par s hs)
 exact jI0 p s h1 h2 h3 h4 h5 h6
theorem jgG {p:Prf} (hp:Pz p) (i:Nat) (hi:i < p.st.length):∃b:Bool,G 16 [prm p,vi (i:Nat)]=some (vb b,[])/\G 50 [prm p,vi (i:Nat)]=some (vb b,[])/\(b=true->(wfP p=true->jN p.st[i].cls=true)/\Sd (pcl p p.st[i]) p.st[i].cls):=by
 have hst:=hp.st;have ms:=jC hi;have x1:jl 4 (JE p.st) (vi (i:Nat))=some (.elt (stc p.st[i]) 0):=ja hi;generalize p.st[i]=s at ms x1 ⊢;have hl:=hp.par s ms;have e1:=jnh i (by omega) s.par hl;have e2:=jdg p s i (by omega) hl;have ok:jI (vi (i:Nat))=true:=rfl;cases hb:s.par.all (qx 0 ((i:Int) - 1))<;>rw [hb] at e1 e2
 ·refine ⟨false,?_,?_,λh=>by cases h⟩
  ·rw [g16];simp only [jd,ok,x1,Zt,e1]
  ·have e2:=e2.trans (jf (by decide));rw [g50];simp only [jd,x1,Zt,e2]
 have e2:=e2.trans (jg rfl);have hr:Pok p s:=λx hx=>by
  have:=qn.1 hb x hx;unfold qx at this;rw [jy,kM,kM] at this;omega
 have nlt:¬((s.par.length:Nat):Int) < ((s.par.length:Nat):Int):=by omega
 obtain ⟨r,⟨c1,b1,i1,t1,f1⟩,⟨c2,b2,i2,t2,f2⟩,hz⟩:=jA1 hp ms hr;cases b1
 ·have hr0:=f1 rfl;cases b2
  ·have e3:jen (vi (i:Nat)) (vi (s.par.length:Nat)) (cls p.ax) (JE p.st) (vi s.rule) (ints s.par) (ints s.whr) (.sl 3 (s.cls.map jG))=some (vb false,[]):=by
    rw [jAc];simp only [jd,nlt,i2]
   rw [e3] at e2;refine ⟨false,?_,?_,λh=>by cases h⟩
   ·rw [g16];simp only [jd,ok,x1,Zt,e1,i1]
   ·rw [g50];simp only [jd,x1,Zt,e2]
  ·rw [hr0] at t2;exact absurd (t2 rfl) (by intro h;cases h)
 ·have hr1:=t1 rfl;cases b2
  ·rw [hr1] at f2;exact absurd (f2 rfl) (by intro h;cases h)
  ·have hr2:=t2 rfl;rw [hr1] at hr2;cases hr2;have zc:=(hz _ hr1).1;have s1:=jdq c1 s.cls zc.1 zc.2 (hp.cls s ms).2;have s2:=jfW c1 s.cls zc.1 zc.2 (hp.cls s ms).2;have e3:jen (vi (i:Nat)) (vi (s.par.length:Nat)) (cls p.ax) (JE p.st) (vi s.rule) (ints s.par) (ints s.whr) (.sl 3 (s.cls.map jG))=some (vb (dq c1 s.cls),[]):=by
    rw [jAc];simp only [jd,nlt,i2,s2]
   rw [e3] at e2;refine ⟨dq c1 s.cls,?_,?_,λh=>by
    have h7:=(hz _ hr1).2;rw [qz.1 h] at h7;exact h7⟩
   ·rw [g16];simp only [jd,ok,x1,Zt,e1,i1,s1]
   ·rw [g50];simp only [jd,x1,Zt,e2]
noncomputable def jhe (p:Prf) (i:Nat):Bool:=@decide (G 50 [prm p,vi (i:Nat)]=some (vb true,[])) (Classical.propDecidable _)
theorem YJ {p:Prf} (hp:Pz p) (i:Nat) (hi:i < p.st.length):G 16 [prm p,vi (i:Nat)]=some (vb (jhe p i),[])/\G 50 [prm p,vi (i:Nat)]=some (vb (jhe p i),[])/\(jhe p i=true->wfP p=true->jN p.st[i].cls=true):=by
 obtain ⟨b,h1,h2,h3⟩:=jgG hp i hi;have:jhe p i=b:=by
  unfold jhe;rw [h2];cases b with
  | true=>exact @jQ _ (Classical.propDecidable _) rfl
  | false=>exact @kA _ (Classical.propDecidable _) (by intro h;cases h)
 rw [this];exact ⟨h1,h2,λhb=>(h3 hb).1⟩
noncomputable def yJ (p:Prf):Nat->Nat->Int
 | 0,_=> -1
 | n+1,i=>if jhe p i then yJ p n (i+1) else i
theorem jeH (p:Prf):∀(n i:Nat),n+i<=1048576-> -1<=yJ p n i/\yJ p n i<=1048576
 | 0,i,_=>by unfold yJ;omega
 | n+1,i,h=>by
  unfold yJ;split
  ·exact jeH p n (i+1) (by omega)
  ·omega
theorem jk6 {p:Prf} (hp:Pz p):G 13 [prm p]=some (vi (yJ p p.st.length 0),[]):=by
 have hst:=hp.st;have key:=upto (P:=λi=>jt6 (vi (p.st.length:Nat)) (vi (i:Nat)) (cls p.ax) (JE p.st)=some (vi (yJ p (p.st.length - i) i),[])) (n:=p.st.length) ?_ ?_ 0 (ko _)
 ·simp only [kU,jak] at key;rw [g13];simp only [jd,key]
 ·rw [jEJ,jgk];simp only [jd,yJ]
 ·intro i hi ih;have hlt:(i:Int) < ((p.st.length:Nat):Int):=by omega
  have h5:=js hi (by show p.st.length<=9223372036854775807;omega)
  have e:=(YJ hp i hi).1;rw [jEJ,show p.st.length - i=(p.st.length - (i+1))+1 by omega,yJ];cases hc:jhe p i<;>rw [hc] at e
  ·simp only [jd,hlt,e]
  ·simp only [jd,hlt,e,h5,ih]
theorem jwb {p:Prf} (hp:Pz p):G 26 [prm p]=some (vi (yJ p p.st.length 0),[]):=by
 have hst:=hp.st;have key:=upto (P:=λi=>juc (vi (i:Nat)) (cls p.ax) (JE p.st)=some (vi (yJ p (p.st.length - i) i),[])) (n:=p.st.length) ?_ ?_ 0 (ko _)
 ·simp only [kU,jak] at key;rw [g26];simp only [jd,key]
 ·rw [jEP,jgk];simp only [jd,yJ]
 ·intro i hi ih;have hlt:(i:Int) < ((p.st.length:Nat):Int):=by omega
  have h5:=js hi (by show p.st.length<=9223372036854775807;omega)
  have e:=(YJ hp i hi).2.1;rw [jEP,show p.st.length - i=(p.st.length - (i+1))+1 by omega,yJ];cases hc:jhe p i<;>rw [hc] at e
  ·simp only [jd,hlt,e]
  ·simp only [jd,hlt,e,h5,ih]
noncomputable def Ke (p:Prf):Bool:=wfP p && decide (yJ p p.st.length 0 < 0)
theorem jl8 {p:Prf} (hp:Pz p):G 6 [prm p]=some (vb (Ke p),[])/\G 14 [prm p]=some (vb (Ke p),[]):=by
 have e1:=QL p hp.ax hp.axs;have e2:=jpT p hp.ax hp.axs;have f1:=jk6 hp;have f2:=jwb hp;unfold Ke;cases hw:wfP p<;>rw [hw] at e1 e2
 ·refine ⟨?_,?_⟩
  ·rw [g6];simp only [jd,e1,jK]
  ·rw [g14];simp only [jd,e2,jK]
 ·refine ⟨?_,?_⟩
  ·rw [g6];simp only [jd,e1,f1,jR]
  ·rw [g14];simp only [jd,e2,f2,jR]
theorem jtQ {p:Prf} (hp:Pz p):G 8 [prm p]=some (vb (Ke p),[]):=by
 have e:=(jl8 hp).2;rw [g8];simp only [jd,e]
theorem jyl {p:Prf} (hp:Pz p) (i:Nat) (hi:i < p.st.length) (h:jhe p i=true):p.st[i].par.all (qx 0 ((i:Int) - 1))=true:=by
 have hst:=hp.st;have ms:=jC hi;have x1:jl 4 (JE p.st) (vi (i:Nat))=some (.elt (stc p.st[i]) 0):=ja hi;have e:=(YJ hp i hi).2.1;rw [h] at e;generalize p.st[i]=s at ms x1;have hl:=hp.par s ms;have e2:=jdg p s i (by omega) hl;cases hb:s.par.all (qx 0 ((i:Int) - 1))
 ·rw [hb] at e2;have e2:=e2.trans (jf (by decide));have e3:G 50 [prm p,vi (i:Nat)]=some (vb false,[]):=by
   rw [g50];simp only [jd,x1,Zt,e2]
  rw [e3] at e;exact absurd (congrArg (λo:Option Out=>o.bind λx=>JB x.1) e) (by intro h;cases h)
 ·rfl
theorem Yg (p:Prf):∀(n i:Nat),yJ p n i < 0-> ∀j,i<=j->j < i+n->jhe p j=true
 | 0,i,_,j,h1,h2=>by omega
 | n+1,i,h,j,h1,h2=>by
  unfold yJ at h;by_cases hc:jhe p i=true
  ·rw [jg hc] at h;by_cases e:j=i
   ·rw [e];exact hc
   ·exact Yg p n (i+1) h j (by omega) (by omega)
  ·rw [jf hc] at h;omega
theorem jxt {p:Prf} (hp:Pz p) (h:Ke p=true):p.st.length<=60/\ ∀(i:Nat) (hi:i < p.st.length),∀x∈p.st[i].par,0<=x/\x < (i:Int):=by
 unfold Ke wfP at h;simp only [jy,kM] at h;refine ⟨h.1.2,λi hi x hx=> ?_⟩;have:=jyl hp i hi (Yg p _ 0 h.2 i (ko _) (by omega));have:=qn.1 this x hx;unfold qx at this;rw [jy,kM,kM] at this;omega
abbrev cn (n:Nat):List A:=[vi (n:Nat)]
def jEA (acc:List Nat):Nat->List Int->Nat
 | d,[]=>d
 | d,x::r=>jEA acc (max d (acc.getD x.toNat 0+1)) r
def dpt (p:Prf):Nat->List Nat
 | 0=>[]
 | i+1=>dpt p i++[jEA (dpt p i) 0 (((p.st[i]?).map Stp.par).getD [])]
theorem jgX {p:Prf} (hp:Pz p) (hv:Ke p=true):∀(k i:Nat) (hi:i < p.st.length),i < k->Sd p.ax p.st[i].cls
 | 0,i,hi,h=>by omega
 | k+1,i,hi,h=>by
  have hc:jhe p i=true:=by
   have h2:=hv;unfold Ke at h2;rw [jy,kM] at h2;exact Yg p _ 0 h2.2 i (ko _) (by omega)
  obtain ⟨b,_,e2,hs⟩:=jgG hp i hi;have e:=(YJ hp i hi).2.1;rw [hc,e2] at e;have hb:b=true:=by
   have:=congrArg (λo:Option Out=>o.bind λx=>JB x.1) e;cases b with
   | true=>rfl
   | false=>exact absurd this (by intro h;cases h)
  have hs:=(hs hb).2;obtain ⟨_,hpar⟩:=jxt hp hv;intro m hm;refine hs m λc hc=> ?_;rcases kZ.1 hc with hc|hc
  ·exact hm c hc
  ·obtain ⟨x,hx,rfl⟩:=zN.1 hc;obtain ⟨h0,h1⟩:=hpar i hi x hx;have hlt:x.toNat < p.st.length:=by omega
   rw [kO hlt];exact jgX hp hv k x.toNat hlt (by omega) m hm
theorem jFP (code:List Int):G 4 [zq code]=some (vb (decide (65536 < ((code.length:Nat):Int))),[]):=by
 rw [g4];simp only [jd]
section
variable {code:List Int} (hb:By code)
include hb
theorem jBo (ps:List kh) (hp:ps.length<=100) (hps:∀c∈ps,CN c) (x:kh) (hx:CN x) (h:Sd ps x):G 10 [zq code,cls ps,cm x]=some (vb true,[]):=jrA hb ps (by omega) hps x hx h
end
theorem jnp {p:Prf} (hp:Pz p):∃(k:Int) (b:Bool),G 7 [prm p]=some (.tup [vi k,vb b],[])/\(b=true->Ke p=decide (k = -1))/\(b=false->Ke p=false):=by
 have e1:=QL p hp.ax hp.axs;have f1:=jk6 hp;cases hw:wfP p<;>rw [hw] at e1
 ·refine ⟨0,false,?_,(λh=>by cases h),λ_=>by unfold Ke;rw [hw,jK]⟩
  rw [g7];simp only [jd,e1]
 ·refine ⟨yJ p p.st.length 0,true,?_,λ_=> ?_,λh=>by cases h⟩
  ·rw [g7];simp only [jd,e1,f1]
  ·have:=hp.st;have h1:=(jeH p p.st.length 0 (by omega)).1;unfold Ke;rw [hw,jR];exact jgo.2 (by omega)
theorem jrF {p:Prf} (hp:Pz p) (hv:Ke p=true):(p.ax.length<=30/\ ∀c∈p.ax,jN c=true)/\ ∀i (hi:i < p.st.length),jN p.st[i].cls=true/\G 9 [prm p,vi (i:Nat)]=some (.tup [vb true,vb true],[]):=by
 have h2:=hv;unfold Ke at h2;rw [jy,kM] at h2;obtain ⟨hw,hn⟩:=h2;have hw':=hw;unfold wfP at hw';simp only [jy,kM] at hw';refine ⟨⟨hw'.1.1,λc hc=>qn.1 hw'.1.2 c hc⟩,λi hi=> ?_⟩;have hst:=hp.st;have e1:=QL p hp.ax hp.axs;rw [hw] at e1;have c1:ck (((p.st.length:Nat):Int) - 1)=some (vi (((p.st.length:Nat):Int) - 1)):=jE (by omega) (by omega);have p1:=qh (i:Nat) 0 (((p.st.length:Nat):Int) - 1);have hb:qx 0 (((p.st.length:Nat):Int) - 1) (i:Nat)=true:=by
  unfold qx;rw [jy,kM,kM];omega
 rw [hb] at p1;obtain ⟨h1,_,h3⟩:=YJ hp i hi;have hc:=Yg p _ 0 hn i (ko _) (by omega);rw [hc] at h1;refine ⟨h3 hc hw,?_⟩;rw [g9];simp only [jd,e1,c1,p1,h1]
theorem jws (code:List Int) (hp:(∀n∈code,0<=n/\n<=255)/\code.length<=9223372036854775807):G 3 [zq code]=some (vb true,[]):=by
 have e0:=jFP code;rw [g3];by_cases hbig:65536 < ((code.length:Nat):Int)
 ·rw [jQ hbig] at e0;simp only [jd,e0]
 rw [kA hbig] at e0;have hb:By code:=⟨hp.1,by omega⟩;obtain ⟨p,hp,e1⟩:=jnk hb;have hz:=hp.pz;have e2:=(jl8 hz).1;have e3:=jtQ hz;obtain ⟨k,b,e4,hk,hk'⟩:=jnp hz;have okb:jI (zq code)=true:=rfl;have hll:decide (((p.st.length:Nat):Int)=((p.st.length:Nat):Int))=true:=jQ rfl;have hst:=hz.st;have loop:jxR (zq code) (vb (Ke p)) (vi 0) (cls p.ax) (JE p.st)=some (vb true,[]):=by
  cases hv:Ke p
  ·rw [jGE];by_cases h0:(0:Int) < ((p.st.length:Nat):Int)
   ·simp only [jd,h0]
   ·simp only [jd,h0]
  obtain ⟨⟨f1,f2⟩,f3⟩:=jrF hz hv;have key:=upto (n:=p.st.length) (P:=λi=>jxR (zq code) (vb true) (vi (i:Nat)) (cls p.ax) (JE p.st)=some (vb true,[])) ?_ ?_ 0 (ko _)
  ·simpa only [kU] using key
  ·have nlt:¬((p.st.length:Nat):Int) < ((p.st.length:Nat):Int):=by omega
   rw [jGE];simp only [jd,nlt]
  ·intro i hi ih;have hlt:(i:Int) < ((p.st.length:Nat):Int):=by omega
   have h5:=js hi (by show p.st.length<=9223372036854775807;omega)
   have x1:jl 4 (JE p.st) (vi (i:Nat))=some (.elt (stc p.st[i]) 0):=ja hi;obtain ⟨n1,n2⟩:=f3 i hi;have s1:=jBo hb p.ax (by omega) (λc hc=>(km (f2 c hc)).1) p.st[i].cls (km n1).1 (jgX hz hv (i+1) i hi (Nat.lt_succ_self i));have n2:G 9 [.agg [cls p.ax,JE p.st],vi (i:Nat)]=some (.tup [vb true,vb true],[]):=n2;generalize p.st[i]=q at x1 s1;rw [jGE];simp only [jd,hlt,x1,n2,adS,ldC,s1,h5,ih]
 have cg:∀a b:A,jb [a,b] 0=a/\jb [a,b] 1=b:=λ_ _=>⟨rfl,rfl⟩;have pc:jaO 2 (prm p)=some [cls p.ax,JE p.st]:=rfl;cases b with
 | false=>
  have hv:=hk' rfl;rw [hv] at e2 e3 loop;simp only [jd,e0,e1,pc,cg,e2,e3,e4,loop]
 | true=>
  have hv:=hk rfl;by_cases h1:k = -1
  ·rw [jQ h1] at hv;rw [hv] at e2 e3 loop;simp only [jd,e0,e1,pc,cg,e2,e3,e4,h1,loop]
  ·rw [kA h1] at hv;rw [hv] at e2 e3 loop;simp only [jd,e0,e1,pc,cg,e2,e3,e4,h1,loop]
end Go.Proofs.YtbgikpffkgjecaaGreatDoor
