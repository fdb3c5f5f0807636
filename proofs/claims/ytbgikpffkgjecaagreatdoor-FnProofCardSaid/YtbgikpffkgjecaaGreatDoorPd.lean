/- Pd -/
import Derived.Test.YtbgikpffkgjecaaGreatDoorPb
namespace Go.Proofs.YtbgikpffkgjecaaGreatDoor
open Go Go.RowKit Go.Proofs.YtbgikpffkgjecaaGreatDoor.Abs
set_option linter.unusedSimpArgs false
set_option linter.unusedVariables false
set_option maxHeartbeats 1000000
theorem jwm (x y:List UInt8):G 186 [sv x,sv y]=some (vi (zQ x y),[]):=by
 rw [jK6,jaz];cases h1:yX x y<;>cases h2:yX y x<;>simp only [jd,jf4,h1,h2]
theorem jiT (n m:List UInt8) (ts us:List T) (hl:ts.length<=1048576) (hlen:ts.length=us.length) (ih:∀t∈ts,∀u∈us,G 137 [tm t,tm u]=some (vi (qy t u),[])) :
  ∀i,i<=ts.length->jhX (vi (i:Nat)) (sv n) (jH ts) (sv m) (jH us)=some (vi (yI (ts.drop i) (us.drop i)),[]):=by
 refine upto ?_ ?_
 ·rw [jzl,kg,yI];simp only [jd]
 ·intro i hi ih';have hlt:(i:Int) < ((ts.length:Nat):Int):=by omega
  have hi2:i < us.length:=by omega
  have h5:=js hi (by show ts.length<=9223372036854775807;omega)
  have e1:=ih ts[i] (jC _) us[i] (jC _);rw [jzl,ji hi,ji hi2,yI];by_cases hc:qy ts[i] us[i]=0
  ·rw [jf (λh=>h hc)];rw [hc] at e1;simp only [jd,hlt,ja hi,ja hi2,je,e1,h5,ih']
  ·rw [jg hc];generalize qy ts[i] us[i]=c at *;simp only [jd,hlt,ja hi,ja hi2,je,e1,hc]
theorem jsB (a b:T):qy a b=if jp a.name=true/\jp b.name=false then -1 else if jp a.name=false/\jp b.name=true then 1 else if ¬a.name=b.name then zQ a.name b.name else if a.args.length < b.args.length then -1 else if b.args.length < a.args.length then 1 else yI a.args b.args:=by
 rw [Qk];unfold cK qM vF;have hn:=ZM.zero a.name b.name;have hzr:zR 1 1=0/\zR 0 0=0/\zR 0 1 = -1/\zR 1 0=1:=by decide
 obtain ⟨z1,z2,z3,z4⟩:=hzr;have hz:zR a.args.length b.args.length=if a.args.length < b.args.length then -1 else if b.args.length < a.args.length then 1 else 0:=rfl;cases h1:jp a.name<;>cases h2:jp b.name<;>simp only [Zi,Jw,K6,z1,z2,z3,z4,hz]
 all_goals have hs:=(ZM.zero b.name b.name).2 rfl
 all_goals by_cases e:a.name=b.name
 all_goals by_cases l1:a.args.length < b.args.length
 all_goals by_cases l2:b.args.length < a.args.length
 all_goals first
  | (simp [e,hs,l1,l2];done)
  | (have ne:¬zQ a.name b.name=0:=λh=>e (hn.1 h);simp only [ne_eq,e,ne,not_false_eq_true,not_true_eq_false,Jw,K6,and_true,true_and,and_false,false_and,reduceCtorEq];done)
  | simp [l1,l2]
theorem jnC:∀a:T,Tz a-> ∀b:T,Tz b->G 137 [tm a,tm b]=some (vi (qy a b),[]):=by
 refine T.ind λa ih za b zb=> ?_;have va:=zK a.name (((kR a).1 za.wf).1);have vb':=zK b.name (((kR b).1 zb.wf).1);have hz:=za;unfold Tz at hz;rw [kH] at hz;have e1:=jwm a.name b.name;have e4:a.args.length=b.args.length->jhX (vi 0) (sv a.name) (jH a.args) (sv b.name) (jH b.args)=some (vi (yI a.args b.args),[]):=λhlen=>by
  have key:=jiT a.name b.name a.args b.args (by omega) hlen (λt ht u hu=>ih t ht (za.args t ht) u (zb.args u hu)) 0 (ko _);simp only [kU,kD] at key;exact key
 rw [jKz,jsB];have main:∀p:Bool,G 140 [sv a.name]=some (vb p,[])->G 140 [sv b.name]=some (vb p,[])->_:=λp _ _=>trivial;clear main;cases h1:jp a.name<;>cases h2:jp b.name<;>rw [h1] at va<;>rw [h2] at vb'
 all_goals by_cases en:a.name=b.name
 all_goals try (exfalso;rw [en,h2] at h1;cases h1;done)
 all_goals by_cases l1:a.args.length < b.args.length
 all_goals by_cases l2:b.args.length < a.args.length
 all_goals have l1':(((a.args.length:Nat):Int) < ((b.args.length:Nat):Int))=(a.args.length < b.args.length):=propext (by omega)
 all_goals have l2':(((b.args.length:Nat):Int) < ((a.args.length:Nat):Int))=(b.args.length < a.args.length):=propext (by omega)
 all_goals first
  | (have e4:=e4 (by omega);rw [en] at e4;simp only [jd,va,vb',e1,en,l1,l2,l1',l2',e4,and_true,true_and,and_false,false_and];done)
  | (simp only [jd,va,vb',e1,en,l1,l2,l1',l2',and_true,true_and,and_false,false_and];done)
  | (simp only [jd,va,vb',e1,en,l1,l2,l1',l2',and_true,true_and,and_false,false_and])
abbrev jG (l:Lt):List A:=[vb l.1,sv l.2.name,.sl 2 (l.2.args.map jo)]
abbrev ltm (l:Lt):A:= .agg [vb l.1,sv l.2.name,.sl 2 (l.2.args.map jo)]
theorem juQ (b:Bool):G 157 [vb b]=some (vi (fl b:Nat),[]):=by
 rw [jKO];cases b<;>simp only [jd]<;>rfl
theorem YI (a b:Lt) (ha:Rx' a.2) (za:Tz a.2) (hb:Rx' b.2) (zb:Tz b.2):G 110 [ltm a,ltm b]=some (vi (cmpL a b),[]):=by
 have e1:=jhd a.2 ha za b.2 hb zb;have e2:=juQ a.1;have e3:=juQ b.1;have e4:=jgF (fl a.1) (fl b.1);have e5:=jAx (qy a.2 b.2) (zR (fl a.1) (fl b.1));have e6:cmpL a b=if qy a.2 b.2≠0 then qy a.2 b.2 else zR (fl a.1) (fl b.1):=rfl;rw [jKf,e6];generalize (if qy a.2 b.2≠0 then qy a.2 b.2 else zR (fl a.1) (fl b.1))=c at *;generalize zR (fl a.1) (fl b.1)=d at *;generalize qy a.2 b.2=f at *;simp only [jd,e1,e2,e3,e4,e5]
theorem QG (a b:Lt) (za:Tz a.2) (zb:Tz b.2):G 96 [ltm a,ltm b]=some (vi (cmpL a b),[]):=by
 have e1:=jnC a.2 za b.2 zb;have e6:cmpL a b=if qy a.2 b.2≠0 then qy a.2 b.2 else zR (fl a.1) (fl b.1):=rfl;rw [g96,e6];by_cases h:qy a.2 b.2=0
 ·rw [jf (λh'=>h' h)];rw [h] at e1;obtain ⟨p,t⟩:=a;obtain ⟨q,u⟩:=b;have d1:zR (fl false) (fl true) = -1:=by decide
  have d2:zR (fl true) (fl false)=1:=by decide
  have d3:zR (fl true) (fl true)=0:=by decide
  have d4:zR (fl false) (fl false)=0:=by decide
  cases p<;>cases q<;>simp only [jd,e1,d1,d2,d3,d4]
 ·rw [jg h];generalize qy a.2 b.2=c at *;simp only [jd,e1,h]
def J3 (t:T):Bool:=if t.name = [61] then jbK t else y5 t.name && zl t
theorem jlf (t:T) (hw:Zc t) (hs:tsz t<=1048576):G 113 [tm t]=some (vb (J3 t),[]):=by
 unfold J3;by_cases he:t.name = [61]
 ·rw [jg he];exact jdH t hw hs he
 ·have e1:=Qq t.name ((kR t).1 hw).1;have e2:=Zp t hw hs;rw [jf he,jGr];cases h:y5 t.name<;>rw [h] at e1
  ·simp only [jd,he,e1,jK]
  ·simp only [jd,he,e1,e2,jR]
theorem jiI (t:T) (hw:Zc t) (hs:tsz t<=1048576):G 153 [tm t]=some (vb (J3 t),[]):=by
 unfold J3;by_cases he:t.name = [61]
 ·rw [jg he];exact ja9 t hw hs he
 ·have e0:=qG t;rw [kA he] at e0;have e1:=jbR t.name ((kR t).1 hw).1;have e2:=jbS t hw hs;rw [jf he,jIo];cases h:y5 t.name<;>rw [h] at e1
  ·simp only [jd,e0,e1,jK]
  ·simp only [jd,e0,e1,e2,jR]
abbrev cm (c:kh):A:= .agg [.sl 3 (c.map jG)]
def y8 (c:kh):Bool:=c.all (λl=>J3 l.2) && (jo2 c && decide (c.length<=8))
theorem juA {t:T} (h:J3 t=true):Rx' t:=by
 unfold J3 at h;by_cases he:t.name = [61]
 ·rw [jg he] at h;unfold jbK at h;rw [jy,kM,jy,jy] at h;refine Or.inr ⟨he,λu hu=> ?_⟩;obtain ⟨n,us⟩:=t
  match us,h.1 with
  | [a,b],_=>
   have hu:u ∈ [a,b]:=hu;simp only [jZ,qK,Jb] at hu;rcases hu with rfl|rfl
   ·exact h.2.2.1
   ·exact h.2.2.2
 ·rw [jf he,jy] at h;have h2:=h.2;unfold zl at h2;rw [jy] at h2;exact Or.inl h2.2
theorem jeS (l:Lt) (hz:Tz l.2):G 109 [ltm l]=some (vb (J3 l.2),[]):=by
 have e:=jiI l.2 hz.wf hz;rw [jKe];simp only [jd,e]
def jbj:Option Lt->kh->Bool
 | _,[]=>true
 | none,l::r=>J3 l.2 && jbj (some l) r
 | some p,l::r=>J3 l.2 && (decide (cmpL p l < 0) && jbj (some l) r)
theorem jl5:∀(p:Lt) (c:kh),jbj (some p) c=(c.all (λl=>J3 l.2) && jo2 (p::c))
 | p,[]=>rfl
 | p,l::r=>by
  rw [jbj,jl5 l r,yU,jo2];cases J3 l.2<;>cases decide (cmpL p l < 0)<;>simp
theorem jl4 (c:kh):(jbj none c && decide (c.length<=8))=y8 c:=by
 unfold y8;cases c with
 | nil=>rfl
 | cons l r=>rw [jbj,jl5,yU];cases J3 l.2<;>simp [jmg]
theorem zs (l:Lt):ky 3 (.elt (jG l) 0)=some (ltm l):=rfl
theorem jrD (c:kh) (hl:c.length<=1048576) (hz:∀l∈c,Tz l.2):∀i,i<=c.length-> ∀p:Option Lt,(p=none↔i=0)->(∀q,p=some q->J3 q.2=true/\ ∃h:i - 1 < c.length,c[i - 1]=q)->
  jum (.sl 3 (c.map jG)) (vi (c.length:Nat)) (vi (i:Nat)) (.sl 3 (c.map jG))=some (vb (jbj p (c.drop i) && decide (c.length<=8)),[]):=by
 refine upto ?_ ?_
 ·intro p _ _;have e:decide (((c.length:Nat):Int)<=8)=decide (c.length<=8):=by congr 1;exact propext (by omega)
  rw [jE4,kg,<-e];have:jbj p []=true:=by cases p<;>rfl
  rw [this];simp only [jd,jR]
 ·intro i hi ih p hp hq;have hlt:(i:Int) < ((c.length:Nat):Int):=by omega
  have h5:=js hi (by show c.length<=9223372036854775807;omega)
  have e1:=jeS c[i] (hz _ (jC hi));have ix:=ja (k:=3) (f:=jG) hi;have e1:G 109 [.agg [vb c[i].1,sv c[i].2.name,jH c[i].2.args]]=some (vb (J3 c[i].2),[]):=e1;rw [jE4,ji hi];cases ha:J3 c[i].2 with
  | false=>
   rw [ha] at e1;have:jbj p (c[i]::c.drop (i+1))=false:=by cases p<;>rw [jbj,ha]<;>rfl
   rw [this];simp only [jd,hlt,ix,zs,e1,jK]
  | true=>
   rw [ha] at e1;have ih1:=ih (some c[i]) (by simp) (λq hq=>by cases hq;exact ⟨ha,by simpa using hi,rfl⟩);cases p with
   | none=>
    have h0:i=0:=hp.1 rfl;have hg:¬(0:Int) < (i:Int):=by omega
    rw [jbj,ha,jR,<-ih1];simp only [jd,hlt,ix,zs,e1,hg,h5]
   | some q=>
    obtain ⟨hqa,hq1,hq2⟩:=hq q rfl;have hi0:¬i=0:=λh=>by have:=hp.2 h;cases this
    have hg:(0:Int) < (i:Int):=by omega
    have c1:ck ((i:Int) - 1)=some (vi ((i - 1:Nat):Int)):=by rw [show (i:Int) - 1=((i - 1:Nat):Int) by omega,jE (by omega) (by omega)]
    have ix2:=ja (k:=3) (f:=jG) hq1;rw [hq2] at ix2;have hqz:Tz q.2:=by rw [<-hq2];exact hz _ (jC hq1)
    have e2:=YI q c[i] (juA hqa) hqz (juA ha) (hz _ (jC hi));have e2:G 110 [.agg [vb q.1,sv q.2.name,jH q.2.args],.agg [vb c[i].1,sv c[i].2.name,jH c[i].2.args]]=some (vi (cmpL q c[i]),[]):=e2;rw [jbj,ha,jR];by_cases hc:cmpL q c[i] < 0
    ·have hc':¬(0:Int)<=cmpL q c[i]:=by omega
     rw [jQ hc,jR,<-ih1];generalize cmpL q c[i]=d at *;simp only [jd,hlt,ix,zs,e1,hg,c1,ix2,e2,hc',h5]
    ·have hc':(0:Int)<=cmpL q c[i]:=by omega
     rw [kA hc];generalize cmpL q c[i]=d at *;simp only [jd,hlt,ix,zs,e1,hg,c1,ix2,e2,hc',jK]
theorem Q2 (c:kh) (hl:c.length<=1048576) (hz:∀l∈c,Tz l.2):G 79 [cm c]=some (vb (y8 c),[]):=by
 have key:=jrD c hl hz 0 (ko _) none (by simp) (λq h=>by cases h);rw [kD,jl4] at key;simp only [kU] at key;rw [g79];simp only [jd,key]
theorem jrE (c:kh) (hl:c.length<=1048576) (hz:∀l∈c,Tz l.2):∀i,i<=c.length-> ∀p:Option Lt,(p=none↔i=0)->(∀q,p=some q-> ∃h:i - 1 < c.length,c[i - 1]=q)->
  juo (vi (i:Nat)) (.sl 3 (c.map jG))=some (vb (jbj p (c.drop i)),[]):=by
 refine upto ?_ ?_
 ·intro p _ _;rw [jE6,kg];have:jbj p []=true:=by cases p<;>rfl
  rw [this];simp only [jd]
 ·intro i hi ih p hp hq;have hlt:(i:Int) < ((c.length:Nat):Int):=by omega
  have h5:=js hi (by show c.length<=9223372036854775807;omega)
  have e1:=jlf c[i].2 (hz _ (jC hi)).wf (hz _ (jC hi));have ix:=ja (k:=3) (f:=jG) hi;have ad:qi (.elt (jG c[i]) 0) 1=some (.elt (jG c[i]) 1):=rfl;have ld:ky 2 (.elt (jG c[i]) 1)=some (tm c[i].2):=rfl;rw [jE6,ji hi];cases ha:J3 c[i].2 with
  | false=>
   rw [ha] at e1;have:jbj p (c[i]::c.drop (i+1))=false:=by cases p<;>rw [jbj,ha]<;>rfl
   rw [this];simp only [jd,hlt,ix,ad,ld,e1]
  | true=>
   rw [ha] at e1;have ih1:=ih (some c[i]) (by simp) (λq hq=>by cases hq;exact ⟨by simpa using hi,rfl⟩);cases p with
   | none=>
    have h0:i=0:=hp.1 rfl;have hg:¬(0:Int) < (i:Int):=by omega
    rw [jbj,ha,jR,<-ih1];simp only [jd,hlt,ix,ad,ld,e1,hg,h5]
   | some q=>
    obtain ⟨hq1,hq2⟩:=hq q rfl;have hi0:¬i=0:=λh=>by have:=hp.2 h;cases this
    have hg:(0:Int) < (i:Int):=by omega
    have c1:ck ((i:Int) - 1)=some (vi ((i - 1:Nat):Int)):=by rw [show (i:Int) - 1=((i - 1:Nat):Int) by omega,jE (by omega) (by omega)]
    have ix2:=ja (k:=3) (f:=jG) hq1;rw [hq2] at ix2;have hqz:Tz q.2:=by rw [<-hq2];exact hz _ (jC hq1)
    have e2:=QG q c[i] hqz (hz _ (jC hi));rw [jbj,ha,jR];by_cases hc:cmpL q c[i] < 0
    ·have hc':¬(0:Int)<=cmpL q c[i]:=by omega
     rw [jQ hc,jR,<-ih1];generalize cmpL q c[i]=d at *;simp only [jd,hlt,ix,ad,ld,zs,e1,hg,c1,ix2,e2,hc',h5]
    ·have hc':(0:Int)<=cmpL q c[i]:=by omega
     rw [kA hc];generalize cmpL q c[i]=d at *;simp only [jd,hlt,ix,ad,ld,zs,e1,hg,c1,ix2,e2,hc',jK]
theorem Q3 (c:kh) (hl:c.length<=1048576) (hz:∀l∈c,Tz l.2):G 81 [cm c]=some (vb (y8 c),[]):=by
 have key:=jrE c hl hz 0 (ko _) none (by simp) (λq h=>by cases h);rw [kD] at key;simp only [kU] at key;rw [g81,<-jl4];by_cases h8:c.length<=8
 ·have h8':¬(8:Int) < ((c.length:Nat):Int):=by omega
  rw [jQ h8,ZC];simp only [jd,h8',key]
 ·have h8':(8:Int) < ((c.length:Nat):Int):=by omega
  rw [kA h8,zr];simp only [jd,h8']
theorem jHg (l:List (List UInt8)) (n:List UInt8):(vnA l n).length<=l.length+1:=by
 unfold vnA;split
 ·omega
 ·simp
theorem jFj {n:Nat} (h:n<=4194304):jA n 16=true:=by
 unfold jA;exact jQ ⟨by omega,by omega⟩
theorem jeY:∀(t:T) (l:List (List UInt8)),(Z4 l t).length<=l.length+nodes t:=by
 refine T.ind λt ih l=> ?_;have hn:=jT t;rw [jnV];split
 ·have:=jHg l t.name;omega
 ·have key:∀us:List T,(∀u∈us,u∈t.args)-> ∀l:List (List UInt8),(jb3 l us).length<=l.length+jr us:=by
   intro us;induction us with
   | nil=>intro _ l;simp [jb3,jr]
   | cons u us ih2=>
    intro hu l;have h1:=ih u (hu u (by simp)) l;have h2:=ih2 (λv hv=>hu v (by simp [hv])) (Z4 l u);rw [jb3,jr];omega
  have:=key t.args (λ_ h=>h) l;omega
theorem js5:∀t:T,Tz t-> ∀l:List (List UInt8),l.length+nodes t<=4000000->jmk (tm t) (l.map cs)=some (.top,[.sl 1 ((Z4 l t).map cs)]):=by
 refine T.ind λt ih ht l hl=> ?_;have hz:=ht;unfold Tz at hz;rw [kH] at hz;have hn:=jT t;have e0:=zK t.name (((kR t).1 ht.wf).1);have e1:=jnF l t.name (by show l.length<=9223372036854775807;omega);have key:=upto (P:=λi=>∀l:List (List UInt8),l.length+jr (t.args.drop i)<=4000000->jee (vi (i:Nat)) (sv t.name) (jH t.args) (l.map cs)=some (.top,[.sl 1 ((jb3 l (t.args.drop i)).map cs)])) (n:=t.args.length) ?_ ?_ 0 (ko _);rotate_left
 ·intro l _;rw [jiN,kg];simp only [jd];rfl
 ·intro i hi ihi l hl;have hlt:(i:Int) < ((t.args.length:Nat):Int):=by omega
  have h5:=js hi (by show t.args.length<=9223372036854775807;omega)
  rw [ji hi,jr] at hl;have q:=ih t.args[i] (jC hi) (ht.args _ (jC hi)) l (by omega);have hln:=jeY t.args[i] l;have q2:=ihi (Z4 l t.args[i]) (by omega);rw [jiN,ji hi,jb3];generalize Z4 l t.args[i]=l' at *;have hr:hR 1 (A.top,[.sl 1 (l'.map cs)]) 0=some (l'.map cs):=rfl;simp only [jd,hlt,ja hi,je,q,hr,h5,q2]
 have e2:jed (vi 0) (sv t.name) (jH t.args) (l.map cs)=some (.top,[.sl 1 ((jb3 l t.args).map cs)]):=by
  have key:=key l (by rw [kD];omega)
  rw [kD] at key;have:jed (vi 0) (sv t.name) (jH t.args) (l.map cs)=jee (vi 0) (sv t.name) (jH t.args) (l.map cs):=by rw [jzk,jiN]
  rw [this];exact key
 rw [jFW,jnV];cases hv:jp t.name<;>rw [hv] at e0
 ·rw [jf j7];simp only [jd,e0,e2]
 ·rw [jg rfl];unfold vnA;cases hc:l.contains t.name<;>rw [hc] at e1
  ·have f:jA (l.length+1) 16=true:=jFj (by omega);rw [jf j7,zy];simp only [jd,e0,e1,f];rfl
  ·rw [jg rfl];simp only [jd,e0,e1]
theorem jiX (c:kh) (hl:c.length<=1000) (hz:∀l∈c,Tz l.2) (hs:∀l∈c,nodes l.2<=1000):G 95 [cm c]=some (.sl 1 ((zt c).map cs),[]):=by
 have key:=upto (P:=λi=>∀l:List (List UInt8),l.length<=1000 * i->joS (vi (i:Nat)) (.sl 3 (c.map jG)) (l.map cs)=some (.sl 1 (((c.drop i).foldl (λl x=>Z4 l x.2) l).map cs),[])) (n:=c.length) ?_ ?_ 0 (ko _)
 ·have key:=key [] (by simp);rw [kD] at key;have key:joS (vi 0) (.sl 3 (c.map jG)) []=some (.sl 1 ((zt c).map cs),[]):=key;rw [g95];simp only [jd,key]
 ·intro l _;rw [jFb,kg];simp only [jd];rfl
 ·intro i hi ih l hll;have hlt:(i:Int) < ((c.length:Nat):Int):=by omega
  have h5:=js hi (by show c.length<=9223372036854775807;omega)
  have ix:=ja (k:=3) (f:=jG) hi;have ad:qi (.elt (jG c[i]) 0) 1=some (.elt (jG c[i]) 1):=rfl;have ld:ky 2 (.elt (jG c[i]) 1)=some (tm c[i].2):=rfl;have hn:=hs _ (jC hi);have q:=js5 c[i].2 (hz _ (jC hi)) l (by omega);have hol:=jeY c[i].2 l;have q2:=ih (Z4 l c[i].2) (by omega);rw [jFb,ji hi,Km];generalize Z4 l c[i].2=l' at *;have hr:hR 1 (A.top,[.sl 1 (l'.map cs)]) 0=some (l'.map cs):=rfl;simp only [jd,hlt,ix,ad,ld,q,hr,h5,q2]
theorem jpd:∀t:T,Rx' t->Tz t-> ∀l:List (List UInt8),l.length+nodes t<=4000000->jbl (sv t.name) (jH t.args) (l.map cs)=some (.top,[.sl 1 ((Z4 l t).map cs)]):=by
 refine T.ind λt ih hk ht l hl=> ?_;have hz:=ht;unfold Tz at hz;rw [kH] at hz;have hn:=jT t;have e0:=yP t (hk.imp id λh=>h.1);have e1:=ZF l t.name (by show l.length<=9223372036854775807;omega);have key:=upto (P:=λi=>∀l:List (List UInt8),l.length+jr (t.args.drop i)<=4000000->jbu (jH t.args) (vi (t.args.length:Nat)) (vi (i:Nat)) (l.map cs)=some (.top,[.sl 1 ((jb3 l (t.args.drop i)).map cs)])) (n:=t.args.length) ?_ ?_ 0 (ko _);rotate_left
 ·intro l _;rw [jbX,kg];simp only [jd];rfl
 ·intro i hi ihi l hl;have hlt:(i:Int) < ((t.args.length:Nat):Int):=by omega
  have h5:=js hi (by show t.args.length<=9223372036854775807;omega)
  rw [ji hi,jr] at hl;have q:=ih t.args[i] (jC hi) (hk.args _ (jC hi)) (ht.args _ (jC hi)) l (by omega);have hln:=jeY t.args[i] l;have q2:=ihi (Z4 l t.args[i]) (by omega);rw [jbX,ji hi,jb3];generalize Z4 l t.args[i]=l' at *;have hr:hR 1 (A.top,[.sl 1 (l'.map cs)]) 0=some (l'.map cs):=rfl;simp only [jd,hlt,ja hi,je,q,hr,h5,q2]
 have e2:jbt (jH t.args) (vi (t.args.length:Nat)) (vi 0) (l.map cs)=some (.top,[.sl 1 ((jb3 l t.args).map cs)]):=by
  have key:=key l (by rw [kD];omega)
  rw [kD] at key;have:∀n:A,jbt (jH t.args) n (vi 0) (l.map cs)=jbu (jH t.args) n (vi 0) (l.map cs):=λn=>by rw [jpU,jbX]
  rw [this];exact key
 rw [jx7,jnV];cases hv:jp t.name<;>rw [hv] at e0
 ·rw [jf j7];by_cases hl0:((t.args.length:Nat):Int)=0
  ·simp only [jd,hl0,e0];rw [hl0] at e2;exact e2
  ·simp only [jd,hl0,e2]
 ·have ha:t.args = []:=by
   rcases hk with h|h
   ·exact Ja h hv
   ·rw [h.1] at hv;exact absurd hv (by decide)
  have hl0:((t.args.length:Nat):Int)=0:=by rw [ha];rfl
  rw [jg rfl];unfold vnA;cases hc:l.contains t.name<;>rw [hc] at e1
  ·have f:jA (l.length+1) 16=true:=jFj (by omega);rw [jf j7,zy];simp only [jd,hl0,e0,e1,f];rfl
  ·rw [jg rfl];simp only [jd,hl0,e0,e1]
theorem jjd (c:kh) (hl:c.length<=1000) (hk:∀l∈c,Rx' l.2) (hz:∀l∈c,Tz l.2) (hs:∀l∈c,nodes l.2<=1000):G 111 [cm c]=some (.sl 1 ((zt c).map cs),[]):=by
 have key:=upto (P:=λi=>∀l:List (List UInt8),l.length<=1000 * i->jhV (.sl 3 (c.map jG)) (vi (c.length:Nat)) (vi (i:Nat)) (l.map cs)=some (.sl 1 (((c.drop i).foldl (λl x=>Z4 l x.2) l).map cs),[])) (n:=c.length) ?_ ?_ 0 (ko _)
 ·have key:=key [] (by simp);rw [kD] at key;have key:jhV (.sl 3 (c.map jG)) (vi (c.length:Nat)) (vi 0) []=some (.sl 1 ((zt c).map cs),[]):=key;rw [jKg];simp only [jd,key]
 ·intro l _;rw [jy4,kg];simp only [jd];rfl
 ·intro i hi ih l hll;have hlt:(i:Int) < ((c.length:Nat):Int):=by omega
  have h5:=js hi (by show c.length<=9223372036854775807;omega)
  have ix:=ja (k:=3) (f:=jG) hi;have hn:=hs _ (jC hi);have q:=jpd c[i].2 (hk _ (jC hi)) (hz _ (jC hi)) l (by omega);have hol:=jeY c[i].2 l;have q2:=ih (Z4 l c[i].2) (by omega);rw [jy4,ji hi,Km];generalize Z4 l c[i].2=l' at *;have hr:hR 1 (A.top,[.sl 1 (l'.map cs)]) 0=some (l'.map cs):=rfl;simp only [jd,hlt,ix,zs,q,hr,h5,q2]
abbrev JV:=List (T × T)
def jo4:jw->Bool
 | []=>true
 | [_]=>true
 | p::q::s=>yX p.1 q.1 && jo4 (q::s)
noncomputable def jL (s:jw):Bool:=decide (s.length<=12) && (jo4 s && s.all λq=>jp q.1 && (zl q.2 && !dq q.2.name q.1))
def zO (s u:jw):jw:=Ka (s.map (λq=>(q.1,sub u q.2))++u.filter λq=>(look s q.1).isNone)
def jv (x y:T):List UInt8 × T:=if jp x.name=false\/(jp y.name=true/\yX x.name y.name=true) then (y.name,x) else (x.name,y)
noncomputable def yl (s:jw) (l r:T) (rest:JV):Option (jw × JV):=
 if jD (sub s l)=false\/jD (sub s r)=false then none
 else if dq (sub s l) (sub s r) then some (s,rest)
 else if jp (sub s l).name=true\/jp (sub s r).name=true then
  (if (jv (sub s l) (sub s r)).1∈kK (jv (sub s l) (sub s r)).2\/jL [jv (sub s l) (sub s r)]=false\/jL (zO s [jv (sub s l) (sub s r)])=false then none else some (zO s [jv (sub s l) (sub s r)],rest))
 else if (sub s l).name=(sub s r).name/\(sub s l).args.length=(sub s r).args.length then some (s,(sub s l).args.zip (sub s r).args++rest) else none
noncomputable def zE:Nat->jw->JV->Option (Option jw)
 | _,s,[]=>some (some s)
 | 0,_,_::_=>none
 | k+1,s,p::rest=>(match yl s p.1 p.2 rest with|none=>some none|some q=>zE k q.1 q.2)
def Exx (t:T):Prop:=(zS t=true\/(t.name = [61]/\t.args.length=2/\ ∀u∈t.args,zS u=true))/\nodes t<=31
def IdS (s:jw):Prop:=∀q∈s,∀x∈kK q.2,look s x=none
def ZK (s:jw) (es:JV):Prop:=jL s=true/\IdS s/\ ∀p∈es,Exx p.1/\Exx p.2
theorem j6 {s:jw} (h:jL s=true):s.length<=12/\jo4 s=true/\ ∀q∈s,jp q.1=true/\zl q.2=true/\q.2.name≠q.1:=by
 unfold jL at h;rw [jy,kM,jy,qn] at h;refine ⟨h.1,h.2.1,λq hq=> ?_⟩;have:=h.2.2 q hq;rw [jy,jy,jan] at this;exact ⟨this.1,this.2.1,λe=>by rw [e,jcO] at this;exact absurd this.2.2 (by decide)⟩
theorem jc3 {t:T} (h:zl t=true):zS t=true:=by
 unfold zl at h;rw [jy] at h;exact h.2
theorem vsv {t:T} (h:jp t.name=true):kK t = [t.name]:=by rw [Jt,h,jg rfl]
theorem vsf {t:T} (h:jp t.name=false):kK t=zD t.args:=by rw [Jt,h,jf j7]
theorem qI {x:List UInt8} :∀ {ts:List T},x∈zD ts↔ ∃t∈ts,x∈kK t
 | []=>by simp [zD]
 | t::ts=>by rw [zD,kZ,qI];simp
theorem Qa {s:jw} (hs:IdS s):∀(w:T) {x:List UInt8},x∈kK (sub s w)->look s x=none:=by
 refine T.ind (p:=λw=>∀ {x:List UInt8},x∈kK (sub s w)->look s x=none) λw ih=> ?_;intro x hx;cases hv:jp w.name with
 | true=>
  rw [Jk hv,Js] at hx;cases hl:look s w.name with
  | some r=>rw [hl] at hx;exact hs _ (JY hl) x hx
  | none=>
   rw [hl] at hx;have hx:x∈kK (.mk w.name []):=hx;rw [vsv (t:= .mk w.name []) hv,ku] at hx;rw [hx];exact hl
 | false=>
  rw [qE hv,vsf (t:= .mk w.name (w.args.map (sub s))) hv,qI] at hx;obtain ⟨t,ht,hx⟩:=hx;obtain ⟨a,ha,rfl⟩:=zN.1 ht;exact ih a ha hx
theorem jl9 {n:List UInt8} {t:T} :∀(w:T) {x:List UInt8},x∈kK (sub [(n,t)] w)->(x∈kK w/\x≠n)\/x∈kK t:=by
 refine T.ind (p:=λw=>∀ {x:List UInt8},x∈kK (sub [(n,t)] w)->(x∈kK w/\x≠n)\/x∈kK t) λw ih=> ?_;intro x hx;cases hv:jp w.name with
 | true=>
  rw [Jk hv,Js] at hx;by_cases hn:n=w.name
  ·have:look [(n,t)] w.name=some t:=by rw [look,jg hn]
   rw [this] at hx;exact Or.inr hx
  ·have:look [(n,t)] w.name=none:=by rw [look,jf hn,look]
   rw [this] at hx;have hx:x∈kK (.mk w.name []):=hx;rw [vsv (t:= .mk w.name []) hv,ku] at hx;left;rw [vsv hv,hx];exact ⟨by simp [T.name],λe=>hn e.symm⟩
 | false=>
  rw [qE hv,vsf (t:= .mk w.name (w.args.map (sub [(n,t)]))) hv,qI] at hx;obtain ⟨u,hu,hx⟩:=hx;obtain ⟨a,ha,rfl⟩:=zN.1 hu;rcases ih a ha hx with ⟨h1,h2⟩|h
  ·left;rw [vsf hv,qI];exact ⟨⟨a,ha,h1⟩,h2⟩
  ·exact Or.inr h
theorem jgd {s:jw} :∀(w:T),zS w=true->(∀x∈kK w,look s x=none)->sub s w=w:=by
 refine T.ind λw ih=> ?_;intro hk h;cases hv:jp w.name with
 | true=>
  rw [Jk hv,Js,h w.name (by rw [vsv hv];simp)]
  have ha:=Ja hk hv;show T.mk w.name []=w;rw [<-ha,T.eta]
 | false=>
  rw [qE hv];have:w.args.map (sub s)=w.args:=by
   conv=>rhs;rw [<-List.map_id w.args]
   refine K3 λa ha=>ih a ha (zj hk a ha) λx hx=>h x ?_;rw [vsf hv,qI];exact ⟨a,ha,hx⟩
  rw [this,T.eta]
theorem jjD {s:jw} {n:List UInt8} {t:T} {q:List UInt8 × T} :q∈YW s n t↔q∈s\/q=(n,t):=by
 unfold YW;have e:=jrL (p:=λp:List UInt8 × T=>yX p.1 n) (l:=s);constructor
 ·intro h;rcases kZ.1 h with h|h
  ·left;rw [<-e];exact JA _ h
  ·rcases jZ.1 h with h|h
   ·exact Or.inr h
   ·left;rw [<-e];exact Kg _ h
 ·rintro (h|h)
  ·rw [<-e] at h;rcases kZ.1 h with h|h
   ·exact JA _ h
   ·exact Kg _ (JR _ h)
  ·rw [h];exact Kg _ (K1 ..)
theorem jAU (s:jw) (n:List UInt8) (t:T):(YW s n t).length=s.length+1:=by
 unfold YW;have e:=congrArg List.length (jrL (p:=λp:List UInt8 × T=>yX p.1 n) (l:=s));rw [zh] at e;rw [zh,zk];omega
theorem Qr:∀(m s:jw),(∀q∈m,q.2.name≠q.1)->(m.foldl (λs p=>Kk s p.1 p.2) s).length=s.length+m.length/\ ∀q,q∈m.foldl (λs p=>Kk s p.1 p.2) s↔q∈s\/q∈m
 | [],s,_=>⟨rfl,λq=>by simp⟩
 | p::m,s,h=>by
  rw [Km];have e:Kk s p.1 p.2=YW s p.1 p.2:=jf (h p (by simp));obtain ⟨h1,h2⟩:=Qr m (Kk s p.1 p.2) λq hq=>h q (by simp [hq]);refine ⟨by rw [h1,e,jAU,zk];omega,λq=> ?_⟩;rw [h2,e,jjD,jZ,Ya]
theorem jiq {s:jw} (hs:jL s=true) (hi:IdS s) {n:List UInt8} {t:T} (hn:jp n=true) (hd:look s n=none) (ht:∀x∈kK t,look s x=none) (ho:n ∉ kK t) (htn:t.name≠n) :
  (zO s [(n,t)]).length=s.length+1/\IdS (zO s [(n,t)])/\(∀q,q∈zO s [(n,t)]↔(∃p∈s,q=(p.1,sub [(n,t)] p.2))\/q=(n,t))/\ ∀q∈s.map (λq=>(q.1,sub [(n,t)] q.2))++[(n,t)],q.2.name≠q.1:=by
 obtain ⟨_,_,hv⟩:=j6 hs;have hf:([(n,t)]:jw).filter (λq=>(look s q.1).isNone) = [(n,t)]:=by simp [hd]
 have hname:∀q∈s.map (λq=>(q.1,sub [(n,t)] q.2))++[(n,t)],q.2.name≠q.1:=by
  intro q hq;rcases kZ.1 hq with hq|hq
  ·obtain ⟨p,hp,rfl⟩:=zN.1 hq;intro e;have e:(sub [(n,t)] p.2).name=p.1:=e;have hx:p.1∈kK (sub [(n,t)] p.2):=by rw [vsv (by rw [e];exact (hv p hp).1),e];simp
   have hk:look s p.1≠none:=λh=>JZ.1 h p hp rfl;rcases jl9 _ hx with ⟨h1,_⟩|h1
   ·exact hk (hi p hp _ h1)
   ·exact hk (ht _ h1)
  ·simp only [ku] at hq;rw [hq];exact htn
 obtain ⟨f1,f2⟩:=Qr _ [] hname;have hm:∀q,q∈zO s [(n,t)]↔(∃p∈s,q=(p.1,sub [(n,t)] p.2))\/q=(n,t):=by
  intro q;unfold zO Ka;rw [hf,f2];simp only [qK,false_or,kZ,zN,ku];constructor
  ·rintro (⟨p,h1,h2⟩|h)
   ·exact Or.inl ⟨p,h1,h2.symm⟩
   ·exact Or.inr h
  ·rintro (⟨p,h1,h2⟩|h)
   ·exact Or.inl ⟨p,h1,h2.symm⟩
   ·exact Or.inr h
 refine ⟨?_,?_,hm,hname⟩
 ·unfold zO Ka;rw [hf,f1,zh,kj];simp
 ·intro q hq x hx;have hxn:x≠n/\look s x=none:=by
   rcases (hm q).1 hq with ⟨p,hp,rfl⟩|rfl
   ·rcases jl9 _ hx with ⟨h1,h2⟩|h1
    ·exact ⟨h2,hi p hp _ h1⟩
    ·exact ⟨λe=>ho (e ▸ h1),ht _ h1⟩
   ·exact ⟨λe=>ho (e ▸ hx),ht _ hx⟩
  refine JZ.2 λp hp e=> ?_;rcases (hm p).1 hp with ⟨p',hp',rfl⟩|rfl
  ·exact JZ.1 hxn.2 p' hp' e
  ·exact hxn.1 e.symm
def mz (s:jw):JV->Nat
 | []=>0
 | p::r=>nodes (sub s p.1)+nodes (sub s p.2)+mz s r
theorem jlp (s:jw):∀a b:JV,mz s (a++b)=mz s a+mz s b
 | [],b=>by simp [mz]
 | p::a,b=>by rw [K5,mz,mz,jlp s a b];omega
theorem jAk {s:jw} :∀(a b:List T),(∀u∈a,sub s u=u)->(∀u∈b,sub s u=u)->mz s (a.zip b)<=jr a+jr b
 | [],_,_,_=>by simp [mz]
 | _::_,[],_,_=>by simp [mz]
 | x::a,y::b,h1,h2=>by
  have:=jAk a b (λu hu=>h1 u (by simp [hu])) (λu hu=>h2 u (by simp [hu]));rw [List.zip_cons_cons,mz,h1 x (by simp),h2 y (by simp)];simp only [jr];omega
theorem Exx.sub {s:jw} (hs:jL s=true) {t:T} (h:Exx t):zS (sub s t)=true\/((sub s t).name = [61]/\(sub s t).args.length=2/\ ∀u∈(sub s t).args,zS u=true):=by
 obtain ⟨_,_,hv⟩:=j6 hs;have ho:∀q∈s,zS q.2=true:=λq hq=>(jc3 (hv q hq).2.1);rcases h.1 with h|⟨h1,h2,h3⟩
 ·exact Or.inl (Y5 ho t h)
 ·have hvn:jp t.name=false:=by rw [h1];decide
  right;rw [qE hvn];refine ⟨h1,by show (t.args.map _).length=2;rw [kj,h2],λu hu=> ?_⟩;obtain ⟨a,ha,rfl⟩:=zN.1 hu;exact Y5 ho a (h3 a ha)
theorem kV {t:T} (h:jD t=true):nodes t<=30:=by
 simp only [jD,jy,kM] at h;exact h.1
theorem juO {t:T} (h:zS t=true\/(t.name = [61]/\t.args.length=2/\ ∀u∈t.args,zS u=true)):∀u∈t.args,zS u=true:=by
 rcases h with h|h
 ·exact zj h
 ·exact h.2.2
theorem zo {s:jw} {l r:T} {rest:JV} (h:ZK s ((l,r)::rest)) {s':jw} {es:JV} (hst:yl s l r rest=some (s',es)):ZK s' es/\((s'=s/\mz s' es < mz s ((l,r)::rest))\/s'.length=s.length+1):=by
 obtain ⟨hv,hi,he⟩:=h;obtain ⟨el,er⟩:=he (l,r) (by simp);have hrest:∀p∈rest,Exx p.1/\Exx p.2:=λp hp=>he p (by simp [hp]);have xl:=el.sub hv;have xr:=er.sub hv;have nl:=qT (sub s l);have vl:=λ{x} (hx:x∈kK (sub s l))=>Qa hi l hx;have vr:=λ{x} (hx:x∈kK (sub s r))=>Qa hi r hx;have hmz:mz s ((l,r)::rest)=nodes (sub s l)+nodes (sub s r)+mz s rest:=rfl;unfold yl at hst;split at hst
 ·cases hst
 rename_i hsm;have hs1:jD (sub s l)=true:=by
  cases h:jD (sub s l) with
  | true=>rfl
  | false=>exact absurd (Or.inl h) hsm
 have hs2:jD (sub s r)=true:=by
  cases h:jD (sub s r) with
  | true=>rfl
  | false=>exact absurd (Or.inr h) hsm
 split at hst
 ·cases hst;exact ⟨⟨hv,hi,hrest⟩,Or.inl ⟨rfl,by rw [hmz];omega⟩⟩
 split at hst
 ·rename_i hvar;split at hst
  ·cases hst
  rename_i hno;cases hst;have h1:(jv (sub s l) (sub s r)).1 ∉ kK (jv (sub s l) (sub s r)).2:=λh=>hno (Or.inl h);have h2:jL (zO s [jv (sub s l) (sub s r)])=true:=by
   cases h:jL (zO s [jv (sub s l) (sub s r)]) with
   | true=>rfl
   | false=>exact absurd (Or.inr (Or.inr h)) hno
  have h3:jL [jv (sub s l) (sub s r)]=true:=by
   cases h:jL [jv (sub s l) (sub s r)] with
   | true=>rfl
   | false=>exact absurd (Or.inr (Or.inl h)) hno
  have hb:look s (jv (sub s l) (sub s r)).1=none/\ ∀x∈kK (jv (sub s l) (sub s r)).2,look s x=none:=by
   unfold jv;split
   ·rename_i hc;have hy:jp (sub s r).name=true:=by
     rcases hc with hc|hc
     ·rcases hvar with h|h
      ·rw [hc] at h;cases h
      ·exact h
     ·exact hc.1
    exact ⟨vr (by rw [vsv hy];simp),λx hx=>vl hx⟩
   ·rename_i hc;have hx:jp (sub s l).name=true:=by
     cases h:jp (sub s l).name with
     | true=>rfl
     | false=>exact absurd (Or.inl h) hc
    exact ⟨vl (by rw [vsv hx];simp),λx hx=>vr hx⟩
  obtain ⟨_,_,h4⟩:=j6 h3;obtain ⟨k1,_,k3⟩:=h4 _ (jov _);generalize jv (sub s l) (sub s r)=p at *;obtain ⟨n,t⟩:=p;obtain ⟨c1,c2,_,_⟩:=jiq hv hi k1 hb.1 hb.2 h1 k3;exact ⟨⟨h2,c2,hrest⟩,Or.inr c1⟩
 ·rename_i hnv;split at hst
  ·rename_i hnm;cases hst;have v1:jp (sub s l).name=false:=by
    cases h:jp (sub s l).name with
    | false=>rfl
    | true=>exact absurd (Or.inl h) hnv
   have v2:jp (sub s r).name=false:=by
    cases h:jp (sub s r).name with
    | false=>rfl
    | true=>exact absurd (Or.inr h) hnv
   have a1:∀u∈(sub s l).args,zS u=true/\nodes u<=31/\sub s u=u:=λu hu=>by
    have hk:=juO xl u hu;have:=Jy hu;have:=kV hs1;exact ⟨hk,by omega,jgd u hk λx hx=>vl (by rw [vsf v1,qI];exact ⟨u,hu,hx⟩)⟩
   have a2:∀u∈(sub s r).args,zS u=true/\nodes u<=31/\sub s u=u:=λu hu=>by
    have hk:=juO xr u hu;have:=Jy hu;have:=kV hs2;exact ⟨hk,by omega,jgd u hk λx hx=>vr (by rw [vsf v2,qI];exact ⟨u,hu,hx⟩)⟩
   refine ⟨⟨hv,hi,λp hp=> ?_⟩,Or.inl ⟨rfl,?_⟩⟩
   ·rcases kZ.1 hp with hp|hp
    ·have hm:=jkb (a:=p.1) (b:=p.2) hp;exact ⟨⟨Or.inl (a1 _ hm.1).1,(a1 _ hm.1).2.1⟩,⟨Or.inl (a2 _ hm.2).1,(a2 _ hm.2).2.1⟩⟩
    ·exact hrest p hp
   ·have:=jAk (s:=s) (sub s l).args (sub s r).args (λu hu=>(a1 u hu).2.2) (λu hu=>(a2 u hu).2.2);have e1:=jT (sub s l);have e2:=jT (sub s r);rw [jlp,hmz];omega
  ·cases hst
theorem jtL:∀(m1 m2:Nat) (s:jw) (es:JV),ZK s es->13 - s.length<=m1->mz s es<=m2-> ∃k res,zE k s es=some res:=by
 intro m1;induction m1 with
 | zero=>
  intro m2 s es h h1;have:=(j6 h.1).1;omega
 | succ m1 ih1=>
  intro m2;induction m2 with
  | zero=>
   intro s es h _ h2;cases es with
   | nil=>exact ⟨0,_,rfl⟩
   | cons p es=>
    have:=qT (sub s p.1);simp only [mz] at h2;omega
  | succ m2 ih2=>
   intro s es h h1 h2;cases es with
   | nil=>exact ⟨0,_,rfl⟩
   | cons p es=>
    obtain ⟨l,r⟩:=p;cases hst:yl s l r es with
    | none=>exact ⟨1,none,by rw [zE,hst]⟩
    | some q=>
     obtain ⟨s',es'⟩:=q;obtain ⟨hinv,hor⟩:=zo h hst;have hl:=(j6 h.1).1;rcases hor with ⟨e,hlt⟩|e
     ·obtain ⟨k,res,hk⟩:=ih2 s' es' hinv (by rw [e];exact h1) (by omega)
      exact ⟨k+1,res,by rw [zE,hst];exact hk⟩
     ·obtain ⟨k,res,hk⟩:=ih1 (mz s' es') s' es' hinv (by omega) (kz _);exact ⟨k+1,res,by rw [zE,hst];exact hk⟩
theorem jj0:∀(k:Nat) (s:jw) (es:JV) {u:jw},ZK s es->zE k s es=some (some u)->jL u=true/\IdS u:=by
 intro k;induction k with
 | zero=>
  intro s es u h hu;cases es with
  | nil=>simp only [zE,zg] at hu;rw [<-hu];exact ⟨h.1,h.2.1⟩
  | cons p es=>simp [zE] at hu
 | succ k ih=>
  intro s es u h hu;cases es with
  | nil=>simp only [zE,zg] at hu;rw [<-hu];exact ⟨h.1,h.2.1⟩
  | cons p es=>
   obtain ⟨l,r⟩:=p;rw [zE] at hu;cases hst:yl s l r es with
   | none=>rw [hst] at hu;simp at hu
   | some q=>
    rw [hst] at hu;exact ih q.1 q.2 (zo h hst).1 hu
def Bx (t:T):Prop:=(t.name = [61]/\t.args.length=2/\ ∀u∈t.args,zS u=true)\/(y5 t.name=true/\zS t=true)
theorem Bx.rx {t:T} (h:Bx t):Rx' t:=h.elim (λh=>Or.inr ⟨h.1,h.2.2⟩) λh=>Or.inl h.2
theorem Bx.ax {t:T} (h:Bx t):zS t=true\/(t.name = [61]/\t.args.length=2/\ ∀u∈t.args,zS u=true):=h.elim Or.inr λh=>Or.inl h.2
theorem Bx.args {t:T} (h:Bx t):∀u∈t.args,zS u=true:=h.elim (λh=>h.2.2) λh=>zj h.2
theorem jd1 {n:List UInt8} (h:y5 n=true):jp n=false:=by
 cases hv:jp n with
 | false=>rfl
 | true=>rw [jjX hv] at h;cases h
theorem Bx.nv {t:T} (h:Bx t):jp t.name=false:=h.elim (λh=>by rw [h.1];decide) λh=>jd1 h.1
theorem jHL {t:T} (h:t.args.length=2):t.args = [YF t,QC t]:=by
 obtain ⟨n,us⟩:=t
 match us,h with
 | [a,b],_=>rfl
theorem jeu {t:T} :J3 t=true↔Bx t/\jD t=true:=by
 unfold J3 Bx;by_cases he:t.name = [61]
 ·rw [jg he];unfold jbK;rw [jy,jy,jy,kM];constructor
  ·rintro ⟨h1,h2,h3,h4⟩;refine ⟨Or.inl ⟨he,h1,λu hu=> ?_⟩,h2⟩;rw [jHL h1] at hu;simp only [jZ,qK,Jb] at hu;rcases hu with rfl|rfl
   ·exact h3
   ·exact h4
  ·rintro ⟨h|h,h2⟩
   ·obtain ⟨_,_,ma,mb⟩:=Zk h.2.1;exact ⟨h.2.1,h2,h.2.2 _ ma,h.2.2 _ mb⟩
   ·rw [he] at h;exact absurd h.1 (by decide)
 ·rw [jf he];unfold zl;rw [jy,jy];constructor
  ·rintro ⟨h1,h2,h3⟩;exact ⟨Or.inr ⟨h1,h3⟩,h2⟩
  ·rintro ⟨h|h,h2⟩
   ·exact absurd h.1 he
   ·exact ⟨h.1,h2,h.2⟩
theorem Bx.atom {t:T} (h:Bx t):J3 t=jD t:=by
 cases hs:jD t with
 | true=>exact jeu.2 ⟨h,hs⟩
 | false=>
  cases ha:J3 t with
  | false=>rfl
  | true=>rw [(jeu.1 ha).2] at hs;cases hs
theorem Bx.tsz {t:T} (h:Bx t):tsz t<=10 * nodes t:=by
 rcases h with h|h
 ·rw [kH,jT,h.1,h.2.1];have:=jve h.2.2;simp only [zk,yw];omega
 ·exact jdT t h.2
theorem Bx.tz {t:T} (h:Bx t) (hn:nodes t<=100000):Tz t:=by have:=h.tsz;unfold Tz;omega
theorem Bx.exx {t:T} (h:Bx t) (hn:nodes t<=31):Exx t:=⟨h.ax,hn⟩
theorem Bx.sub {s:jw} (hs:jL s=true) {t:T} (h:Bx t):Bx (sub s t):=by
 obtain ⟨_,_,hv⟩:=j6 hs;have ho:∀q∈s,zS q.2=true:=λq hq=>jc3 (hv q hq).2.1;have hn:=h.nv;rcases h with h|h
 ·left;rw [jcj hn,jag hn,kj];refine ⟨h.1,h.2.1,λu hu=> ?_⟩;obtain ⟨a,ha,rfl⟩:=zN.1 hu;exact Y5 ho a (h.2.2 a ha)
 ·right;rw [jcj hn];exact ⟨h.1,Y5 ho t h.2⟩
theorem Yq {s:jw} (hs:jL s=true):∀q∈s,nodes q.2<=30:=λq hq=>by
 have:=((j6 hs).2.2 q hq).2.1;unfold zl at this;rw [jy] at this;exact kV this.1
theorem J2 {s:jw} (hs:jL s=true):∀q∈s,zS q.2=true:=λq hq=>jc3 ((j6 hs).2.2 q hq).2.1
theorem jgf:jL []=true:=by unfold jL;simp [jo4]
mutual
theorem jlG (f:List UInt8->List UInt8):∀t:T,nodes (zx f t)<=nodes t
 | .mk n us=>by
  rw [zx];split
  ·have:=qT (.mk n us);show 1+0<=_;omega
  ·have:=jjL f us;simp only [nodes];omega
theorem jjL (f:List UInt8->List UInt8):∀ts:List T,jr (Z7 f ts)<=jr ts
 | []=>kz _
 | t::ts=>by have:=jlG f t;have:=jjL f ts;simp only [Z7,jr];omega
end
mutual
theorem jDR (f:List UInt8->List UInt8):∀t:T,J8 (zx f t)<=J8 t
 | .mk n us=>by
  rw [zx];split
  ·rw [ZZ (.mk n us)];show 1+0<=_;omega
  ·have:=jqW f us;simp only [J8];omega
theorem jqW (f:List UInt8->List UInt8):∀ts:List T,QE (Z7 f ts)<=QE ts
 | []=>kz _
 | t::ts=>by have:=jDR f t;have:=jqW f ts;simp only [Z7,QE];omega
end
theorem jcb {f:List UInt8->List UInt8} {t:T} (h:jp t.name=false):(zx f t).name=t.name:=by rw [Qv,h,jf j7];rfl
theorem jae {f:List UInt8->List UInt8} {t:T} (h:jp t.name=false):(zx f t).args=t.args.map (zx f):=by rw [Qv,h,jf j7];rfl
theorem jAZ {f:List UInt8->List UInt8} (hf:∀n,jp n=true->jp (f n)=true):∀t:T,zS t=true->zS (zx f t)=true:=by
 refine T.ind λt ih h=> ?_;cases hv:jp t.name with
 | true=>rw [Qv,hv,jg rfl];exact jAs _ (hf _ hv)
 | false=>
  have hk:=h;rw [yp,hv,jf j7,jy,jy,kM] at h;rw [yp,jcb hv,jae hv,hv,jf j7,jy,jy,kM,kj,qU,qn];refine ⟨h.1,h.2.1,λu hu=> ?_⟩;obtain ⟨a,ha,rfl⟩:=zN.1 hu;exact ih a ha (zj hk a ha)
theorem Bx.ren {f:List UInt8->List UInt8} (hf:∀n,jp n=true->jp (f n)=true) {t:T} (h:Bx t):Bx (zx f t):=by
 have hn:=h.nv;rcases h with h|h
 ·left;rw [jcb hn,jae hn,kj];refine ⟨h.1,h.2.1,λu hu=> ?_⟩;obtain ⟨a,ha,rfl⟩:=zN.1 hu;exact jAZ hf a (h.2.2 a ha)
 ·right;rw [jcb hn];exact ⟨h.1,jAZ hf t h.2⟩
theorem jfR:∀d:Nat,d < 10->Kc (UInt8.ofNat (48+d))=true:=by decide
theorem JI {u:Nat} (h:u < 10):Lib.decDigits u = [UInt8.ofNat (48+u)]:=Lib.decDigits_one h
theorem Zm {u:Nat} (h:¬u < 10):Lib.decDigits u=Lib.decDigits (u / 10)++[UInt8.ofNat (48+u % 10)]:=by rw [Lib.decDigits,dif_neg h]
theorem JW:∀(k u:Nat),u < 10 ^ (k+1)->(Lib.decDigits u).all Kc=true/\(Lib.decDigits u).length<=k+1
 | 0,u,h=>by rw [JI (by omega)];exact ⟨by rw [yU,jfR u (by omega),QO];rfl,by simp⟩
 | k+1,u,h=>by
  by_cases hu:u < 10
  ·rw [JI hu];exact ⟨by rw [yU,jfR u hu,QO];rfl,by simp⟩
  ·obtain ⟨h1,h2⟩:=JW k (u / 10) (by rw [Nat.pow_succ] at h;omega)
   rw [Zm hu,List.all_append,h1,zh];exact ⟨by rw [yU,jfR (u % 10) (by omega),QO];rfl,by simp only [zk,yw];omega⟩
theorem jyp:∀a:Nat,a < 10-> ∀b:Nat,b < 10->UInt8.ofNat (48+a)=UInt8.ofNat (48+b)->a=b:=by decide
theorem juM (a b:Nat) (h1:a < 10) (h2:b < 10) (h:UInt8.ofNat (48+a)=UInt8.ofNat (48+b)):a=b:=jyp a h1 b h2 h
theorem jsG:∀(u v:Nat),Lib.decDigits u=Lib.decDigits v->u=v:=by
 intro u;induction u using Nat.strongRecOn with
 | ind u ih=>
  intro v h;by_cases hu:u < 10<;>by_cases hv:v < 10
  ·rw [JI hu,JI hv] at h;exact juM u v hu hv (by simpa using h)
  ·have h2:=congrArg List.length h;rw [JI hu,Zm hv,zh,Lib.decDigits_length] at h2;have:=Lib.nDigits_pos (v / 10);simp only [zk,yw] at h2;omega
  ·have h2:=congrArg List.length h;rw [JI hv,Zm hu,zh,Lib.decDigits_length] at h2;have:=Lib.nDigits_pos (u / 10);simp only [zk,yw] at h2;omega
  ·rw [Zm hu,Zm hv] at h;obtain ⟨h1,h2⟩:=List.append_inj' h rfl;have e1:=ih (u / 10) (by omega) (v / 10) h1;have e2:=juM (u % 10) (v % 10) (by omega) (by omega) (by simpa using h2);omega
theorem jAn {p:UInt8} {i j:Nat} (h:Kh p i=Kh p j):i=j:=by
 unfold Kh at h;exact jsG i j (by simpa using h)
theorem jAo {p:UInt8} (hp:upc p=true) {i:Nat} (hi:i < 1000):jp (Kh p i)=true:=by
 obtain ⟨h1,h2⟩:=JW 2 i (by omega);show (upc p && ((Lib.decDigits i).all Kc && decide ((Lib.decDigits i).length<=3)))=true;rw [hp,h1,jQ (by omega)];rfl
theorem jEj {l:List (List UInt8)} {n x:List UInt8} :x∈vnA l n↔x∈l\/x=n:=by
 unfold vnA;split
 ·rename_i h;rw [jcw] at h;exact ⟨Or.inl,λh'=>h'.elim id λe=>e ▸ h⟩
 ·simp
theorem jxw {l:List (List UInt8)} {n:List UInt8} (h:l.Nodup):(vnA l n).Nodup:=by
 unfold vnA;split
 ·exact h
 ·rename_i hc;rw [jcw] at hc;refine jke.2 ⟨h,by simp,λa ha b hb=> ?_⟩;simp only [ku] at hb;rintro rfl;exact hc (hb ▸ ha)
mutual
theorem jqr:∀(t:T) (l:List (List UInt8)) (x:List UInt8),x∈Z4 l t↔x∈l\/x∈kK t
 | .mk n us,l,x=>by
  rw [Z4,kK];split
  ·rw [jEj];simp
  ·exact jqq us l x
theorem jqq:∀(ts:List T) (l:List (List UInt8)) (x:List UInt8),x∈jb3 l ts↔x∈l\/x∈zD ts
 | [],l,x=>by simp [jb3,zD]
 | t::ts,l,x=>by rw [jb3,zD,jqq ts,jqr t,kZ,Ya]
end
mutual
theorem jjk:∀(t:T) {l:List (List UInt8)},l.Nodup->(Z4 l t).Nodup
 | .mk n us,l,h=>by
  rw [Z4];split
  ·exact jxw h
  ·exact jjj us h
theorem jjj:∀(ts:List T) {l:List (List UInt8)},l.Nodup->(jb3 l ts).Nodup
 | [],l,h=>h
 | t::ts,l,h=>by rw [jb3];exact jjj ts (jjk t h)
end
theorem jjc:∀(c:kh) (l:List (List UInt8)) (x:List UInt8),x∈c.foldl (λl x=>Z4 l x.2) l↔x∈l\/ ∃y∈c,x∈kK y.2
 | [],l,x=>by simp
 | y::c,l,x=>by rw [Km,jjc c,jqr,Ya];simp
theorem jdN {c:kh} {x:List UInt8} :x∈zt c↔ ∃y∈c,x∈kK y.2:=by unfold zt;rw [jjc];simp
theorem jaK (c:kh):(zt c).Nodup:=by
 have:∀(c:kh) (l:List (List UInt8)),l.Nodup->(c.foldl (λl x=>Z4 l x.2) l).Nodup:=by
  intro c;induction c with
  | nil=>intro l h;exact h
  | cons y c ih=>intro l h;exact ih _ (jjk y.2 h)
 exact this c [] jkc
theorem jdO {c:kh} {x:List UInt8} (h:x∈zt c):jp x=true:=by
 obtain ⟨y,_,hx⟩:=jdN.1 h;exact jrG y.2 hx
def CN (c:kh):Prop:=c.length<=8/\ ∀l∈c,Bx l.2/\nodes l.2<=30
theorem JJ {c:kh} (h:CN c):(zt c).length<=240:=by
 have:∀(c:kh) (l:List (List UInt8)),(∀y∈c,nodes y.2<=30)->(c.foldl (λl x=>Z4 l x.2) l).length<=l.length+30 * c.length:=by
  intro c;induction c with
  | nil=>intro l _;simp
  | cons y c ih=>
   intro l h;have h1:=jeY y.2 l;have h2:=h y (by simp);have h3:=ih (Z4 l y.2) λz hz=>h z (by simp [hz]);rw [Km,zk];omega
 have h2:=this c [] λy hy=>(h.2 y hy).2;have h3:=h.1;rw [yw] at h2;unfold zt;omega
theorem jkY {p:UInt8} {l:List (List UInt8)} {i:Nat} (hl:l.Nodup) (hi:i < l.length):zH p l l[i]=Kh p i:=by
 unfold zH;have:l.findIdx? (λx=>decide (x=l[i]))=some i:=by
  rw [jtS];refine ⟨hi,by simp,λj hj=> ?_⟩;simp only [kM,jan,jcx];intro e;exact (jkh.1 hl) j i (by omega) hi hj e
 rw [this]
theorem jfO {p:UInt8} (hp:upc p=true) {l:List (List UInt8)} (hl:l.length<=1000) {n:List UInt8} (hn:jp n=true):jp (zH p l n)=true:=by
 unfold zH;split
 ·rename_i i h;have:=(jtS.1 h).1;exact jAo hp (by omega)
 ·exact hn
theorem jiD {α:Type} (c:α->α->Int) (l:List α) (x:α):(Z2 c l x).length<=l.length+1:=by
 unfold Z2;split
 ·omega
 ·have:=congrArg List.length (jrL (p:=λa=>decide (c a x < 0)) (l:=l));rw [zh] at this;rw [zh,zk];omega
theorem Q6 {α:Type} (c:α->α->Int) (l:List α):(yL c l).length<=l.length:=by
 have:∀(l m:List α),(l.foldl (Z2 c) m).length<=m.length+l.length:=by
  intro l;induction l with
  | nil=>intro m;simp
  | cons x l ih=>
   intro m;have h1:=jiD c m x;have h2:=ih (Z2 c m x);rw [Km,zk];omega
 have:=this l [];simpa [yL] using this
theorem Yx {l:kh} {x:Lt} :x∈yL cmpL l↔x∈l:=(Q5 JG l).2 x
theorem jqe {l:kh} (h:Asc cmpL l):yL cmpL l=l:=by
 obtain ⟨h1,h2⟩:=Q5 JG l;exact jnf JG h1 h h2
theorem CN.make {l:kh} (hl:l.length<=8) (h:∀x∈l,Bx x.2/\nodes x.2<=30):CN (yL cmpL l):=⟨by have:=Q6 cmpL l;omega,λx hx=>h x (Yx.1 hx)⟩
theorem CN.ren {p:UInt8} (hp:upc p=true) {c:kh} (h:CN c):∀x∈c.map (λl=>(l.1,zx (zH p (zt c)) l.2)),Bx x.2/\nodes x.2<=30:=by
 intro x hx;obtain ⟨l,hl,rfl⟩:=zN.1 hx;have hn:=JJ h;have:=jlG (zH p (zt c)) l.2;have:=(h.2 l hl).2;exact ⟨(h.2 l hl).1.ren λn hn=>jfO hp (by omega) hn,by show nodes (zx (zH p (zt c)) l.2)<=30;omega⟩
theorem CN.renC {p:UInt8} (hp:upc p=true) {c:kh} (h:CN c):CN (renC p c):=CN.make (by rw [kj];exact h.1) (h.ren hp)
theorem CN.normF:∀(k:Nat) {c:kh},CN c->CN (normF k c)
 | 0,c,h=>h
 | k+1,c,h=>by
  rw [Go.Proofs.YtbgikpffkgjecaaGreatDoor.normF];split
  ·exact h
  ·exact CN.normF k (CN.renC (by decide) h)
theorem CN.normC {c:kh} (h:CN c):CN (normC c):=CN.normF 10 h
theorem qF {c:kh} (h:y8 c=true):CN c/\Asc cmpL c/\(∀l∈c,J3 l.2=true):=by
 unfold y8 at h;rw [jy,jy,qn,kM,jo3] at h;exact ⟨⟨h.2.2,λl hl=>⟨(jeu.1 (h.1 l hl)).1,kV (jeu.1 (h.1 l hl)).2⟩⟩,h.2.1,h.1⟩
theorem CN.tz {c:kh} (h:CN c):∀l∈c,Tz l.2:=λl hl=>(h.2 l hl).1.tz (by have:=(h.2 l hl).2;omega)
theorem CN.rx {c:kh} (h:CN c):∀l∈c,Rx' l.2:=λl hl=>(h.2 l hl).1.rx
theorem jkZ {f:List UInt8->List UInt8} :∀ {xs bs:List T},(∀u∈xs,∀v∈bs,qy (zx f u) (zx f v)=qy u v)->yI (xs.map (zx f)) (bs.map (zx f))=yI xs bs
 | [],_,_=>rfl
 | _::_,[],_=>rfl
 | x::xs,b::bs,h=>by
  rw [zf,zf,yI,yI,h x (by simp) b (by simp),jkZ λu hu v hv=>h u (by simp [hu]) v (by simp [hv])]
theorem Rx'.va {t:T} (h:Rx' t) (hv:jp t.name=true):t.args = []:=h.elim (λh=>Ja h hv) λh=>by rw [h.1] at hv;exact absurd hv (by decide)
theorem jCh {L:List (List UInt8)} {f:List UInt8->List UInt8} (hf:∀n∈L,jp (f n)=true) (hc:∀n∈L,∀m∈L,zQ (f n) (f m)=zQ n m):∀a:T,Rx' a->(∀x∈kK a,x∈L)-> ∀b:T,Rx' b->(∀x∈kK b,x∈L)->qy (zx f a) (zx f b)=qy a b:=by
 refine T.ind λa ih ra la b rb lb=> ?_;have hk:cK (qM (zx f a)) (qM (zx f b))=cK (qM a) (qM b):=by
  have v1:∀t:T,Rx' t->(∀x∈kK t,x∈L)->jp t.name=true->qM t=(0,(t.name,0))/\qM (zx f t)=(0,(f t.name,0))/\t.name∈L:=λt rt lt hv=>by
   have ha:=rt.va hv;have hm:t.name∈L:=lt _ (by rw [vsv hv];simp);have e1:vF t.name=0:=by unfold vF;rw [hv,jg rfl]
   have e2:vF (f t.name)=0:=by unfold vF;rw [hf _ hm,jg rfl]
   refine ⟨by unfold qM;rw [e1,ha];rfl,?_,hm⟩
   rw [Qv,hv,jg rfl];show (vF (f t.name),(f t.name,0))=_;rw [e2]
  have v2:∀t:T,jp t.name=false->qM (zx f t)=qM t/\(qM t).1=1:=λt hv=>by
   refine ⟨by unfold qM;rw [jcb hv,jae hv,kj],?_⟩
   show vF t.name=1;unfold vF;rw [hv,jf j7]
  cases va:jp a.name<;>cases vb:jp b.name
  ·rw [(v2 a va).1,(v2 b vb).1]
  ·obtain ⟨p1,p2,_⟩:=v1 b rb lb vb;obtain ⟨q1,q2⟩:=v2 a va;rw [q1,p1,p2];have e:∀z:Key,z.1=0->cK (qM a) z=1:=λz hz=>by
    have:zR (qM a).1 z.1=1:=by rw [q2,hz];decide
    unfold cK;rw [this,jg (by decide)]
   rw [e _ rfl,e _ rfl]
  ·obtain ⟨p1,p2,_⟩:=v1 a ra la va;obtain ⟨q1,q2⟩:=v2 b vb;rw [q1,p1,p2];have e:∀z:Key,z.1=0->cK z (qM b) = -1:=λz hz=>by
    have:zR z.1 (qM b).1 = -1:=by rw [q2,hz];decide
    unfold cK;rw [this,jg (by decide)]
   rw [e _ rfl,e _ rfl]
  ·obtain ⟨p1,p2,p3⟩:=v1 a ra la va;obtain ⟨q1,q2,q3⟩:=v1 b rb lb vb;rw [p1,p2,q1,q2];unfold cK;simp only;rw [hc _ p3 _ q3]
 rw [Qk,Qk a b,hk];by_cases h0:cK (qM a) (qM b)=0
 ·rw [jf (λh=>h h0),jf (λh=>h h0)];cases va:jp a.name with
  | true=>
   have:(zx f a).args = []:=by rw [Qv,va,jg rfl];rfl
   rw [this,ra.va va];rfl
  | false=>
   have vb:jp b.name=false:=by rw [<-(jiL ((jaw.zero _ _).1 h0)).1];exact va
   rw [jae va,jae vb];exact jkZ λu hu v hv=>ih u hu (ra.args u hu) (λx hx=>la x (by rw [vsf va,qI];exact ⟨u,hu,hx⟩)) v (rb.args v hv) λx hx=>lb x (by rw [vsf vb,qI];exact ⟨v,hv,hx⟩)
 ·rw [jg h0,jg h0]
def jF (d:kh):kh:=d.map λl=>(l.1,zx (zH 89 (zt d)) l.2)
def jN (c:kh):Bool:=y8 c && KT c
theorem km {c:kh} (h:jN c=true):CN c/\Asc cmpL c/\y8 c=true/\KT c=true:=by
 unfold jN at h;rw [jy] at h;exact ⟨(qF h.1).1,(qF h.1).2.1,h.1,h.2⟩
theorem jv2 (p q:UInt8) (x y:List UInt8):zQ (p::x) (p::y)=zQ (q::x) (q::y):=by
 have e:yX (p::x) (p::y)=yX (q::x) (q::y):=by
  rw [Y2,Y2];congr 1;simp [List.cons_lt_cons_iff]
 unfold zQ;rw [e];simp
theorem jdR {d:kh} (h:KT d=true) {n:List UInt8} (hn:n∈zt d):∃i,i < (zt d).length/\n=Kh 88 i/\zH 89 (zt d) n=Kh 89 i:=by
 obtain ⟨i,hi,rfl⟩:=jkj.1 hn;unfold KT at h;rw [kM] at h;refine ⟨i,hi,?_,jkY (jaK d) hi⟩;have:=congrArg (λl=>l[i]?) h;simp only [kO hi,Jv,jfs hi,JS] at this;exact jbf this
theorem jvV {d:kh} (h:jN d=true):Asc cmpL (jF d):=by
 obtain ⟨hc,ha,_,hn⟩:=km h;have hl:=JJ hc;unfold Asc jF;rw [List.pairwise_map];refine List.Pairwise.imp_of_mem ?_ ha;intro x y hx hy hlt;have e:qy (zx (zH 89 (zt d)) x.2) (zx (zH 89 (zt d)) y.2)=qy x.2 y.2:=by
  refine jCh (L:=zt d) (λn hn'=>jfO (by decide) (by omega) (jdO hn')) (λn h1 m h2=> ?_) x.2 (hc.rx x hx) (λz hz=>jdN.2 ⟨x,hx,hz⟩) y.2 (hc.rx y hy) (λz hz=>jdN.2 ⟨y,hy,hz⟩);obtain ⟨i,_,rfl,e1⟩:=jdR hn h1;obtain ⟨j,_,rfl,e2⟩:=jdR hn h2;rw [e1,e2];exact jv2 _ _ _ _
 show cmpL (x.1,zx (zH 89 (zt d)) x.2) (y.1,zx (zH 89 (zt d)) y.2) < 0;unfold cmpL at hlt ⊢;simp only;rw [e];exact hlt
theorem apart_eq {d:kh} (h:jN d=true):renC 89 d=jF d:=jqe (jvV h)
theorem jes {d:kh} (h:jN d=true):CN (jF d):=⟨by unfold jF;rw [kj];exact (km h).1.1,(km h).1.ren (by decide)⟩
theorem jfM (d:kh):(jF d).length=d.length:=by unfold jF;rw [kj]
open Classical in
noncomputable def JQ (a b:T):Option jw:=if h:∃r k,zE k [] [(a,b)]=some r then h.choose else none
theorem jlY {a b:T} (ha:Exx a) (hb:Exx b):ZK [] [(a,b)]:=⟨jgf,(λ_ h=>(qK h).elim:IdS []),λp hp=>by rw [ku.1 hp];exact ⟨ha,hb⟩⟩
theorem ZV {a b:T} (ha:Exx a) (hb:Exx b):∃k,zE k [] [(a,b)]=some (JQ a b):=by
 obtain ⟨k,r,h⟩:=jtL 13 _ [] [(a,b)] (jlY ha hb) (by simp) (kz _);have hex:∃r k,zE k [] [(a,b)]=some r:=⟨r,k,h⟩;unfold JQ;rw [dif_pos hex];exact hex.choose_spec
theorem Yp {a b:T} (ha:Exx a) (hb:Exx b) {u:jw} (h:JQ a b=some u):jL u=true:=by
 obtain ⟨k,hk⟩:=ZV ha hb;rw [h] at hk;exact (jj0 k _ _ (jlY ha hb) hk).1
noncomputable def YE (s:jw) (l:kh):Option kh:=if (l.all λx=>jD (sub s x.2)) && y8 (yL cmpL (l.map λx=>(x.1,sub s x.2))) then some (yL cmpL (l.map λx=>(x.1,sub s x.2))) else none
noncomputable def qZ (s:jw) (l:kh):Option kh:=(YE s l).bind λc=>if jN (normC c) then some (normC c) else none
abbrev cz:A:= .agg [.sl 3 []]
def Jz (o:Option kh):Option Out:=match o with|some c=>some (.tup [cm c,vb true],[])|none=>some (.tup [cz,vb false],[])
theorem ZU {s:jw} {l:kh} {c:kh} (h:qZ s l=some c):jN c=true:=by
 unfold qZ at h;rw [zI] at h;obtain ⟨d,_,h⟩:=h;split at h
 ·rename_i hn;cases h;exact hn
 ·cases h
theorem jav {s:jw} {l:kh} {c:kh} (h:YE s l=some c):y8 c=true/\Asc cmpL c:=by
 unfold YE at h;split at h
 ·rename_i hn;cases h;rw [jy] at hn;exact ⟨hn.2,(Q5 JG _).1⟩
 ·cases h
def atI:List Int->T->Option T
 | [],t=>some t
 | i::p,t=>if 0<=i/\i < (t.args.length:Int) then atI p (t.args.getD i.toNat (.mk [] [])) else none
theorem jx1:∀ {p:List Int} {t u:T},atI p t=some u-> ∃q:List Nat,p=q.map (λn:Nat=>(n:Int))/\okP q t/\u=atT q t
 | [],t,u,h=>by simp only [atI,zg] at h;exact ⟨[],rfl,trivial,h.symm⟩
 | i::p,t,u,h=>by
  rw [atI] at h;split at h;rotate_left
  ·cases h
  rename_i hi;obtain ⟨q,e,h1,h2⟩:=jx1 h;refine ⟨i.toNat::q,?_,⟨by omega,h1⟩,h2⟩;rw [zf,<-e];congr 1;omega
theorem jAr:∀ {p:List Nat} {t:T},p≠ []->okP p t->(∀u∈t.args,zS u=true)->zS (atT p t)=true/\nodes (atT p t)<=nodes t
 | [],t,h,_,_=>absurd rfl h
 | i::p,t,_,h,ha=>by
  obtain ⟨h1,h2⟩:=h;rw [atT];rw [qo h1] at h2 ⊢;have hm:t.args[i]∈t.args:=jC h1;have hk:=ha _ hm;have hn:=Jy hm;by_cases hp:p = []
  ·subst hp;exact ⟨hk,by show nodes t.args[i]<=_;omega⟩
  ·have:=jAr hp h2 (zj hk);exact ⟨this.1,by omega⟩
theorem jop {s:T} (hs:zS s=true):∀ {p:List Nat} {t:T},okP p t->zS t=true->zS (ze s p t)=true
 | [],t,_,_=>hs
 | i::p,t,h,hk=>by
  obtain ⟨h1,h2⟩:=h;rw [qo h1] at h2;have hv:jp t.name=false:=by
   cases hv:jp t.name with
   | false=>rfl
   | true=>rw [Ja hk hv] at h1;simp at h1
  have hk':=hk;rw [yp,hv,jf j7,jy,jy,kM] at hk;rw [ze,qo h1,yp];show (if jp t.name=true then _ else (y5 t.name && (decide ((t.args.set i (ze s p t.args[i])).length<=4) && jc9 (t.args.set i (ze s p t.args[i])))))=true;rw [hv,jf j7,jkm,hk.1,jQ hk.2.1,qU,jR,jR,qn];intro u hu;rcases jmh hu with hu|hu
  ·exact zj hk' u hu
  ·rw [hu];exact jop hs h2 (zj hk' _ (jC h1))
theorem jvP {s:T} (hs:zS s=true) {p:List Nat} {t:T} (hp:p≠ []) (h:okP p t) (hb:Bx t):Bx (ze s p t):=by
 match p,hp,h with
 | i::p,_,⟨h1,h2⟩=>
  rw [qo h1] at h2;rcases hb with hb|hb
  ·left;rw [ze,qo h1];refine ⟨hb.1,by show (t.args.set i _).length=2;rw [jkm];exact hb.2.1,λu hu=> ?_⟩;rcases jmh (show u∈t.args.set i (ze s p t.args[i]) from hu) with hu|hu
   ·exact hb.2.2 u hu
   ·rw [hu];exact jop hs h2 (hb.2.2 _ (jC h1))
  ·right;refine ⟨hb.1,?_⟩;exact jop (p:=i::p) hs ⟨h1,by rw [qo h1];exact h2⟩ hb.2
theorem jj5 (s:T):∀(p:List Nat) (t:T),okP p t->nodes (ze s p t)<=nodes t+nodes s
 | [],t,_=>by rw [ze];omega
 | i::p,t,h=>by
  obtain ⟨h1,h2⟩:=h;rw [qo h1] at h2;have ih:=jj5 s p t.args[i] h2;rw [ze,qo h1,jT t];show 1+jr (t.args.set i (ze s p t.args[i]))<=_;have key:∀(ts:List T) (i:Nat) (h:i < ts.length) (u:T),nodes u<=nodes ts[i]+nodes s->jr (ts.set i u)<=jr ts+nodes s:=by
   intro ts;induction ts with
   | nil=>intro i h;simp at h
   | cons x xs ih2=>
    intro i h u hu;cases i with
    | zero=>simp only [jrO,jr,List.getElem_cons_zero] at hu ⊢;omega
    | succ i=>
     have:=ih2 i (by simpa using h) u (by simpa using hu);simp only [jrP,jr];omega
  have:=key t.args i h1 _ ih;omega
def EXB (t:T):Prop:=EX false t/\Bx t
theorem jb2 {rs:List T} (hr:RS rs) {t u:T} (h:EXB t) (ho:YS rs false t=some u):Tz u/\Bx u/\(jD u=true->EX false u)/\G 230 [tm u]=some (vb (jD u),[]):=by
 have hn:=jtf hr t false h.1 ho;have hn0:=h.1.1.1;rw [jaN] at ho;split at ho;rotate_left
 ·cases ho
 rename_i us hus;cases ho;obtain ⟨g1,g2⟩:=jaM hus;have hk:∀v∈us,zS v=true:=g2 (λv=>zS v=true) (λv hv=>(h.1.2.1 v hv).1) λv hv u' hu'=>jvh hr.ok v (h.1.2.1 v hv).1 hu';have hb:Bx (.mk t.name us):=by
  rcases h.2 with h2|h2
  ·exact Or.inl ⟨h2.1,g1.trans h2.2.1,hk⟩
  ·refine Or.inr ⟨h2.1,?_⟩;have h3:=h2.2;rw [yp,jd1 h2.1,jf j7,jy,jy,kM] at h3;rw [yp];show (if jp t.name=true then _ else (y5 t.name && (decide (us.length<=4) && jc9 us)))=true;rw [jd1 h2.1,jf j7,h2.1,g1,jQ h3.2.1,qU,jR,jR,qn];exact hk
 have hz:Tz (.mk t.name us):=hb.tz (by omega);refine ⟨hz,hb,λhs=> ?_,jnb hz hb.ax⟩;have hns:=kV hs;refine ⟨⟨by omega,hz⟩,λv hv=>⟨hk v hv,?_⟩,λh=>by cases h⟩;have:=Jy (t:= .mk t.name us) hv;omega
theorem jtw (rs:List T) (hr:RS rs):∀(k n:Nat),k+n=51->1<=k-> ∀t:T,EXB t->jh8 (jH rs) (vb false) (vi (n:Nat)) (sv []) (sv t.name) (jH t.args) []=jqs (rwN rs false k n t):=by
 intro k;induction k with
 | zero=>intro n _ h;omega
 | succ k ih=>
  intro n hk _ t ht;have e1:=jwE rs hr false t ht.1;rw [jGD,rwN];cases ho:YS rs false t with
  | none=>
   rw [ho] at e1;have e1:G 233 [tm t,jH rs,vb false]=some (.tup [tm t,vb false],[]):=e1;show _=some (A.tup [tm t,vi (n:Nat),vb true],[]);simp only [jd,e1]
  | some u=>
   rw [ho] at e1;have e1:G 233 [tm t,jH rs,vb false]=some (.tup [tm u,vb true],[]):=e1;obtain ⟨hu,hb,hs,hA⟩:=jb2 hr ht ho;have e2:G 230 [tm u]=some (vb (jD u),[]):=hA;by_cases h50:n=50
   ·have hk0:k=0:=by omega
    have hn:((n:Nat):Int)=50:=by omega
    show _=jqs (if k=0\/jD u=false then none else rwN rs false k (n+1) u);rw [jg (Or.inl hk0)];show _=some (A.tup [.agg [sv [],.sl 2 []],vi 0,vb false],[]);simp only [jd,e1,hn]
   ·have hn:¬((n:Nat):Int)=50:=by omega
    have hk0:¬k=0:=by omega
    show _=jqs (if k=0\/jD u=false then none else rwN rs false k (n+1) u);cases hsm:jD u with
    | false=>
     rw [hsm] at e2;rw [jg (Or.inr rfl)];show _=some (A.tup [.agg [sv [],.sl 2 []],vi 0,vb false],[]);simp only [jd,e1,hn,e2]
    | true=>
     rw [hsm] at e2;rw [jf (by simp [hk0])];have h5:ck ((n:Int)+1)=some (vi ((n+1:Nat):Int)):=jE (by omega) (by omega);have:=ih (n+1) (by omega) (by omega) u ⟨hs hsm,hb⟩;rw [<-this];simp only [jd,e1,hn,e2,h5]
theorem jtu (rs:List T) (hr:RS rs):∀(k n:Nat),k+n=51->1<=k-> ∀t:T,EXB t->joR (jH rs) (vb false) (vi (n:Nat)) (sv []) (sv t.name) (jH t.args) []=jqs (rwN rs false k n t):=by
 intro k;induction k with
 | zero=>intro n _ h;omega
 | succ k ih=>
  intro n hk _ t ht;have e1:=jwC rs hr t false ht.1;rw [jIH,rwN];cases ho:YS rs false t with
  | none=>
   rw [ho] at e1;have e1:G 130 [tm t,jH rs,vb false]=some (.tup [.agg [sv [],.sl 2 []],vb false],[]):=e1;show _=some (A.tup [tm t,vi (n:Nat),vb true],[]);simp only [jd,e1]
  | some u=>
   rw [ho] at e1;have e1:G 130 [tm t,jH rs,vb false]=some (.tup [tm u,vb true],[]):=e1;obtain ⟨hu,hb,hs,hA⟩:=jb2 hr ht ho;have e2:G 131 [tm u]=some (vb (jD u),[]):=jaG u hu.wf hu;by_cases h50:n=50
   ·have hk0:k=0:=by omega
    have hn:((n:Nat):Int)=50:=by omega
    show _=jqs (if k=0\/jD u=false then none else rwN rs false k (n+1) u);rw [jg (Or.inl hk0)];show _=some (A.tup [.agg [sv [],.sl 2 []],vi 0,vb false],[]);simp only [jd,e1,hn]
   ·have hn:¬((n:Nat):Int)=50:=by omega
    have hk0:¬k=0:=by omega
    show _=jqs (if k=0\/jD u=false then none else rwN rs false k (n+1) u);cases hsm:jD u with
    | false=>
     rw [hsm] at e2;rw [jg (Or.inr rfl)];show _=some (A.tup [.agg [sv [],.sl 2 []],vi 0,vb false],[]);simp only [jd,e1,hn,e2]
    | true=>
     rw [hsm] at e2;rw [jf (by simp [hk0])];have h5:ck ((n:Int)+1)=some (vi ((n+1:Nat):Int)):=jE (by omega) (by omega);have:=ih (n+1) (by omega) (by omega) u ⟨hs hsm,hb⟩;rw [<-this];simp only [jd,e1,hn,e2,h5]
theorem jA3 (rs:List T) (hr:RS rs) (t:T) (ht:EXB t):G 197 [tm t,jH rs,vb false]=jqs (rwN rs false 51 0 t):=by
 have e1:=Z5 t ht.1.1.2;have:=jtw rs hr 51 0 rfl (by decide) t ht;have:jh8 (jH rs) (vb false) (vi 0) (sv []) (sv t.name) (jH t.args) []=_:=this;rw [jLf];simp only [jd,e1,this]
theorem jA2 (rs:List T) (hr:RS rs) (t:T) (ht:EXB t):G 89 [tm t,jH rs,vb false]=jqs (rwN rs false 51 0 t):=by
 have e1:=JH t ht.1.1.2;have:=jtu rs hr 51 0 rfl (by decide) t ht;have:joR (jH rs) (vb false) (vi 0) (sv []) (sv t.name) (jH t.args) []=_:=this;rw [g89];simp only [jd,e1,this]
theorem Bx.exB {t:T} (h:Bx t) (hn:nodes t<=30):EXB t:=⟨⟨⟨by omega,h.tz (by omega)⟩,λu hu=>⟨h.args u hu,by have:=Jy hu;omega⟩,λh=>by cases h⟩,h⟩
theorem jcX {rs:List T} (hr:RS rs):∀(k n:Nat) {t:T} {r:T × Nat},EXB t->rwN rs false k n t=some r->Bx r.1/\nodes r.1<=31
 | 0,n,t,r,_,h=>by simp [rwN] at h
 | k+1,n,t,r,ht,h=>by
  rw [rwN] at h;cases ho:YS rs false t with
  | none=>rw [ho] at h;cases h;exact ⟨ht.2,ht.1.1.1⟩
  | some u=>
   rw [ho] at h;have h:(if k=0\/jD u=false then none else rwN rs false k (n+1) u)=some r:=h;split at h
   ·cases h
   rename_i hc;obtain ⟨_,hb,hs,_⟩:=jb2 hr ht ho;have hsm:jD u=true:=by
    cases hs':jD u with
    | true=>rfl
    | false=>exact absurd (Or.inr hs') hc
   exact jcX hr k (n+1) ⟨hs hsm,hb⟩ h
open Go Go.RowKit Go.Proofs.YtbgikpffkgjecaaGreatDoor.Abs Go.Sort
section
variable {α:Type} {c:α->α->Int}
theorem jqB {β γ:Type} (f:β->β->γ) (ys:List β):∀(xs:List β) (i j:Nat) (x y:β),xs[i]? = some x->ys[j]? = some y->(xs.flatMap λx=>ys.map λy=>f x y)[i * ys.length+j]? = some (f x y)
 | [],i,j,x,y,h,_=>by simp at h
 | a::xs,i,j,x,y,h,hy=>by
  have hj:=(ZW.1 hy).1;rw [List.flatMap_cons];cases i with
  | zero=>simp at h;subst h;rw [Nat.zero_mul,yd,K7 (by simpa using hj),Jv,hy];rfl
  | succ i=>
   rw [Qe (by simp [yF];omega)]
   have:(i+1) * ys.length+j - (ys.map λy=>f a y).length=i * ys.length+j:=by simp [yF];omega
   rw [this];exact jqB f ys xs i j x y (by simpa using h) hy
theorem extract_all {β:Type} (e:Array β) {n:Nat} (h:e.size=n):e.extract 0 n=e:=by subst h;simp
theorem Law3.swo (h:Law3 c) {β:Type} (g:β->α) {lt:β->β->Bool} (hl:∀i j,lt i j=decide (c (g i) (g j) < 0)):SWO lt:=by
 refine ⟨λx=> ?_,λx y z h1 h2=> ?_,λx y z h1 h2=> ?_⟩
 ·rw [hl,(h.zero _ _).2 rfl];rfl
 ·rw [hl,kM] at *;exact h.trans _ _ _ h1 h2
 ·rw [hl,jcx] at *;intro h3;have f1:=h.flip (g x) (g y);have f2:=h.flip (g y) (g z);by_cases e1:c (g x) (g y)=0
  ·rw [(h.zero _ _).1 e1] at h3;exact h2 h3
  by_cases e2:c (g y) (g z)=0
  ·rw [<-(h.zero _ _).1 e2] at h3;exact h1 h3
  have:=h.trans (g z) (g y) (g x) (by omega) (by omega);have f3:=h.flip (g x) (g z);omega
theorem joc {γ:Type} {c:γ->γ->Int} (hc:Law3 c) (f:α->γ) (enc:α->List A) (k:Nat) (l:List α) (hl:l.length < 4611686018427387904):∃s:List α,s.Perm l/\s.Pairwise (λa b=>¬c (f b) (f a) < 0)/\jjT k (l.map enc) (l.flatMap λx=>l.map λy=>c (f x) (f y))=some (.top,[.sl k (s.map enc)]):=by
 cases l with
 | nil=>exact ⟨[],List.Perm.refl _,List.Pairwise.nil,rfl⟩
 | cons a l'=>
  generalize hcs:((a::l').flatMap λx=>(a::l').map λy=>c (f x) (f y))=cs;rw [zf];have hN:(l'.map enc).length+1=(a::l').length:=by simp
  let g:Fin ((l'.map enc).length+1)->α:=λi=>(a::l')[i.val]'(by rw [<-hN];exact i.isLt)
  have hg:∀i:Fin ((l'.map enc).length+1),(a::l')[i.val]? = some (g i):=λi=>kO _;have hT:∀i j,ltO (jhb ((l'.map enc).length+1) cs) i j=decide (c (f (g i)) (f (g j)) < 0):=λi j=>by
   have:=jqB (λx y=>c (f x) (f y)) (a::l') (a::l') i.val j.val _ _ (hg i) (hg j);rw [hcs,<-hN] at this;unfold ltO jhb;rw [zY,this];rfl
  have hS:=hc.swo (λi=>f (g i)) hT;have hsz:(l'.map enc).length+1 < 4611686018427387904:=by rw [hN];exact hl
  generalize hd:(Array.ofFn (n:=(l'.map enc).length+1) id)=d;have hds:d.size=(l'.map enc).length+1:=by rw [<-hd];simp
  obtain ⟨hp,hs⟩:=pdq_sorts (ltO (jhb ((l'.map enc).length+1) cs)) hS d 0 ((l'.map enc).length+1) (Lib.bitLen ((l'.map enc).length+1)) true true (ko _) (by omega) (Or.inl rfl);have hrow:jjT k (enc a::l'.map enc) cs=some (.top,[.sl k ((pdq (ltO (jhb ((l'.map enc).length+1) cs)) d 0 ((l'.map enc).length+1) (Lib.bitLen ((l'.map enc).length+1)) true true).toList.map λi=>(enc a::l'.map enc).getD i.val [])]):=by
   unfold jjT;simp only;rw [jg ⟨hS,hsz⟩,hd]
  rw [hrow];generalize pdq (ltO (jhb ((l'.map enc).length+1) cs)) d 0 ((l'.map enc).length+1) (Lib.bitLen ((l'.map enc).length+1)) true true=D at *;obtain ⟨p1,_,p3⟩:=hp;rw [extract_all D (by omega),extract_all d hds] at p3;refine ⟨D.toList.map g,?_,?_,?_⟩
  ·have h1:(D.toList.map g).Perm (d.toList.map g):=p3.map g;have h2:d.toList.map g=a::l':=by
    refine jbh λi=> ?_;rw [<-hd];by_cases hi:i < (l'.map enc).length+1
    ·rw [Jv,jft,jcD (by simpa using hi)];simp only [Array.getElem_ofFn,JS,id];exact (hg ⟨i,hi⟩).symm
    ·rw [y9 (by simp at hi ⊢;omega),y9 (by simp at hi ⊢;omega)]
   rw [h2] at h1;exact h1
  ·rw [List.pairwise_map];rw [jkh];intro i j hi hj hij;have hD:D.size=(l'.map enc).length+1:=by omega
   rw [jao] at hi hj;have:=hs i j (ko _) hij (by omega);rw [jcC D i hi,jcC D j hj,hT,jcx] at this;simpa using this
  ·congr 3;rw [qa];refine congrArg (A.sl k) (K3 λi _=> ?_);rw [<-zf,zY,Jv,hg i];rfl
end
theorem jil {β:Type} (f:β->FuncId × List A) (r:β->Int):∀qs:List β,(∀b∈qs,K.pureF (f b).1=true/\G (f b).1 (f b).2=some (vi (r b),[]))->askAll K (MM K) (qs.map f)=some (qs.map λb=>(vi (r b),[]))
 | [],_=>rfl
 | b::qs,h=>by
  have ih:=jil f r qs λb' hb=>h b' (by simp [hb]);obtain ⟨h1,h2⟩:=h b (by simp);rw [zf,zf];show (if K.pureF (f b).1 then (MM K (.call (f b).1 (f b).2)).bind λo=>(askAll K (MM K) (qs.map f)).bind λos=>some (o::os) else none)=_;have h2:MM K (.call (f b).1 (f b).2)=some (vi (r b),[]):=h2;rw [h1,jg rfl,h2,ih];rfl
theorem jlt {β:Type} (r:β->Int):∀qs:List β,jgU (qs.map λb=>(vi (r b),[]))=some (qs.map r)
 | []=>rfl
 | b::qs=>by
  rw [zf,zf,jgU,jlt r qs];rfl
theorem jpp {α γ:Type} {c:γ->γ->Int} (hc:Law3 c) (f:α->γ) (enc:α->List A) (k:Nat) (g:FuncId) (hp:K.pureF g=true) (l:List α) (hl:l.length < 4611686018427387904) (h:∀x∈l,∀y∈l,G g [.agg (enc x),.agg (enc y)]=some (vi (c (f x) (f y)),[])):∃s:List α,s.Perm l/\s.Pairwise (λa b=>¬c (f b) (f a) < 0)/\extRun K (MM K) (sfE k) [V.row 0,V.fn g []] [.row k (l.map enc)]=some (.top,[.sl k (s.map enc)]):=by
 obtain ⟨s,h1,h2,h3⟩:=joc hc f enc k l hl;refine ⟨s,h1,h2,?_⟩;have hq:jrd [V.row 0,V.fn g []] [.row k (l.map enc)]=some ((l.flatMap λx=>l.map λy=>(x,y)).map λq=>(g,[A.agg (enc q.1),A.agg (enc q.2)])):=by
  show some ((l.map enc).flatMap λx=>(l.map enc).map λy=>(g,[A.agg x,A.agg y]++[]))=_;congr 1;rw [List.flatMap_map,List.map_flatMap];refine congrArg (λh=>l.flatMap h) (funext λx=> ?_);rw [qa,qa];rfl
 have ha:=jil (λq:α × α=>(g,[A.agg (enc q.1),A.agg (enc q.2)])) (λq=>c (f q.1) (f q.2)) (l.flatMap λx=>l.map λy=>(x,y)) λq hq=>by
  obtain ⟨x,hx,hq⟩:=List.mem_flatMap.1 hq;obtain ⟨y,hy,rfl⟩:=zN.1 hq;exact ⟨hp,h x hx y hy⟩
 have hc':((l.flatMap λx=>l.map λy=>(x,y)).map λq=>c (f q.1) (f q.2))=l.flatMap λx=>l.map λy=>c (f x) (f y):=by
  rw [List.map_flatMap];refine congrArg (λh=>l.flatMap h) (funext λx=> ?_);rw [qa];rfl
 have ho:=jlt (λq:α × α=>c (f q.1) (f q.2)) (l.flatMap λx=>l.map λy=>(x,y));rw [hc'] at ho;show (jrd [V.row 0,V.fn g []] [.row k (l.map enc)]).bind _=_;rw [hq,yy,ha,yy];show (if Nat.beq k k then (jgU _).bind λcs=>jjT k (l.map enc) cs else none)=_;rw [Nat.beq_refl,jg rfl,ho];exact h3
theorem jFs:∀d:Nat,d < 10->Ym (sv [48,49,50,51,52,53,54,55,56,57]) (some (vi (d:Nat))) (some (vi ((d+1:Nat):Int)))=some (sv [UInt8.ofNat (48+d)])
 | 0,_=>rfl|1,_=>rfl|2,_=>rfl|3,_=>rfl|4,_=>rfl|5,_=>rfl|6,_=>rfl|7,_=>rfl|8,_=>rfl|9,_=>rfl
theorem jiQ:∀n:Nat,n<=1000000->G 44 [vi (n:Nat)]=some (sv (Lib.decDigits n),[]):=by
 intro n;induction n using Nat.strongRecOn with
 | ind n ih=>
  intro hn;have h0:¬((n:Nat):Int) < 0:=by omega
  rw [g44];by_cases h:n < 10
  ·have h1:((n:Nat):Int) < 10:=by omega
   have h2:ck ((n:Int)+1)=some (vi ((n+1:Nat):Int)):=jE (by omega) (by omega);have h3:=jFs n h;rw [JI h];simp only [jd,h0,h1,h2,h3]
  ·have h1:¬((n:Nat):Int) < 10:=by omega
   have hq:ju .quo false (vi (n:Nat)) (vi 10)=some (vi ((n / 10:Nat):Int)):=by
    show ck (((n:Nat):Int).tdiv 10)=_;rw [jtV (by omega)];exact jE (by omega) (by omega)
   have hr:ju .rem false (vi (n:Nat)) (vi 10)=some (vi ((n % 10:Nat):Int)):=by
    show some (vi (((n:Nat):Int).tmod 10))=_;rw [Int.tmod_eq_emod_of_nonneg (by omega)];rfl
   have h2:ck (((n % 10:Nat):Int)+1)=some (vi ((n % 10+1:Nat):Int)):=jE (by omega) (by omega);have h3:=jFs (n % 10) (by omega);have h4:=ih (n / 10) (by omega) (by omega);have hl:(Lib.decDigits (n / 10)).length + [UInt8.ofNat (48+n % 10)].length<=9223372036854775807:=by
    have:=(JW 6 (n / 10) (by omega)).2;simp only [zk,yw];omega
   have h5:=jaa false (Lib.decDigits (n / 10)) [UInt8.ofNat (48+n % 10)];rw [jg hl] at h5;rw [Zm h];simp only [jd,h0,h1,hq,hr,h2,h3,h4,h5]
theorem ju0 (n:Nat) (hn:n<=1000000):G 112 [vi (n:Nat)]=some (sv (Lib.decDigits n),[]):=by
 have:K.ext 112=some juZ:=rfl;rw [jHx this];show (if -9223372036854775808<=((n:Nat):Int)/\((n:Nat):Int)<=9223372036854775807 then some (sv (Lib.itoa (n:Nat)),[]) else none)=_;rw [jg (by omega)];unfold Lib.itoa;rw [jf (by omega),jgm]
def jb1:Nat->List (List UInt8)->Bool
 | _,[]=>true
 | i,n::r=>decide (n=Kh 88 i) && jb1 (i+1) r
theorem jql:∀(l:List (List UInt8)) (i:Nat),jb1 i l=decide (l=(List.range' i l.length).map (Kh 88))
 | [],i=>by simp [jb1]
 | n::r,i=>by
  rw [jb1,jql r,zk,List.range'_succ,zf,<-Bool.decide_and];simp only [Qd]
theorem jiH (c:kh):KT c=jb1 0 (zt c):=by
 rw [jql,<-List.range_eq_range'];rfl
theorem jIM (i:Nat) (h:i<=1000000):ju .add false (sv [88]) (sv (Lib.decDigits i))=some (sv (Kh 88 i)):=by
 rw [jaa,jg]
 ·rfl
 ·have:=(JW 6 i (by omega)).2;simp only [zk,yw];omega
theorem ja8 (c:kh) (h:CN c):G 80 [cm c]=some (vb (KT c),[]):=by
 have hlen:=JJ h;have e0:=jjd c (by have:=h.1;omega) h.rx h.tz λl hl=>by have:=(h.2 l hl).2;omega
 rw [jiH,g80];generalize zt c=ns at *;have key:=upto (P:=λi=>jun (strs ns) (vi (ns.length:Nat)) (vi (i:Nat))=some (vb (jb1 i (ns.drop i)),[])) (n:=ns.length) ?_ ?_ 0 (ko _)
 ·simp only [kU,kD] at key;simp only [jd,e0,key]
 ·rw [jE5,kg];simp only [jd,jb1]
 ·intro i hi ih;have hlt:(i:Int) < ((ns.length:Nat):Int):=by omega
  have h5:=js hi (by show ns.length<=9223372036854775807;omega)
  have e1:=ju0 i (by omega);have e2:=jIM i (by omega);have ld:kN (.elt (cs ns[i]) 0)=some (sv ns[i]):=rfl;rw [jE5,ji hi,jb1];by_cases hc:ns[i]=Kh 88 i
  ·rw [jQ hc,jR,<-ih];simp only [jd,hlt,ja hi,ld,e1,e2,hc,h5]
  ·rw [kA hc,jK];simp only [jd,hlt,ja hi,ld,e1,e2,hc]
theorem QF (c:kh) (h:CN c):G 82 [cm c]=some (vb (KT c),[]):=by
 have hlen:=JJ h;have e0:=jiX c (by have:=h.1;omega) h.tz λl hl=>by have:=(h.2 l hl).2;omega
 rw [jiH,g82];generalize zt c=ns at *;have key:=upto (P:=λi=>jup (strs ns) (vi (i:Nat))=some (vb (jb1 i (ns.drop i)),[])) (n:=ns.length) ?_ ?_ 0 (ko _)
 ·simp only [kU,kD] at key;simp only [jd,e0,key]
 ·rw [jE7,kg];simp only [jd,jb1]
 ·intro i hi ih;have hlt:(i:Int) < ((ns.length:Nat):Int):=by omega
  have h5:=js hi (by show ns.length<=9223372036854775807;omega)
  have e1:=jiQ i (by omega);have e2:=jIM i (by omega);have ld:kN (.elt (cs ns[i]) 0)=some (sv ns[i]):=rfl;rw [jE7,ji hi,jb1];by_cases hc:ns[i]=Kh 88 i
  ·rw [jQ hc,jR,<-ih];simp only [jd,hlt,ja hi,ld,e1,e2,hc,h5]
  ·rw [kA hc,jK];simp only [jd,hlt,ja hi,ld,e1,e2,hc]
theorem yK (c:kh) (hl:c.length<=1048576) (hz:∀l∈c,Tz l.2):G 48 [cm c]=some (vb (jN c),[]):=by
 have e1:=Q2 c hl hz;unfold jN;rw [g48];cases hv:y8 c<;>rw [hv] at e1
 ·simp only [jd,e1,jK]
 ·have e2:=ja8 c (qF hv).1;simp only [jd,e1,e2,jR]
theorem qb (c:kh) (hl:c.length<=1048576) (hz:∀l∈c,Tz l.2):G 49 [cm c]=some (vb (jN c),[]):=by
 have e1:=Q3 c hl hz;unfold jN;rw [g49];cases hv:y8 c<;>rw [hv] at e1
 ·simp only [jd,e1,jK]
 ·have e2:=QF c (qF hv).1;simp only [jd,e1,e2,jR]
abbrev Nm':=List (List UInt8 × List UInt8)
abbrev kn (p:List UInt8 × List UInt8):List A:=[sv p.1,sv p.2]
def yR:Nm'->List UInt8->Option (List UInt8)
 | [],_=>none
 | p::m,n=>if p.1=n then some p.2 else yR m n
theorem js7 (n:List UInt8):∀(m:Nm') (k:Nat),∃j,ZQ none (sv n) (m.map kn) k=some ((yR m n).map λr=>(j,sv r))
 | [],k=>⟨0,rfl⟩
 | p::m,k=>by
  rw [zf,yR,ZQ,jyD];by_cases h:p.1=n
  ·rw [jg h,jQ h.symm];exact ⟨k,rfl⟩
  ·rw [jf h,kA (λe=>h e.symm)];exact js7 n m (k+1)
theorem jGU (m:Nm') (n:List UInt8):Zg none true true [sv []] (.mp (m.map kn)) (sv n)=some (match yR m n with|some r=> .tup [sv r,vb true]|none=> .tup [sv [],vb false]):=by
 show ((some (m.map kn)).bind λxs=>(ZQ none (sv n) xs 0).map (ju9 true true [sv []]))=_;obtain ⟨j,h⟩:=js7 n m 0;rw [yy,h];cases yR m n<;>rfl
theorem jFl {m:Nm'} {n:List UInt8} (h:yR m n=none) (r:List UInt8):jkD none (m.map kn) (sv n) (sv r)=some ((m++[(n,r)]).map kn):=by
 obtain ⟨j,h2⟩:=js7 n m 0;show (ZQ none (sv n) (m.map kn) 0).map _=_;rw [h2,h,zy];rfl
theorem jfX:∀(m:Nm') (p:List UInt8 × List UInt8) (n:List UInt8),yR (m++[p]) n=(match yR m n with|some r=>some r|none=>if p.1=n then some p.2 else none)
 | [],p,n=>rfl
 | q::m,p,n=>by
  rw [K5,yR,yR,jfX m p n];by_cases h:q.1=n
  ·rw [jg h,jg h]
  ·rw [jf h,jf h]
def Zh (p:UInt8):Nat->List (List UInt8)->Nm'
 | _,[]=>[]
 | i,n::r=>(n,Kh p i)::Zh p (i+1) r
theorem ji4 (p:UInt8) (n:List UInt8):∀(ns:List (List UInt8)) (k:Nat),yR (Zh p k ns) n=(ns.findIdx? λx=>decide (x=n)).map λi=>Kh p (k+i)
 | [],k=>rfl
 | x::ns,k=>by
  rw [Zh,yR,jos];by_cases h:x=n
  ·rw [jg h,jg (jQ h)];rfl
  ·rw [jf h,jf (by simp [h]),ji4 p n ns (k+1),Option.map_map];refine congrArg (λf=>Option.map f _) (funext λi=> ?_);show Kh p (k+1+i)=Kh p (k+(i+1));rw [show k+1+i=k+(i+1) by omega]
theorem jsy (p:UInt8) (ns:List (List UInt8)):(λn=>(yR (Zh p 0 ns) n).getD n)=zH p ns:=by
 funext n;rw [ji4];unfold zH;cases ns.findIdx? (λx=>decide (x=n)) with
 | none=>rfl
 | some i=>show Kh p (0+i)=_;rw [yd]
theorem jqA {p:UInt8} :∀ {ns:List (List UInt8)} {k:Nat},(∀n∈ns,jp n=true)-> ∀q∈Zh p k ns,jp q.1=true
 | [],k,_,q,h=>by cases h
 | x::ns,k,hv,q,h=>by
  rw [Zh] at h;rcases jZ.1 h with e|e
  ·rw [e];exact hv x (by simp)
  ·exact jqA (λn hn=>hv n (by simp [hn])) q e
theorem jGL (p:UInt8) (i:Nat) (h:i<=1000000):ju .add false (sv [p]) (sv (Lib.decDigits i))=some (sv (Kh p i)):=by
 rw [jaa,jg]
 ·rfl
 ·have:=(JW 6 i (by omega)).2;simp only [zk,yw];omega
theorem jqY (p:UInt8) (ns:List (List UInt8)) (hn:ns.Nodup) (hl:ns.length<=1000):G 184 [strs ns,sv [p]]=some (.mp ((Zh p 0 ns).map kn),[]):=by
 have key:=upto (P:=λi=>∀m:Nm',(∀n∈ns.drop i,yR m n=none)->jmM (sv [p]) (strs ns) (vi (ns.length:Nat)) (vi (i:Nat)) (m.map kn)=some (.mp ((m++Zh p i (ns.drop i)).map kn),[])) (n:=ns.length) ?_ ?_ 0 (ko _) [] (λn _=>rfl)
 ·rw [kD] at key;simp only [kU,ql,Ju] at key;rw [jK4];simp only [jd,key]
 ·intro m _;rw [jzI,kg,Zh,qv];simp only [jd]
 ·intro i hi ih m hm;have hlt:(i:Int) < ((ns.length:Nat):Int):=by omega
  have h5:=js hi (by show ns.length<=9223372036854775807;omega)
  have e1:=ju0 i (by omega);have e2:=jGL p i (by omega);have ld:kN (.elt (cs ns[i]) 0)=some (sv ns[i]):=rfl;have hd:(ns.drop i).Nodup:=hn.sublist (List.drop_sublist i ns);rw [ji hi] at hm hd ⊢;have pt:=jFl (hm ns[i] (K1 ..)) (Kh p i);have ih:=ih (m++[(ns[i],Kh p i)]) λn hn'=>by
   rw [jfX,hm n (JR _ hn')];show (if ns[i]=n then _ else none)=none;rw [jf];rintro e;exact (jj9.1 hd).1 (e ▸ hn')
  rw [yv] at ih;rw [jzI,Zh];simp only [jd,hlt,ja hi,ld,e1,e2,pt,h5,ih];rfl
theorem jwu {m:Nm'} (hm:∀p∈m,jp p.1=true) {n:List UInt8} (h:jp n=false):yR m n=none:=by
 induction m with
 | nil=>rfl
 | cons p m ih=>
  rw [yR,jf,ih λq hq=>hm q (by simp [hq])];intro e;rw [<-e,hm p (by simp)] at h;cases h
theorem jtp (m:Nm') (hm:∀p∈m,jp p.1=true):∀t:T,Rx' t->Tz t->G 208 [tm t,.mp (m.map kn)]=some (tm (zx (λn=>(yR m n).getD n) t),[]):=by
 refine T.ind λt ih hk ht=> ?_;have hz:=ht;unfold Tz at hz;rw [kH] at hz;have e0:=jGU m t.name;rw [jLo,Qv];cases hv:jp t.name with
 | true=>
  have ha:=hk.va hv;rw [jg rfl];obtain ⟨n,us⟩:=t;have ha:us = []:=ha;subst ha;have lp:∀x:List UInt8,jfF (.mp (m.map kn)) (.sl 2 []) (vi 0) (vi 0) (sv []) (sv x) [] []=some (.agg [sv x,.sl 2 []],[]):=λx=>by
   rw [jsX];simp only [jd]
  have e0:Zg none true true [sv []] (.mp (m.map kn)) (sv n)=some (match yR m n with|some r=> .tup [sv r,vb true]|none=> .tup [sv [],vb false]):=e0;show Option.bind (jaO 2 (.agg [sv n,.sl 2 []])) _=some (A.agg [sv ((yR m n).getD n),.sl 2 []],[]);cases hl:yR m n with
  | none=>
   rw [hl] at e0;have lp:=lp n;simp only [jd,e0,lp,Option.getD_none,kU]
  | some r=>
   rw [hl] at e0;have lp:=lp r;simp only [jd,e0,lp,jBO,kU]
 | false=>
  rw [jwu hm hv] at e0;rw [jf j7];have key:=(upto (P:=λi=>jfF (.mp (m.map kn)) (jH t.args) (vi (t.args.length:Nat)) (vi i) (sv []) (sv t.name) [] (((t.args.map (zx λn=>(yR m n).getD n)).take i).map jo)=some (tm (.mk t.name (t.args.map (zx λn=>(yR m n).getD n))),[])) (n:=t.args.length) ?_ ?_ 0 (ko _))
  ·simp only [kU,jal,ql] at key;simp only [jd,e0,key]
  ·rw [jsX,Zd (by rw [kj];omega)]
   simp only [jd];rfl
  ·intro i hi ih';have hlt:(i:Int) < ((t.args.length:Nat):Int):=by omega
   have h5:=js hi (by show t.args.length<=9223372036854775807;omega)
   have e2:=ih t.args[i] (jC _) (hk.args _ (jC _)) (ht.args _ (jC _));have hf:jA (i+1) 40=true:=jjp (by omega);have hi2:i < (t.args.map (zx λn=>(yR m n).getD n)).length:=by rw [kj];exact hi
   have hl:(((t.args.map (zx λn=>(yR m n).getD n)).take i).map jo).length=i:=by rw [kj,Ky,kj];omega
   have ha:jW (((t.args.map (zx λn=>(yR m n).getD n)).take i).map jo) [[sv (zx (λn=>(yR m n).getD n) t.args[i]).name,jH (zx (λn=>(yR m n).getD n) t.args[i]).args]]=((t.args.map (zx λn=>(yR m n).getD n)).take (i+1)).map jo:=by
    rw [show [sv (zx (λn=>(yR m n).getD n) t.args[i]).name,jH (zx (λn=>(yR m n).getD n) t.args[i]).args]=jo (zx (λn=>(yR m n).getD n) t.args[i]) from (kG _).symm,jho,kO hi2,zy,jcs];rfl
   generalize ((t.args.map (zx λn=>(yR m n).getD n)).take i).map jo=R at *;generalize zx (λn=>(yR m n).getD n) t.args[i]=u at *;rw [jsX];simp only [jd,hlt,ja hi,je,e2,hl,hf,ha,h5,ih']
theorem jqX (p:UInt8) (ns:List (List UInt8)) (hv:∀n∈ns,jp n=true) (t:T) (hk:Rx' t) (ht:Tz t):G 208 [tm t,.mp ((Zh p 0 ns).map kn)]=some (tm (zx (zH p ns) t),[]):=by
 rw [jtp _ (jqA hv) t hk ht,jsy]
theorem jp5 (p:UInt8) (ns:List (List UInt8)) (hn:ns.length<=1000):∀t:T,Tz t->G 135 [tm t,strs ns,sv [p]]=some (tm (zx (zH p ns) t),[]):=by
 refine T.ind λt ih ht=> ?_;have hz:=ht;unfold Tz at hz;rw [kH] at hz;have e0:=zK t.name (((kR t).1 ht.wf).1);rw [jKy,Qv];cases hv:jp t.name<;>rw [hv] at e0
 ·rw [jf j7];have key:=(upto (P:=λi=>jmz (strs ns) (sv [p]) (vi i) (sv t.name) (jH t.args) (sv []) (sv t.name) [] (((t.args.map (zx (zH p ns))).take i).map jo)=some (tm (.mk t.name (t.args.map (zx (zH p ns)))),[])) (n:=t.args.length) ?_ ?_ 0 (ko _))
  ·simp only [kU,jal,ql] at key;simp only [jd,e0,key]
  ·rw [jzj,Zd (by rw [kj];omega)]
   simp only [jd];rfl
  ·intro i hi ih';have hlt:(i:Int) < ((t.args.length:Nat):Int):=by omega
   have h5:=js hi (by show t.args.length<=9223372036854775807;omega)
   have e2:=ih t.args[i] (jC _) (ht.args _ (jC _));have hf:jA (i+1) 40=true:=jjp (by omega);have hi2:i < (t.args.map (zx (zH p ns))).length:=by rw [kj];exact hi
   have hl:(((t.args.map (zx (zH p ns))).take i).map jo).length=i:=by rw [kj,Ky,kj];omega
   have ha:jW (((t.args.map (zx (zH p ns))).take i).map jo) [[sv (zx (zH p ns) t.args[i]).name,jH (zx (zH p ns) t.args[i]).args]]=((t.args.map (zx (zH p ns))).take (i+1)).map jo:=by
    rw [show [sv (zx (zH p ns) t.args[i]).name,jH (zx (zH p ns) t.args[i]).args]=jo (zx (zH p ns) t.args[i]) from (kG _).symm,jho,kO hi2,zy,jcs];rfl
   generalize ((t.args.map (zx (zH p ns))).take i).map jo=R at *;generalize zx (zH p ns) t.args[i]=u at *;rw [jzj];simp only [jd,hlt,ja hi,je,e2,hl,hf,ha,h5,ih']
 ·rw [jg rfl];have key:=(upto (P:=λi=>(∀j,(h:j < i)-> ∀h':j < ns.length,ns[j]≠t.name)->jmy (strs ns) (sv [p]) (vi i) (sv t.name) (jH t.args) (sv []) []=some (tm (.mk (zH p ns t.name) []),[])) (n:=ns.length) ?_ ?_ 0 (ko _)) (λj h=>by omega)
  ·simp only [kU] at key;simp only [jd,e0,key]
  ·intro hall;have:zH p ns t.name=t.name:=by
    unfold zH;have:ns.findIdx? (λx=>decide (x=t.name))=none:=by
     rw [List.findIdx?_eq_none_iff];intro x hx;obtain ⟨j,hj,rfl⟩:=jkj.1 hx;simpa using hall j hj hj
    rw [this]
   rw [jzi,this];simp only [jd];rfl
  ·intro i hi ih' hall;have hlt:(i:Int) < ((ns.length:Nat):Int):=by omega
   have h5:=js hi (by show ns.length<=9223372036854775807;omega)
   have ld:kN (.elt (cs ns[i]) 0)=some (sv ns[i]):=rfl;rw [jzi];by_cases he:ns[i]=t.name
   ·have e1:=jiQ i (by omega);have e2:=jGL p i (by omega);have:zH p ns t.name=Kh p i:=by
     unfold zH;have:ns.findIdx? (λx=>decide (x=t.name))=some i:=by
      rw [jtS];exact ⟨hi,by simp [he],λj hj=>by simpa using hall j hj (by omega)⟩
     rw [this]
    rw [this];simp only [jd,hlt,ja hi,ld,he,e1,e2];rfl
   ·have ih':=ih' λj hj hj'=>by
     by_cases h:j=i
     ·subst h;exact he
     ·exact hall j (by omega) hj'
    simp only [jd,hlt,ja hi,ld,he,h5,ih']
theorem ZS {n:Nat} (h:n<=1000000):jA n 48=true:=by
 unfold jA;exact jQ ⟨by omega,by omega⟩
theorem Y7 {α:Type} {f:α->List A} {xs:List α} {i:Nat} (h:i < xs.length):jW ((xs.take i).map f) [f xs[i]]=(xs.take (i+1)).map f:=by
 rw [jho,kO h,zy];rfl
theorem take_len {α:Type} {f:α->List A} {xs:List α} {i:Nat} (h:i<=xs.length):((xs.take i).map f).length=i:=by rw [kj,Ky];omega
noncomputable def eqL (a b:Lt):Bool:=decide (a.1=b.1) && dq a.2 b.2
theorem jaC (a b:Lt):eqL a b=true↔a=b:=by
 obtain ⟨p,t⟩:=a;obtain ⟨q,u⟩:=b;unfold eqL;rw [jy,kM,qz,Jc]
theorem Y3 (a b:Lt) (ha:Tz a.2) (hb:Tz b.2):G 60 [ltm a,ltm b]=some (vb (eqL a b),[]):=by
 have e1:=ya a.2 ha.wf b.2 hb.wf;unfold eqL;rw [g60];by_cases h:a.1=b.1
 ·rw [jQ h,jR];simp only [jd,h,e1]
 ·rw [kA h,jK];simp only [jd,h]
theorem jbJ (l:Lt) (h:Tz l.2):G 221 [ltm l]=some (ltm l,[]):=by
 have e1:=JH l.2 h;rw [jLv];simp only [jd,e1];generalize hB:kX _ _ _=B;have hB':B=some (ltm l):=by rw [<-hB];kernel_rfl
 rw [hB'];simp only [jd]
noncomputable def cpG:Lt->List Lt->List Lt
 | _,[]=>[]
 | p,b::l=>if eqL b p then cpG b l else b::cpG b l
theorem jpi:∀(l:List Lt) (a:Lt),jeB eqL (a::l)=a::cpG a l
 | [],a=>rfl
 | b::l,a=>by
  rw [jeB,jpi l b,cpG];show (if eqL a b then b::cpG b l else a::b::cpG b l)=_;by_cases h:a=b
  ·subst h;rw [jg ((jaC a a).2 rfl),jg ((jaC a a).2 rfl)]
  ·rw [jf (λe=>h ((jaC a b).1 e)),jf (λe=>h ((jaC b a).1 e).symm)]
theorem jA7 {α:Type} {f:α->List A} {xs:List α} {i:Nat} (h:i < xs.length) (n:Nat):qc (xs.map f) i 0 n=some (.agg ((f xs[i]).take n)):=by unfold qc;simp [h]
theorem je9 {xs:List Lt} {i:Nat} (h:i < xs.length):qc (xs.map jG) i 0 3=some (ltm xs[i]):=jA7 h 3
theorem jAH {α:Type} {f:α->List A} {xs:List α} {i:Nat} (h:i < xs.length):Zf (jm (xs.map f)) (vi (i:Nat))=some i:=by
 rw [jjE,kj];exact zz h
theorem jiv {α:Type} {R s:List α} {k i:Nat} (h:R.drop k=s.drop k) (hk:k<=i) (hi:i < R.length) (hs:i < s.length):R[i]=s[i]:=by
 have:=congrArg (λl=>l[i - k]?) h;simp only [QQ,show k+(i - k)=i by omega,kO hi,kO hs] at this;exact jbf this
theorem jyj (s:List Lt) (hl:s.length<=1000000) (hz:∀x∈s,Tz x.2) (k:Nat) (hk:k < s.length):∀j,j<=s.length - k->1<=j-> ∀(w:Nat) (R:List Lt),R.length=s.length->R.drop (k+j - 1)=s.drop (k+j - 1)->w+1<=k+j-> ∀p:Lt,(∃h:k+j - 1 < s.length,s[k+j - 1]=p)->
  jbx (vi (w:Nat)) (nA k) (nA (s.length - k)) (vi (j:Nat)) (R.map jG)=some (.top,[.sl 3 ((R.take w++cpG p (s.drop (k+j))).map jG)]):=by
 refine upto ?_ ?_
 ·intro _ w R hR hag hw p hp;have hd:s.drop (k+(s.length - k)) = []:=joy (by omega);have hlt:¬((s.length - k:Nat):Int) < ((s.length - k:Nat):Int):=by omega
  have hlt':ju .lss false (vi ((s.length - k:Nat):Int)) (nA (s.length - k))=some (vb false):=by
   show some (vb (decide _))=_;rw [kA hlt]
  have b1:pB (yM (R.map jG)) (yi (R.map jG) 0) none=some R.length:=by
   rw [qX,show yi (R.map jG) 0=R.length by rw [Jh,kj];rfl];exact yg (kz _)
  have b2:pB 0 R.length (some (vi (w:Nat)))=some w:=Jq (by omega);have ln:(qj (R.map jG) (0+w) (Zw (kP R.length w) [vb false,sv [],.sl 2 []])).length=R.length:=by
   rw [jad];simp [Zw,qO];omega
  have b3:pB (yM (qj (R.map jG) (0+w) (Zw (kP R.length w) [vb false,sv [],.sl 2 []]))) (yi (qj (R.map jG) (0+w) (Zw (kP R.length w) [vb false,sv [],.sl 2 []])) 0) (some (vi (w:Nat)))=some w:=by
   rw [jn0,Jh,ln];exact Jq (by omega)
  have tk:List.take (kP w 0) (qj (R.map jG) (0+w) (Zw (kP R.length w) [vb false,sv [],.sl 2 []]))=(R.take w).map jG:=by
   rw [jad,qO,jak,yd,yv,ja2 (by rw [Ky,kj];omega),List.take_take,Nat.min_self,jfr]
  have h1:yk (nA (s.length - k))=s.length - k:=rfl;rw [jp0];simp only [cev];rw [hd,cpG,qv,h1,hlt'];simp only [yy,YT,Yt,b1,b2,b3,tk]
 ·intro j hj ih hj1 w R hR hag hw p hp;obtain ⟨hp1,hp2⟩:=hp;have hi:k+j < s.length:=by omega
  have hlt':ju .lss false (vi ((j:Nat):Int)) (nA (s.length - k))=some (vb true):=by
   show some (vb (decide (((j:Nat):Int) < ((s.length - k:Nat):Int))))=_;rw [jQ (by omega)]
  have h1:yk (nA (s.length - k))=s.length - k:=rfl;have h2:yk (nA k)=k:=rfl;have x1:Zf (s.length - k) (vi ((j:Nat):Int))=some j:=zz hj;have c1:ju .sub false (vi ((j:Nat):Int)) (vi 1)=some (vi ((j - 1:Nat):Int)):=by
   rw [jqu,show ((j:Nat):Int) - 1=((j - 1:Nat):Int) by omega];exact jE (by omega) (by omega)
  have x2:Zf (s.length - k) (vi ((j - 1:Nat):Int))=some (j - 1):=zz (by omega);have a1:R[k+j]'(by omega)=s[k+j]:=jiv hag (by omega) (by omega) hi;have a2:R[k+(j - 1)]'(by omega)=p:=by
   rw [<-hp2];have:=jiv hag (i:=k+(j - 1)) (by omega) (by omega) (by omega);rw [this];congr 1;omega
  have r1:qc (R.map jG) (k+j) 0 3=some (ltm s[k+j]):=by rw [je9 (by omega),a1]
  have r2:qc (R.map jG) (k+(j - 1)) 0 3=some (ltm p):=by rw [je9 (by omega),a2]
  have zp:Tz p.2:=by rw [<-hp2];exact hz _ (jC _)
  have e1:=Y3 s[k+j] p (hz _ (jC _)) zp;have h5:ju .add false (vi ((j:Nat):Int)) (vi 1)=some (vi ((j+1:Nat):Int)):=js (i:=j) (n:=j+1) (by omega) (by omega);have hdr:s.drop (k+j)=s[k+j]::s.drop (k+(j+1)):=ji hi;have hag':R.drop (k+(j+1) - 1)=s.drop (k+(j+1) - 1):=by
   have:=congrArg (List.drop 1) hag;rw [jrM,jrM] at this;rwa [show k+j - 1+1=k+(j+1) - 1 by omega] at this
  have hx:∃h:k+(j+1) - 1 < s.length,s[k+(j+1) - 1]=s[k+j]:=⟨by omega,by congr 1⟩;rw [jp0];simp only [cev];rw [hdr,cpG,h1,h2,hlt'];cases hq:eqL s[k+j] p<;>rw [hq] at e1
  ·rw [jf j7];have x3:Zf R.length (vi (w:Nat))=some w:=zz (by omega);have rg:jac (R.map jG) w=some (jG (R[w]'(by omega))):=by unfold jac;simp [show w < R.length by omega]
   have co:∀x y:Lt,yO (jG x) 0 [vb y.1,sv y.2.name,jH y.2.args]=jG y:=λx y=>rfl;have rs:qg (R.map jG) w (jG s[k+j])=(R.set w s[k+j]).map jG:=by unfold qg;rw [jct]
   have h6:ju .add false (vi ((w:Nat):Int)) (vi 1)=some (vi ((w+1:Nat):Int)):=js (i:=w) (n:=w+1) (by omega) (by omega);have:=ih (by omega) (w+1) (R.set w s[k+j]) (by rw [jkm];exact hR) (by rw [List.drop_set_of_lt (by omega)];exact hag') (by omega) s[k+j] hx;have tk:(R.set w s[k+j]).take (w+1)=R.take w++[s[k+j]]:=by
    rw [jho,List.take_set_of_le (kz _),List.getElem?_set_self (by omega)];rfl
   rw [tk,yv] at this;simp only [jd,x1,r1,c1,x2,r2,e1,x3,rg,co,rs,h6,h5];rw [this];rfl
  ·rw [jg rfl];have:=ih (by omega) w R hR hag' (by omega) s[k+j] hx;simp only [jd,x1,r1,c1,x2,r2,e1,h5];exact this
theorem jyi (s:List Lt) (hl:s.length<=1000000) (hz:∀x∈s,Tz x.2):∀k,k<=s.length->1<=k-> ∀p:Lt,(∃h:k - 1 < s.length,s[k - 1]=p)->jei (vi (k:Nat)) (s.map jG)=some (.top,[.sl 3 ((s.take k++cpG p (s.drop k)).map jG)]):=by
 refine upto ?_ ?_
 ·intro _ p _;rw [jpZ,kg,cpG,qv,jam];simp only [jd]
 ·intro k hk ih hk1 p hp;obtain ⟨hp1,hp2⟩:=hp;have hlt:((k:Nat):Int) < ((s.length:Nat):Int):=by omega
  have x1:Zf (jm (s.map jG)) (vi (k:Nat))=some k:=jAH hk;have c1:ck (((k:Nat):Int) - 1)=some (vi ((k - 1:Nat):Int)):=by
   rw [show ((k:Nat):Int) - 1=((k - 1:Nat):Int) by omega];exact jE (by omega) (by omega)
  have x2:Zf (jm (s.map jG)) (vi ((k - 1:Nat):Int))=some (k - 1):=jAH hp1;have r1:=je9 hk;have r2:qc (s.map jG) (k - 1) 0 3=some (ltm p):=by rw [je9 hp1,hp2]
  have zp:Tz p.2:=by rw [<-hp2];exact hz _ (jC _)
  have e1:=Y3 s[k] p (hz _ (jC _)) zp;have h5:=js hk (by show s.length<=9223372036854775807;omega);rw [jpZ,ji hk,cpG];rw [jjE,kj] at x1 x2;cases hq:eqL s[k] p<;>rw [hq] at e1
  ·have ih:=ih (by omega) s[k] ⟨by omega,by congr 1⟩;rw [jho,kO hk,yv] at ih;rw [jf j7];simp only [jd,hlt,x1,r1,c1,x2,r2,e1,h5];exact ih
  ·have b1:pB (yM (s.map jG)) (yi (s.map jG) 0) none=some s.length:=by
    rw [qX,show yi (s.map jG) 0=s.length by rw [Jh,kj];rfl];exact yg (kz _)
   have b2:pB 0 s.length (some (vi (k:Nat)))=some k:=Jq (by omega);have:=jyj s hl hz k hk 1 (by omega) (kz _) k s rfl rfl (kz _) s[k] ⟨by omega,rfl⟩;rw [jg rfl];simp only [jd,hlt,x1,r1,c1,x2,r2,e1,b1,b2,qO];exact this
theorem jsD (s:List Lt) (hl:s.length<=1000000) (hz:∀x∈s,Tz x.2):jr8 (s.map jG)=some (.top,[.sl 3 ((jeB eqL s).map jG)]):=by
 rw [jGb]
 match s,hl,hz with
 | [],_,_=>simp only [jd];rfl
 | [a],_,_=>simp only [jd];rfl
 | a::b::r,hl,hz=>
  have:=jyi (a::b::r) hl hz 1 (by simp) (kz _) a ⟨by simp,rfl⟩;rw [jpi];have hlt:¬(((a::b::r).length:Nat):Int) < 2:=by simp only [zk];omega
  generalize hx:a::b::r=x at *;simp only [jd,hlt];rw [<-hx] at this ⊢;exact this
theorem jxc (l:List Lt) (hl:l.length<=1000000) (hk:∀x∈l,Rx' x.2) (hz:∀x∈l,Tz x.2):∃s:List Lt,s.Perm l/\s.Pairwise (λa b=>¬cmpL b a < 0)/\jr7 (l.map jG)=some (.top,[.sl 3 (s.map jG)]):=by
 obtain ⟨s,h1,h2,h3⟩:=jpp JG id jG 3 110 rfl l (by omega) λx hx y hy=>YI x y (hk x hx) (hz x hx) (hk y hy) (hz y hy);exact ⟨s,h1,h2,by rw [jGa];exact h3⟩
theorem jgE (l:List Lt) (hl:l.length<=1000000) (hk:∀x∈l,Rx' x.2) (hz:∀x∈l,Tz x.2):G 182 [.sl 3 (l.map jG)]=some (cm (yL cmpL l),[]):=by
 obtain ⟨s,h1,h2,h3⟩:=jxc l hl hk hz;have h4:=jsD s (by rw [h1.length_eq];exact hl) λx hx=>hz x (h1.mem_iff.1 hx);rw [jDv JG jaC h2 λx=>h1.mem_iff] at h4;have key:=upto (P:=λi=>jmK (.sl 3 (l.map jG)) (vi (l.length:Nat)) (vi (i:Nat)) [] ((l.take i).map jG)=some (cm (yL cmpL l),[])) (n:=l.length) ?_ ?_ 0 (ko _)
 ·simp only [kU,jal,ql] at key;rw [jK2];simp only [jd,key]
 ·have r1:∀s:List Lt,hR 3 (A.top,[.sl 3 (s.map jG)]) 0=some (s.map jG):=λs=>rfl;rw [jzG,jam];simp only [jd,h3,r1,h4]
 ·intro i hi ih;have hlt:(i:Int) < ((l.length:Nat):Int):=by omega
  have h5:=js hi (by show l.length<=9223372036854775807;omega)
  have e1:=jbJ l[i] (hz _ (jC _));have ta:=Y7 (f:=jG) hi;have tl:=take_len (f:=jG) (Qc hi);have hf:jA (i+1) 48=true:=ZS (by omega);generalize (l.take i).map jG=R at *;rw [jzG];simp only [jd,hlt,ja hi,zs,e1,tl,hf,ta,h5,ih]
theorem jkw (l:kh) (hl:l.length<=1000000) (hz:∀x∈l,Tz x.2):G 183 [cm l]=some (cm l,[]):=by
 have key:=upto (P:=λi=>jmL (.sl 3 (l.map jG)) (vi (l.length:Nat)) (vi (i:Nat)) [] ((l.take i).map jG)=some (cm l,[])) (n:=l.length) ?_ ?_ 0 (ko _)
 ·simp only [kU,jal,ql] at key;rw [jK3];simp only [jd,key]
 ·rw [jzH,jam];simp only [jd]
 ·intro i hi ih;have hlt:(i:Int) < ((l.length:Nat):Int):=by omega
  have h5:=js hi (by show l.length<=9223372036854775807;omega)
  have e1:=jbJ l[i] (hz _ (jC _));have ta:=Y7 (f:=jG) hi;have tl:=take_len (f:=jG) (Qc hi);have hf:jA (i+1) 48=true:=ZS (by omega);generalize (l.take i).map jG=R at *;rw [jzH];simp only [jd,hlt,ja hi,zs,e1,tl,hf,ta,h5,ih]
theorem jpD (c:kh) (hl:c.length<=1048576) (hz:∀l∈c,Tz l.2):G 181 [cm c]=Jz (if y8 c then some c else none):=by
 have e1:=Q2 c hl hz;rw [jK1];cases hv:y8 c<;>rw [hv] at e1
 ·rw [jf j7];simp only [jd,e1];rfl
 ·rw [jg rfl];simp only [jd,e1];rfl
noncomputable def sameC (a b:kh):Bool:=dq a b
theorem jyE (a b:Lt):dq a b=eqL a b:=by
 cases h:eqL a b with
 | true=>exact qz.2 ((jaC a b).1 h)
 | false=>exact jiu.2 λe=>by rw [(jaC a b).2 e] at h;cases h
theorem jdq (a b:kh) (hl:a.length<=1048576) (ha:∀l∈a,Tz l.2) (hb:∀l∈b,Tz l.2):G 30 [cm a,cm b]=some (vb (dq a b),[]):=by
 rw [g30];have key:G 59 [.sl 3 (a.map jG),.sl 3 (b.map jG),.fn 60 []]=some (vb (dq a b),[]):=by
  rw [g59];by_cases hlen:a.length=b.length
  ·have key:=upto (P:=λi=>juf (.sl 3 (b.map jG)) (.fn 60 []) (.sl 3 (a.map jG)) (vi (a.length:Nat)) (vi (i:Nat))=some (vb (dq (a.drop i) (b.drop i)),[])) (n:=a.length) ?_ ?_ 0 (ko _)
   ·simp only [kU,kD] at key;rw [hlen] at key;simp only [jd,hlen,key]
   ·rw [jEV,kg,joy (by omega),jcO];simp only [jd]
   ·intro i hi ih;have hi2:i < b.length:=by omega
    have hlt:(i:Int) < ((a.length:Nat):Int):=by omega
    have h5:=js hi (by show a.length<=9223372036854775807;omega)
    have e1:=Y3 a[i] b[i] (ha _ (jC _)) (hb _ (jC _));have hp:K.pureF 60=true:=rfl;have cc:DX.run K (MM K) (.callc (.fn 60 []) [ltm a[i],ltm b[i]] false)=some (vb (eqL a[i] b[i])):=by
     rw [qP hp,qv,e1];rfl
    rw [jEV,ji hi,ji hi2,jhv,jyE];cases hq:eqL a[i] b[i]<;>rw [hq] at cc
    ·rw [jK];simp only [jd,hlt,ja hi,ja hi2,zs,cc]
    ·rw [jR];simp only [jd,hlt,ja hi,ja hi2,zs,cc,h5,ih]
  ·have hne:¬((a.length:Nat):Int)=((b.length:Nat):Int):=by omega
   rw [jnj hlen];simp only [jd,hne]
 simp only [jd,key]
theorem jfW (a b:kh) (hl:a.length<=1048576) (ha:∀l∈a,Tz l.2) (hb:∀l∈b,Tz l.2):G 83 [cm a,cm b]=some (vb (dq a b),[]):=by
 rw [g83];by_cases hlen:a.length=b.length
 ·have key:=upto (P:=λi=>juq (vi (i:Nat)) (.sl 3 (a.map jG)) (.sl 3 (b.map jG))=some (vb (dq (a.drop i) (b.drop i)),[])) (n:=a.length) ?_ ?_ 0 (ko _)
  ·simp only [kU,kD] at key;simp only [jd,hlen,key]
  ·rw [jE8,kg,joy (by omega),jcO];simp only [jd]
  ·intro i hi ih;have hi2:i < b.length:=by omega
   have hlt:(i:Int) < ((a.length:Nat):Int):=by omega
   have h5:=js hi (by show a.length<=9223372036854775807;omega)
   have e1:=Jx a[i].2 (ha _ (jC _)).wf b[i].2 (hb _ (jC _)).wf;have ld:∀l:Lt,kN (.elt (jG l) 0)=some (vb l.1):=λl=>rfl;have ad:∀(l:Lt) (n:Nat),qi (.elt (jG l) 0) n=some (.elt (jG l) n):=λl n=>by rw [qV,yd]
   have ld2:∀l:Lt,ky 2 (.elt (jG l) 1)=some (tm l.2):=λl=>rfl;rw [jE8,ji hi,ji hi2,jhv,jyE,eqL];by_cases hs:a[i].1=b[i].1
   ·rw [jQ hs,jR];cases hq:dq a[i].2 b[i].2<;>rw [hq] at e1
    ·rw [jK];simp only [jd,hlt,ja hi,ja hi2,ad,ld,ld2,hs,e1]
    ·rw [jR];simp only [jd,hlt,ja hi,ja hi2,ad,ld,ld2,hs,e1,h5,ih]
   ·rw [kA hs,jK,jK];simp only [jd,hlt,ja hi,ja hi2,ad,ld,hs]
 ·have hne:¬((a.length:Nat):Int)=((b.length:Nat):Int):=by omega
  rw [jnj hlen];simp only [jd,hne]
theorem jvG {α:Type} {p:α->Bool} {l:List α} {k:Nat} (hk:k<=l.length) (h1:∀j,(h:j < k)-> ∀h':j < l.length,p l[j]=true) (h2:(∃h:k < l.length,p l[k]=false)\/k=l.length):l.takeWhile p=l.take k/\l.dropWhile p=l.drop k:=by
 have hp:∀a∈l.take k,p a=true:=λa ha=>by
  obtain ⟨j,hj,rfl⟩:=jkj.1 ha;rw [Ky] at hj;rw [List.getElem_take];exact h1 j (by omega) (by omega)
 have e:=List.takeWhile_append_of_pos (l₂:=l.drop k) hp;have e':=List.dropWhile_append_of_pos (l₂:=l.drop k) hp;rw [jmf] at e e';rw [e,e'];rcases h2 with ⟨h,h2⟩|h
 ·rw [ji h,jrK (by simp [h2]),jvR (by simp [h2]),qv];exact ⟨rfl,rfl⟩
 ·rw [h,kg];simp
theorem jhy (u:List Lt) (hl:u.length<=900000) (i:Nat) (hi:i<=u.length) (x:Lt) :
  pB (yM (u.map jG)) (yi (u.map jG) 0) (some (vi (i:Nat)))=some i/\yW (u.map jG) 0 (kP i 0)=(u.take i).map jG/\jA (u.take i).length 48=true/\pB (yM (u.map jG)) (yi (u.map jG) 0) none=some u.length/\pB 0 u.length (some (vi (i:Nat)))=some i/\yW (u.map jG) i (kP u.length i)=(u.drop i).map jG/\
  jA ((u.take i).length+1) 48=true/\jA ((jW ((u.take i).map jG) [jG x]).length+((u.drop i).map jG).length) 48=true/\jW (jW ((u.take i).map jG) [jG x]) ((u.drop i).map jG)=(u.take i++x::u.drop i).map jG:=by
 have e1:yM (u.map jG)=u.length:=qX jG u;have e2:yi (u.map jG) 0=u.length:=by rw [Jh,kj];rfl
 refine ⟨by rw [e1,e2];exact Jq hi,by rw [je3,qO,jak,kD,jfr],?_,by rw [e1,e2];exact yg (kz _),Jq hi,?_,?_,?_,?_⟩
 ·rw [Ky];exact ZS (by omega)
 ·rw [je3,qO,<-jcA,Zd (by rw [kj,qu];omega)]
 ·rw [Ky];exact ZS (by omega)
 ·exact ZS (by unfold jW;rw [zh,kj,kj,Ky,qu];simp only [zk,yw];omega)
 ·unfold jW;rw [zy,yv];rfl
theorem jp9 (l:List Lt) (hl:l.length<=1000) (hz:∀x∈l,Tz x.2) (i:Nat) (hi:i < l.length) (u:List Lt) (hu:u.length<=1000) (hzu:∀x∈u,Tz x.2):∀k,k<=u.length->(∀j,(h:j < k)-> ∀h':j < u.length,cmpL u[j] l[i] < 0)->
  juj (.sl 3 (l.map jG)) (vi (i:Nat)) (vi (k:Nat)) (u.map jG) []=jkQ (.sl 3 (l.map jG)) (vi ((i+1:Nat):Int)) ((Z2 cmpL u l[i]).map jG) []:=by
 have h5:=js hi (by show l.length<=9223372036854775807;omega)
 have ld:∀l:Lt,kN (.elt (jG l) 0)=some (vb l.1):=λl=>rfl;have ad:∀(l:Lt) (n:Nat),qi (.elt (jG l) 0) n=some (.elt (jG l) n):=λl n=>by rw [qV,yd]
 have ld2:∀l:Lt,ky 2 (.elt (jG l) 1)=some (tm l.2):=λl=>rfl;have e2:=Z5 l[i].2 (hz _ (jC _));have hck:ck ((i:Int)+1)=some (vi ((i+1:Nat):Int)):=jE (by omega) (by omega);refine upto ?_ ?_
 ·intro hall;obtain ⟨t1,t2⟩:=jvG (p:=λa=>decide (cmpL a l[i] < 0)) (kz u.length) (λj h h'=>jQ (hall j h h')) (Or.inr rfl);obtain ⟨k1,k2,k3,k4,k5,k6,k7,k8,k9⟩:=jhy u (by omega) u.length (kz _) l[i];have hins:Z2 cmpL u l[i]=u.take u.length++l[i]::u.drop u.length:=by
   unfold Z2;rw [t1,t2,kg,jf (by simp)]
  rw [hins,jE1];simp only [cev];have hlt:ju .lss false (vi (u.length:Nat)) (zU (u.map jG))=some (vb false):=by
   rw [KZ,kj,jeZ,kA (by omega)]
  simp only [hlt,yy,jqz,jAG,Zi,K6,decide_false,decide_true,jju,YT,Yt,jex,ja hi,ad,ld,ld2,jpq];simp only [jd,hlt,ja hi,ad,ld,ld2,e2];generalize hB:kX _ _ _=B;have hB':B=some (ltm l[i]):=by rw [<-hB];kernel_rfl
  rw [hB'];simp only [jd,k1,k2,k4,k5];rw [jg k3,jg k7,k6,jg k8,hck,yy,k9]
 ·intro k hk ih hall;have hlt:((k:Nat):Int) < ((u.length:Nat):Int):=by omega
  have x1:Zf u.length (vi (k:Nat))=some k:=zz hk;have r1:=je9 hk;have e1:=QG u[k] l[i] (hzu _ (jC _)) (hz _ (jC _));rw [jE1];by_cases hc:cmpL u[k] l[i] < 0
  ·have ih:=ih λj h h'=>by
    by_cases hj:j=k
    ·subst hj;exact hc
    ·exact hall j (by omega) h'
   have hk1:ck ((k:Int)+1)=some (vi ((k+1:Nat):Int)):=jE (by omega) (by omega);generalize cmpL u[k] l[i]=d at *;simp only [jd,hlt,x1,r1,ja hi,zs,e1,hc,hk1];exact ih
  ·obtain ⟨t1,t2⟩:=jvG (p:=λa=>decide (cmpL a l[i] < 0)) (Qc hk) (λj h h'=>jQ (hall j h h')) (Or.inl ⟨hk,kA hc⟩);have hins:Z2 cmpL u l[i]=if cmpL u[k] l[i]=0 then u else u.take k++l[i]::u.drop k:=by
    unfold Z2;rw [t1,t2,ji hk];by_cases h0:cmpL u[k] l[i]=0
    ·rw [jg h0];exact jg (jQ h0)
    ·rw [jf h0];exact jf (λe=>h0 (jg9 e))
   rw [hins];by_cases h0:cmpL u[k] l[i]=0
   ·rw [jg h0];rw [h0] at e1;simp only [jd,hlt,x1,r1,ja hi,zs,e1,hck]
   ·obtain ⟨k1,k2,k3,k4,k5,k6,k7,k8,k9⟩:=jhy u (by omega) k (Qc hk) l[i];rw [jf h0];generalize cmpL u[k] l[i]=d at *;simp only [jd,hlt,x1,r1,ja hi,zs,e1,hc,h0,ad,ld,ld2,e2];generalize hB:kX _ _ _=B;have hB':B=some (ltm l[i]):=by rw [<-hB];kernel_rfl
    rw [hB'];simp only [jd,k1,k2,k4,k5];rw [jg k3,jg k7,k6,jg k8,hck,yy,k9]
theorem jpF {u:List Lt} (hu:Asc cmpL u) (x:Lt) {y:Lt} :y∈Z2 cmpL u x↔y∈u\/y=x:=(jeR JG hu x).2 y
theorem Q4 (l:List Lt) (hl:l.length<=900) (hz:∀x∈l,Tz x.2):G 64 [.sl 3 (l.map jG)]=some (cm (yL cmpL l),[]):=by
 have key:=upto (P:=λi=>∀u:List Lt,Asc cmpL u->u.length<=i->(∀x∈u,Tz x.2)->jkQ (.sl 3 (l.map jG)) (vi (i:Nat)) (u.map jG) []=some (cm ((l.drop i).foldl (Z2 cmpL) u),[])) (n:=l.length) ?_ ?_ 0 (ko _) [] List.Pairwise.nil (kz _) (λx h=>by cases h)
 ·rw [kD] at key;simp only [kU,ql] at key;rw [g64,key];rfl
 ·intro u _ _ _;rw [jE0,kg];simp only [jd];rfl
 ·intro i hi ih u ha hu hzu;have hlt:(i:Int) < ((l.length:Nat):Int):=by omega
  have:=jp9 l (by omega) hz i hi u (by omega) hzu 0 (ko _) (λj h=>absurd h (Nat.not_lt_zero _));simp only [kU] at this;have h2:=ih (Z2 cmpL u l[i]) (jeR JG ha l[i]).1 (by have:=jiD cmpL u l[i];omega) λx hx=>by
   rcases (jpF ha l[i]).1 hx with h|h
   ·exact hzu x h
   ·rw [h];exact hz _ (jC _)
  rw [jE0,ji hi,Km];simp only [jd,hlt,this,h2]
theorem CN.ren_tz {p:UInt8} (hp:upc p=true) {c:kh} (h:CN c):∀x∈c.map (λl=>(l.1,zx (zH p (zt c)) l.2)),Rx' x.2/\Tz x.2:=λx hx=>⟨(h.ren hp x hx).1.rx,(h.ren hp x hx).1.tz (by have:=(h.ren hp x hx).2;omega)⟩
theorem jdn (p:UInt8) (c:kh) (h:CN c) (ns:List (List UInt8)) (hn:∀n∈ns,jp n=true) (hr:∀x∈c.map (λl=>(l.1,zx (zH p ns) l.2)),Rx' x.2/\Tz x.2):G 163 [cm c,.mp ((Zh p 0 ns).map kn)]=some (cm (yL cmpL (c.map λl=>(l.1,zx (zH p ns) l.2))),[]):=by
 have h8:=h.1;have e3:=jgE (c.map λl=>(l.1,zx (zH p ns) l.2)) (by rw [kj];omega) (λx hx=>(hr x hx).1) λx hx=>(hr x hx).2;generalize hd:c.map (λl=>(l.1,zx (zH p ns) l.2))=d at *;have hdl:d.length=c.length:=by rw [<-hd,kj]
 have key:=upto (P:=λi=>jmF (.mp ((Zh p 0 ns).map kn)) (.sl 3 (c.map jG)) (vi (c.length:Nat)) (vi (i:Nat)) ((d.take i).map jG) []=some (cm (yL cmpL d),[])) (n:=c.length) ?_ ?_ 0 (ko _)
 ·simp only [kU,jal,ql] at key;rw [jKS];simp only [jd,key]
 ·rw [jzz,<-hdl,jam];simp only [jd,e3]
 ·intro i hi ih;have hi2:i < d.length:=by omega
  have hlt:(i:Int) < ((c.length:Nat):Int):=by omega
  have h5:=js hi (by show c.length<=9223372036854775807;omega)
  have e1:=jqX p ns hn c[i].2 (h.rx _ (jC _)) (h.tz _ (jC _));have hdi:d[i]=(c[i].1,zx (zH p ns) c[i].2):=by simp only [<-hd,jcs]
  have ta:=Y7 (f:=jG) hi2;have tl:=take_len (f:=jG) (Qc hi2);have hf:jA (i+1) 48=true:=ZS (by omega);rw [hdi] at ta;generalize (d.take i).map jG=R at *;generalize zx (zH p ns) c[i].2=u at *;rw [jzz];simp only [jd,hlt,ja hi,zs,e1];generalize hB:kX _ _ _=B;have hB':B=some (ltm (c[i].1,u)):=by rw [<-hB];kernel_rfl
  rw [hB'];have hck:ck ((i:Int)+1)=some (vi ((i+1:Nat):Int)):=jE (by omega) (by omega);simp only [jd,tl,hf,ta,hck,ih]
theorem jnJ (p:UInt8) (c:kh) (h:CN c) (ns:List (List UInt8)) (hl:ns.length<=1000) (hr:∀x∈c.map (λl=>(l.1,zx (zH p ns) l.2)),Rx' x.2/\Tz x.2):G 94 [cm c,strs ns,sv [p]]=some (cm (yL cmpL (c.map λl=>(l.1,zx (zH p ns) l.2))),[]):=by
 have h8:=h.1;have e3:=Q4 (c.map λl=>(l.1,zx (zH p ns) l.2)) (by rw [kj];omega) (λx hx=>(hr x hx).2);generalize hd:c.map (λl=>(l.1,zx (zH p ns) l.2))=d at *;have hdl:d.length=c.length:=by rw [<-hd,kj]
 have key:=upto (P:=λi=>jus (strs ns) (sv [p]) (vi (i:Nat)) (.sl 3 (c.map jG)) ((d.take i).map jG) []=some (cm (yL cmpL d),[])) (n:=c.length) ?_ ?_ 0 (ko _)
 ·simp only [kU,jal,ql] at key;rw [g94];simp only [jd,key]
 ·rw [jFa,<-hdl,jam];have hlt:¬((d.length:Nat):Int) < ((c.length:Nat):Int):=by omega
  simp only [jd,hlt,e3]
 ·intro i hi ih;have hi2:i < d.length:=by omega
  have hlt:(i:Int) < ((c.length:Nat):Int):=by omega
  have h5:=js hi (by show c.length<=9223372036854775807;omega)
  have e1:=jp5 p ns hl c[i].2 (h.tz _ (jC _));have hdi:d[i]=(c[i].1,zx (zH p ns) c[i].2):=by simp only [<-hd,jcs]
  have ta:=Y7 (f:=jG) hi2;have tl:=take_len (f:=jG) (Qc hi2);have hf:jA (i+1) 48=true:=ZS (by omega);have ld:∀l:Lt,kN (.elt (jG l) 0)=some (vb l.1):=λl=>rfl;have ad:∀(l:Lt) (n:Nat),qi (.elt (jG l) 0) n=some (.elt (jG l) n):=λl n=>by rw [qV,yd]
  have ld2:∀l:Lt,ky 2 (.elt (jG l) 1)=some (tm l.2):=λl=>rfl;rw [hdi] at ta;generalize (d.take i).map jG=R at *;generalize zx (zH p ns) c[i].2=u at *;rw [jFa];simp only [jd,hlt,ja hi,ad,ld,ld2,e1];generalize hB:kX _ _ _=B;have hB':B=some (ltm (c[i].1,u)):=by rw [<-hB];kernel_rfl
  rw [hB'];have hck:ck ((i:Int)+1)=some (vi ((i+1:Nat):Int)):=jE (by omega) (by omega);simp only [jd,tl,hf,ta,hck,ih]
theorem jgc (p:UInt8) (hp:upc p=true) (c:kh) (h:CN c):G 163 [cm c,.mp ((Zh p 0 (zt c)).map kn)]=some (cm (renC p c),[]):=jdn p c h (zt c) (λn=>jdO) (h.ren_tz hp)
theorem jgO (p:UInt8) (hp:upc p=true) (c:kh) (h:CN c):G 94 [cm c,strs (zt c),sv [p]]=some (cm (renC p c),[]):=jnJ p c h (zt c) (by have:=JJ h;omega) (h.ren_tz hp)
theorem jlq (c:kh) (h:CN c):G 111 [cm c]=some (strs (zt c),[]):=jjd c (by have:=h.1;omega) h.rx h.tz λl hl=>by have:=(h.2 l hl).2;omega
theorem jlr (c:kh) (h:CN c):G 95 [cm c]=some (strs (zt c),[]):=jiX c (by have:=h.1;omega) h.tz λl hl=>by have:=(h.2 l hl).2;omega
theorem jjh:∀(k i:Nat),k+i=10-> ∀c:kh,CN c->jmw (vi (i:Nat)) (.sl 3 (c.map jG)) []=some (cm (normF k c),[])
 | 0,i,hk,c,h=>by
  have hi:((i:Nat):Int)=10:=by omega
  rw [jzg,normF,hi];simp only [jd]
 | k+1,i,hk,c,h=>by
  have hlt:((i:Nat):Int) < 10:=by omega
  have e1:=ja8 c h;rw [jzg,normF];cases hn:KT c<;>rw [hn] at e1
  ·have hl:=JJ h;have e2:=jlq c h;have e3:=jqY 88 (zt c) (jaK c) (by omega);have e4:=jgc 88 (by decide) c h;have hck:ck ((i:Int)+1)=some (vi ((i+1:Nat):Int)):=jE (by omega) (by omega);have ih:=jjh k (i+1) (by omega) (renC 88 c) (h.renC (by decide));rw [jf j7];simp only [jd,hlt,e1,e2,e3,e4,hck,ih]
  ·rw [jg rfl];simp only [jd,hlt,e1]
theorem jnQ (c:kh) (h:CN c):G 133 [cm c]=some (cm (normC c),[]):=by
 have e1:=jkw c (by have:=h.1;omega) h.tz
 have e2:=jjh 10 0 rfl c h;simp only [kU] at e2;rw [jKw];simp only [jd,e1,e2];rfl
theorem jji:∀(k i:Nat),k+i=10-> ∀c:kh,CN c->jui (vi (i:Nat)) (.sl 3 (c.map jG)) []=some (.tup [cm (normF k c),vb (y8 (normF k c))],[])
 | 0,i,hk,c,h=>by
  have hi:((i:Nat):Int)=10:=by omega
  have e0:=Q3 c (by have:=h.1;omega) h.tz
  rw [jEZ,normF,hi];simp only [jd,e0]
 | k+1,i,hk,c,h=>by
  have hlt:((i:Nat):Int) < 10:=by omega
  have e0:=Q3 c (by have:=h.1;omega) h.tz
  have e1:=QF c h;rw [jEZ,normF];cases hn:KT c<;>rw [hn] at e1
  ·have e2:=jlr c h;have e4:=jgO 88 (by decide) c h;have hck:ck ((i:Int)+1)=some (vi ((i+1:Nat):Int)):=jE (by omega) (by omega);have ih:=jji k (i+1) (by omega) (renC 88 c) (h.renC (by decide));rw [jf j7];simp only [jd,hlt,e1,e2,e4,hck,ih]
  ·rw [jg rfl];simp only [jd,hlt,e1,e0]
theorem jgN (c:kh) (h:CN c) (ha:Asc cmpL c):G 63 [cm c]=some (.tup [cm (normC c),vb (y8 (normC c))],[]):=by
 have e1:=Q4 c (by have:=h.1;omega) h.tz
 rw [jqe ha] at e1;have e2:=jji 10 0 rfl c h;simp only [kU] at e2;rw [g63];simp only [jd,e1,e2];rfl
end Go.Proofs.YtbgikpffkgjecaaGreatDoor
