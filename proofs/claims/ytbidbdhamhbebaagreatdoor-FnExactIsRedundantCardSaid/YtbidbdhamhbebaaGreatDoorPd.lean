/- Pd -/
import Derived.Test.YtbidbdhamhbebaaGreatDoorPb
namespace Go.Proofs.YtbidbdhamhbebaaGreatDoor
open Go Go.RowKit Go.Proofs.YtbidbdhamhbebaaGreatDoor.Abs
set_option linter.unusedSimpArgs false
set_option linter.unusedVariables false
set_option maxHeartbeats 1000000
def Rx' (t:T):Prop:=yv t=true\/(t.name = [61]/\ ∀u∈t.args,yv u=true)
theorem Rx'.args {t:T} (h:Rx' t):∀u∈t.args,Rx' u:=λu hu=>Or.inl (by
 rcases h with h|h
 .exact zK h u hu
 .exact h.2 u hu)
theorem jfQ (ts us:List T) (hl:ts.length<=1048576) (hlen:ts.length=us.length) (ih:∀t∈ts,∀u∈us,G 96 [tm t,tm u]=some (vi (y9 t u),[])) :
  ∀i,i<=ts.length->jmm (jQ ts) (jQ us) (.fn 96 []) (jQ ts) (vi (ts.length:Nat)) (vi (i:Nat))=some (vi (yg (ts.drop i) (us.drop i)),[]):=by
 refine upto ?_ ?_
 .rw [jyt,j4,yg];simp only [je,hlen]
 .intro i hi ih';have hlt:(i:Int) < ((ts.length:Nat):Int):=by omega
  have hi2:i < us.length:=by omega
  have hge:¬((us.length:Nat):Int)<=(i:Int):=by omega
  have h5:=jq hi (by show ts.length<=9223372036854775807;omega)
  have e1:=ih ts[i] (jr _) us[i] (jr _);rw [jyt,ji hi,ji hi2,yg];by_cases hc:y9 ts[i] us[i]=0
  .rw [jo (λh=>h hc)];rw [hc] at e1;simp only [je,hlt,jb hi,jb hi2,jf,hge,qt (f:=96) rfl,y8,e1,h5,ih']
  .rw [jl hc];generalize y9 ts[i] us[i]=c at *;simp only [je,hlt,jb hi,jb hi2,jf,hge,qt (f:=96) rfl,y8,e1,hc]
theorem jhg:∀a:T,Rx' a->Tz a-> ∀b:T,Rx' b->Tz b->G 96 [tm a,tm b]=some (vi (y9 a b),[]):=by
 refine T.ind λa ih ha za b hb zb=> ?_;have va:=yJ a (ha.imp id λh=>h.1);have vb':=yJ b (hb.imp id λh=>h.1);have hz:=za;unfold Tz at hz;rw [kW] at hz;have e1:=jbT a.name b.name;have e2:=jgI a.args.length b.args.length;have e3:=jzT (zI a.name b.name) (zJ a.args.length b.args.length);have e4:a.args.length=b.args.length->G 125 [jQ a.args,jQ b.args,.fn 96 []]=some (vi (yg a.args b.args),[]):=λhlen=>by
  have key:=jfQ a.args b.args (by omega) hlen (λt ht u hu=>ih t ht (ha.args t ht) (za.args t ht) u (hb.args u hu) (zb.args u hu)) 0 (jE _);simp only [jP,kj] at key;rw [jIF];simp only [je,key]
 rw [g96,Yj];unfold cK yS vF;cases h1:jp a.name<;>cases h2:jp b.name<;>rw [h1] at va<;>rw [h2] at vb'
 .show _=some (vi (if (if zJ 1 1≠0 then zJ 1 1 else if zI a.name b.name≠0 then zI a.name b.name else zJ a.args.length b.args.length)≠0 then (if zJ 1 1≠0 then zJ 1 1 else if zI a.name b.name≠0 then zI a.name b.name else zJ a.args.length b.args.length) else yg a.args b.args),[]);rw [jo (show ¬zJ 1 1≠0 by decide)];by_cases hz0:(if zI a.name b.name≠0 then zI a.name b.name else zJ a.args.length b.args.length)=0
  .have hlen:a.args.length=b.args.length:=by
    split at hz0
    .rename_i h;exact absurd hz0 h
    .exact (jbR.zero _ _).1 hz0
   rw [jo (λh=>h hz0)];rw [hz0] at e3;simp only [je,va,vb',e1,e2,e3,e4 hlen]
  .rw [jl hz0];generalize (if zI a.name b.name≠0 then zI a.name b.name else zJ a.args.length b.args.length)=c at *;simp only [je,va,vb',e1,e2,e3,hz0]
 .have:(if (if zJ 1 0≠0 then zJ 1 0 else if zI a.name b.name≠0 then zI a.name b.name else zJ a.args.length b.args.length)≠0 then (if zJ 1 0≠0 then zJ 1 0 else if zI a.name b.name≠0 then zI a.name b.name else zJ a.args.length b.args.length) else yg a.args b.args)=1:=by
   rw [jl (show zJ 1 0≠0 by decide),jl (show zJ 1 0≠0 by decide)];rfl
  show _=some (vi (if (if zJ 1 0≠0 then zJ 1 0 else if zI a.name b.name≠0 then zI a.name b.name else zJ a.args.length b.args.length)≠0 then (if zJ 1 0≠0 then zJ 1 0 else if zI a.name b.name≠0 then zI a.name b.name else zJ a.args.length b.args.length) else yg a.args b.args),[]);rw [this];simp only [je,va,vb']
 .have:(if (if zJ 0 1≠0 then zJ 0 1 else if zI a.name b.name≠0 then zI a.name b.name else zJ a.args.length b.args.length)≠0 then (if zJ 0 1≠0 then zJ 0 1 else if zI a.name b.name≠0 then zI a.name b.name else zJ a.args.length b.args.length) else yg a.args b.args) = -1:=by
   rw [jl (show zJ 0 1≠0 by decide),jl (show zJ 0 1≠0 by decide)];rfl
  show _=some (vi (if (if zJ 0 1≠0 then zJ 0 1 else if zI a.name b.name≠0 then zI a.name b.name else zJ a.args.length b.args.length)≠0 then (if zJ 0 1≠0 then zJ 0 1 else if zI a.name b.name≠0 then zI a.name b.name else zJ a.args.length b.args.length) else yg a.args b.args),[]);rw [this];simp only [je,va,vb']
 .show _=some (vi (if (if zJ 0 0≠0 then zJ 0 0 else if zI a.name b.name≠0 then zI a.name b.name else zJ a.args.length b.args.length)≠0 then (if zJ 0 0≠0 then zJ 0 0 else if zI a.name b.name≠0 then zI a.name b.name else zJ a.args.length b.args.length) else yg a.args b.args),[]);rw [jo (show ¬zJ 0 0≠0 by decide)];by_cases hz0:(if zI a.name b.name≠0 then zI a.name b.name else zJ a.args.length b.args.length)=0
  .have hlen:a.args.length=b.args.length:=by
    split at hz0
    .rename_i h;exact absurd hz0 h
    .exact (jbR.zero _ _).1 hz0
   rw [jo (λh=>h hz0)];rw [hz0] at e3;simp only [je,va,vb',e1,e2,e3,e4 hlen]
  .rw [jl hz0];generalize (if zI a.name b.name≠0 then zI a.name b.name else zJ a.args.length b.args.length)=c at *;simp only [je,va,vb',e1,e2,e3,hz0]
theorem jvC (x y:List UInt8):G 111 [sv x,sv y]=some (vi (zI x y),[]):=by
 rw [jIu,jaE];cases h1:yQ x y<;>cases h2:yQ y x<;>simp only [je,jf2,h1,h2]
theorem jiT (n m:List UInt8) (ts us:List T) (hl:ts.length<=1048576) (hlen:ts.length=us.length) (ih:∀t∈ts,∀u∈us,G 87 [tm t,tm u]=some (vi (y9 t u),[])) :
  ∀i,i<=ts.length->joS (vi (i:Nat)) (sv n) (jQ ts) (sv m) (jQ us)=some (vi (yg (ts.drop i) (us.drop i)),[]):=by
 refine upto ?_ ?_
 .rw [jDW,j4,yg];simp only [je]
 .intro i hi ih';have hlt:(i:Int) < ((ts.length:Nat):Int):=by omega
  have hi2:i < us.length:=by omega
  have h5:=jq hi (by show ts.length<=9223372036854775807;omega)
  have e1:=ih ts[i] (jr _) us[i] (jr _);rw [jDW,ji hi,ji hi2,yg];by_cases hc:y9 ts[i] us[i]=0
  .rw [jo (λh=>h hc)];rw [hc] at e1;simp only [je,hlt,jb hi,jb hi2,jf,e1,h5,ih']
  .rw [jl hc];generalize y9 ts[i] us[i]=c at *;simp only [je,hlt,jb hi,jb hi2,jf,e1,hc]
theorem jsi (a b:T):y9 a b=if jp a.name=true/\jp b.name=false then -1 else if jp a.name=false/\jp b.name=true then 1 else if ¬a.name=b.name then zI a.name b.name else if a.args.length < b.args.length then -1 else if b.args.length < a.args.length then 1 else yg a.args b.args:=by
 rw [Yj];unfold cK yS vF;have hn:=ZO.zero a.name b.name;have hzr:zJ 1 1=0/\zJ 0 0=0/\zJ 0 1 = -1/\zJ 1 0=1:=by decide
 obtain ⟨z1,z2,z3,z4⟩:=hzr;have hz:zJ a.args.length b.args.length=if a.args.length < b.args.length then -1 else if b.args.length < a.args.length then 1 else 0:=rfl;cases h1:jp a.name<;>cases h2:jp b.name<;>simp only [Zg,Jm,K6,z1,z2,z3,z4,hz]
 all_goals have hs:=(ZO.zero b.name b.name).2 rfl
 all_goals by_cases e:a.name=b.name
 all_goals by_cases l1:a.args.length < b.args.length
 all_goals by_cases l2:b.args.length < a.args.length
 all_goals first
  | (simp [e,hs,l1,l2];done)
  | (have ne:¬zI a.name b.name=0:=λh=>e (hn.1 h);simp only [ne_eq,e,ne,not_false_eq_true,not_true_eq_false,Jm,K6,and_true,true_and,and_false,false_and,reduceCtorEq];done)
  | simp [l1,l2]
theorem jny:∀a:T,Tz a-> ∀b:T,Tz b->G 87 [tm a,tm b]=some (vi (y9 a b),[]):=by
 refine T.ind λa ih za b zb=> ?_;have va:=zE a.name (((kH a).1 za.wf).1);have vb':=zE b.name (((kH b).1 zb.wf).1);have hz:=za;unfold Tz at hz;rw [kW] at hz;have e1:=jvC a.name b.name;have e4:a.args.length=b.args.length->joS (vi 0) (sv a.name) (jQ a.args) (sv b.name) (jQ b.args)=some (vi (yg a.args b.args),[]):=λhlen=>by
  have key:=jiT a.name b.name a.args b.args (by omega) hlen (λt ht u hu=>ih t ht (za.args t ht) u (zb.args u hu)) 0 (jE _);simp only [jP,kj] at key;exact key
 rw [g87,jsi];have main:∀p:Bool,G 109 [sv a.name]=some (vb p,[])->G 109 [sv b.name]=some (vb p,[])->_:=λp _ _=>trivial;clear main;cases h1:jp a.name<;>cases h2:jp b.name<;>rw [h1] at va<;>rw [h2] at vb'
 all_goals by_cases en:a.name=b.name
 all_goals try (exfalso;rw [en,h2] at h1;cases h1;done)
 all_goals by_cases l1:a.args.length < b.args.length
 all_goals by_cases l2:b.args.length < a.args.length
 all_goals have l1':(((a.args.length:Nat):Int) < ((b.args.length:Nat):Int))=(a.args.length < b.args.length):=propext (by omega)
 all_goals have l2':(((b.args.length:Nat):Int) < ((a.args.length:Nat):Int))=(b.args.length < a.args.length):=propext (by omega)
 all_goals first
  | (have e4:=e4 (by omega);rw [en] at e4;simp only [je,va,vb',e1,en,l1,l2,l1',l2',e4,and_true,true_and,and_false,false_and];done)
  | (simp only [je,va,vb',e1,en,l1,l2,l1',l2',and_true,true_and,and_false,false_and];done)
  | (simp only [je,va,vb',e1,en,l1,l2,l1',l2',and_true,true_and,and_false,false_and])
abbrev jL (l:Lt):List A:=[vb l.1,sv l.2.name,.sl 2 (l.2.args.map jm)]
abbrev ltm (l:Lt):A:= .agg [vb l.1,sv l.2.name,.sl 2 (l.2.args.map jm)]
theorem jug (b:Bool):G 98 [vb b]=some (vi (fl b:Nat),[]):=by
 rw [g98];cases b<;>simp only [je]<;>rfl
theorem YP (a b:Lt) (ha:Rx' a.2) (za:Tz a.2) (hb:Rx' b.2) (zb:Tz b.2):G 72 [ltm a,ltm b]=some (vi (cmpL a b),[]):=by
 have e1:=jhg a.2 ha za b.2 hb zb;have e2:=jug a.1;have e3:=jug b.1;have e4:=jgI (fl a.1) (fl b.1);have e5:=jzT (y9 a.2 b.2) (zJ (fl a.1) (fl b.1));have e6:cmpL a b=if y9 a.2 b.2≠0 then y9 a.2 b.2 else zJ (fl a.1) (fl b.1):=rfl;rw [g72,e6];generalize (if y9 a.2 b.2≠0 then y9 a.2 b.2 else zJ (fl a.1) (fl b.1))=c at *;generalize zJ (fl a.1) (fl b.1)=d at *;generalize y9 a.2 b.2=f at *;simp only [je,e1,e2,e3,e4,e5]
theorem jdc (a b:Lt) (za:Tz a.2) (zb:Tz b.2):G 60 [ltm a,ltm b]=some (vi (cmpL a b),[]):=by
 have e1:=jny a.2 za b.2 zb;have e6:cmpL a b=if y9 a.2 b.2≠0 then y9 a.2 b.2 else zJ (fl a.1) (fl b.1):=rfl;rw [g60,e6];by_cases h:y9 a.2 b.2=0
 .rw [jo (λh'=>h' h)];rw [h] at e1;obtain ⟨p,t⟩:=a;obtain ⟨q,u⟩:=b;have d1:zJ (fl false) (fl true) = -1:=by decide
  have d2:zJ (fl true) (fl false)=1:=by decide
  have d3:zJ (fl true) (fl true)=0:=by decide
  have d4:zJ (fl false) (fl false)=0:=by decide
  cases p<;>cases q<;>simp only [je,e1,d1,d2,d3,d4]
 .rw [jl h];generalize y9 a.2 b.2=c at *;simp only [je,e1,h]
def JZ (t:T):Bool:=if t.name = [61] then jbW t else qP t.name && kY t
theorem jld (t:T) (hw:J3 t) (hs:tsz t<=1048576):G 59 [tm t]=some (vb (JZ t),[]):=by
 unfold JZ;by_cases he:t.name = [61]
 .rw [jl he];exact jdB t hw hs he
 .have e1:=QB t.name ((kH t).1 hw).1;have e2:=Zn t hw hs;rw [jo he,g59];cases h:qP t.name<;>rw [h] at e1
  .simp only [je,he,e1,jH]
  .simp only [je,he,e1,e2,jI]
theorem jiM (t:T) (hw:J3 t) (hs:tsz t<=1048576):G 94 [tm t]=some (vb (JZ t),[]):=by
 unfold JZ;by_cases he:t.name = [61]
 .rw [jl he];exact jbi t hw hs he
 .have e0:=yX t;rw [kx he] at e0;have e1:=jb3 t.name ((kH t).1 hw).1;have e2:=jb4 t hw hs;rw [jo he,g94];cases h:qP t.name<;>rw [h] at e1
  .simp only [je,e0,e1,jH]
  .simp only [je,e0,e1,e2,jI]
abbrev cm (c:kR):A:= .agg [.sl 3 (c.map jL)]
def yO (c:kR):Bool:=c.all (λl=>JZ l.2) && (jo2 c && decide (c.length<=8))
theorem jt1 {t:T} (h:JZ t=true):Rx' t:=by
 unfold JZ at h;by_cases he:t.name = [61]
 .rw [jl he] at h;unfold jbW at h;rw [ju,kG,ju,ju] at h;refine Or.inr ⟨he,λu hu=> ?_⟩;obtain ⟨n,us⟩:=t
  match us,h.1 with
  | [a,b],_=>
   have hu:u ∈ [a,b]:=hu;simp only [j7,jbn,or_false] at hu;rcases hu with rfl|rfl
   .exact h.2.2.1
   .exact h.2.2.2
 .rw [jo he,ju] at h;have h2:=h.2;unfold kY at h2;rw [ju] at h2;exact Or.inl h2.2
theorem jeI (l:Lt) (hz:Tz l.2):G 71 [ltm l]=some (vb (JZ l.2),[]):=by
 have e:=jiM l.2 hz.wf hz;rw [g71];simp only [je,e]
def jbE:Option Lt->kR->Bool
 | _,[]=>true
 | none,l::r=>JZ l.2 && jbE (some l) r
 | some p,l::r=>JZ l.2 && (decide (cmpL p l < 0) && jbE (some l) r)
theorem jl0:∀(p:Lt) (c:kR),jbE (some p) c=(c.all (λl=>JZ l.2) && jo2 (p::c))
 | p,[]=>rfl
 | p,l::r=>by
  rw [jbE,jl0 l r,yC,jo2];cases JZ l.2<;>cases decide (cmpL p l < 0)<;>simp
theorem jlZ (c:kR):(jbE none c && decide (c.length<=8))=yO c:=by
 unfold yO;cases c with
 | nil=>rfl
 | cons l r=>rw [jbE,jl0,yC];cases JZ l.2<;>simp [jkj]
theorem zj (l:Lt):ke 3 (.elt (jL l) 0)=some (ltm l):=rfl
theorem jrC (c:kR) (hl:c.length<=1048576) (hz:∀l∈c,Tz l.2):∀i,i<=c.length-> ∀p:Option Lt,(p=none↔i=0)->(∀q,p=some q->JZ q.2=true/\ ∃h:i - 1 < c.length,c[i - 1]=q)->
  jtP (.sl 3 (c.map jL)) (vi (c.length:Nat)) (vi (i:Nat)) (.sl 3 (c.map jL))=some (vb (jbE p (c.drop i) && decide (c.length<=8)),[]):=by
 refine upto ?_ ?_
 .intro p _ _;have e:decide (((c.length:Nat):Int)<=8)=decide (c.length<=8):=by congr 1;exact propext (by omega)
  rw [jDH,j4,<-e];have:jbE p []=true:=by cases p<;>rfl
  rw [this];simp only [je,jI]
 .intro i hi ih p hp hq;have hlt:(i:Int) < ((c.length:Nat):Int):=by omega
  have h5:=jq hi (by show c.length<=9223372036854775807;omega)
  have e1:=jeI c[i] (hz _ (jr hi));have ix:=jb (k:=3) (f:=jL) hi;have e1:G 71 [.agg [vb c[i].1,sv c[i].2.name,jQ c[i].2.args]]=some (vb (JZ c[i].2),[]):=e1;rw [jDH,ji hi];cases ha:JZ c[i].2 with
  | false=>
   rw [ha] at e1;have:jbE p (c[i]::c.drop (i+1))=false:=by cases p<;>rw [jbE,ha]<;>rfl
   rw [this];simp only [je,hlt,ix,zj,e1,jH]
  | true=>
   rw [ha] at e1;have ih1:=ih (some c[i]) (by simp) (λq hq=>by cases hq;exact ⟨ha,by simpa using hi,rfl⟩);cases p with
   | none=>
    have h0:i=0:=hp.1 rfl;have hg:¬(0:Int) < (i:Int):=by omega
    rw [jbE,ha,jI,<-ih1];simp only [je,hlt,ix,zj,e1,hg,h5]
   | some q=>
    obtain ⟨hqa,hq1,hq2⟩:=hq q rfl;have hi0:¬i=0:=λh=>by have:=hp.2 h;cases this
    have hg:(0:Int) < (i:Int):=by omega
    have c1:ck ((i:Int) - 1)=some (vi ((i - 1:Nat):Int)):=by rw [show (i:Int) - 1=((i - 1:Nat):Int) by omega,j8 (by omega) (by omega)]
    have ix2:=jb (k:=3) (f:=jL) hq1;rw [hq2] at ix2;have hqz:Tz q.2:=by rw [<-hq2];exact hz _ (jr hq1)
    have e2:=YP q c[i] (jt1 hqa) hqz (jt1 ha) (hz _ (jr hi));have e2:G 72 [.agg [vb q.1,sv q.2.name,jQ q.2.args],.agg [vb c[i].1,sv c[i].2.name,jQ c[i].2.args]]=some (vi (cmpL q c[i]),[]):=e2;rw [jbE,ha,jI];by_cases hc:cmpL q c[i] < 0
    .have hc':¬(0:Int)<=cmpL q c[i]:=by omega
     rw [jR hc,jI,<-ih1];generalize cmpL q c[i]=d at *;simp only [je,hlt,ix,zj,e1,hg,c1,ix2,e2,hc',h5]
    .have hc':(0:Int)<=cmpL q c[i]:=by omega
     rw [kx hc];generalize cmpL q c[i]=d at *;simp only [je,hlt,ix,zj,e1,hg,c1,ix2,e2,hc',jH]
theorem jag (c:kR) (hl:c.length<=1048576) (hz:∀l∈c,Tz l.2):G 45 [cm c]=some (vb (yO c),[]):=by
 have key:=jrC c hl hz 0 (jE _) none (by simp) (λq h=>by cases h);rw [kj,jlZ] at key;simp only [jP] at key;rw [g45];simp only [je,key]
theorem jrD (c:kR) (hl:c.length<=1048576) (hz:∀l∈c,Tz l.2):∀i,i<=c.length-> ∀p:Option Lt,(p=none↔i=0)->(∀q,p=some q-> ∃h:i - 1 < c.length,c[i - 1]=q)->
  jtJ (vi (i:Nat)) (.sl 3 (c.map jL))=some (vb (jbE p (c.drop i)),[]):=by
 refine upto ?_ ?_
 .intro p _ _;rw [jDB,j4];have:jbE p []=true:=by cases p<;>rfl
  rw [this];simp only [je]
 .intro i hi ih p hp hq;have hlt:(i:Int) < ((c.length:Nat):Int):=by omega
  have h5:=jq hi (by show c.length<=9223372036854775807;omega)
  have e1:=jld c[i].2 (hz _ (jr hi)).wf (hz _ (jr hi));have ix:=jb (k:=3) (f:=jL) hi;have ad:ye (.elt (jL c[i]) 0) 1=some (.elt (jL c[i]) 1):=rfl;have ld:ke 2 (.elt (jL c[i]) 1)=some (tm c[i].2):=rfl;rw [jDB,ji hi];cases ha:JZ c[i].2 with
  | false=>
   rw [ha] at e1;have:jbE p (c[i]::c.drop (i+1))=false:=by cases p<;>rw [jbE,ha]<;>rfl
   rw [this];simp only [je,hlt,ix,ad,ld,e1]
  | true=>
   rw [ha] at e1;have ih1:=ih (some c[i]) (by simp) (λq hq=>by cases hq;exact ⟨by simpa using hi,rfl⟩);cases p with
   | none=>
    have h0:i=0:=hp.1 rfl;have hg:¬(0:Int) < (i:Int):=by omega
    rw [jbE,ha,jI,<-ih1];simp only [je,hlt,ix,ad,ld,e1,hg,h5]
   | some q=>
    obtain ⟨hq1,hq2⟩:=hq q rfl;have hi0:¬i=0:=λh=>by have:=hp.2 h;cases this
    have hg:(0:Int) < (i:Int):=by omega
    have c1:ck ((i:Int) - 1)=some (vi ((i - 1:Nat):Int)):=by rw [show (i:Int) - 1=((i - 1:Nat):Int) by omega,j8 (by omega) (by omega)]
    have ix2:=jb (k:=3) (f:=jL) hq1;rw [hq2] at ix2;have hqz:Tz q.2:=by rw [<-hq2];exact hz _ (jr hq1)
    have e2:=jdc q c[i] hqz (hz _ (jr hi));rw [jbE,ha,jI];by_cases hc:cmpL q c[i] < 0
    .have hc':¬(0:Int)<=cmpL q c[i]:=by omega
     rw [jR hc,jI,<-ih1];generalize cmpL q c[i]=d at *;simp only [je,hlt,ix,ad,ld,zj,e1,hg,c1,ix2,e2,hc',h5]
    .have hc':(0:Int)<=cmpL q c[i]:=by omega
     rw [kx hc];generalize cmpL q c[i]=d at *;simp only [je,hlt,ix,ad,ld,zj,e1,hg,c1,ix2,e2,hc',jH]
theorem jcK (c:kR) (hl:c.length<=1048576) (hz:∀l∈c,Tz l.2):G 34 [cm c]=some (vb (yO c),[]):=by
 have key:=jrD c hl hz 0 (jE _) none (by simp) (λq h=>by cases h);rw [kj] at key;simp only [jP] at key;rw [g34,<-jlZ];by_cases h8:c.length<=8
 .have h8':¬(8:Int) < ((c.length:Nat):Int):=by omega
  rw [jR h8,jaw];simp only [je,h8',key]
 .have h8':(8:Int) < ((c.length:Nat):Int):=by omega
  rw [kx h8,z8];simp only [je,h8']
theorem jF5 (l:List (List UInt8)) (n:List UInt8):(vnA l n).length<=l.length+1:=by
 unfold vnA;split
 .omega
 .simp
theorem jD3 {n:Nat} (h:n<=4194304):jW n 16=true:=by
 unfold jW;exact jR ⟨by omega,by omega⟩
theorem jeR:∀(t:T) (l:List (List UInt8)),(Zt l t).length<=l.length+nodes t:=by
 refine T.ind λt ih l=> ?_;have hn:=jU t;rw [jnV];split
 .have:=jF5 l t.name;omega
 .have key:∀us:List T,(∀u∈us,u∈t.args)-> ∀l:List (List UInt8),(jaS l us).length<=l.length+jx us:=by
   intro us;induction us with
   | nil=>intro _ l;simp [jaS,jx]
   | cons u us ih2=>
    intro hu l;have h1:=ih u (hu u (by simp)) l;have h2:=ih2 (λv hv=>hu v (by simp [hv])) (Zt l u);rw [jaS,jx];omega
  have:=key t.args (λ_ h=>h) l;omega
theorem jsN:∀t:T,Tz t-> ∀l:List (List UInt8),l.length+nodes t<=4000000->jtC (tm t) (l.map cs)=some (.top,[.sl 1 ((Zt l t).map cs)]):=by
 refine T.ind λt ih ht l hl=> ?_;have hz:=ht;unfold Tz at hz;rw [kW] at hz;have hn:=jU t;have e0:=zE t.name (((kH t).1 ht.wf).1);have e1:=jnB l t.name (by show l.length<=9223372036854775807;omega);have key:=upto (P:=λi=>∀l:List (List UInt8),l.length+jx (t.args.drop i)<=4000000->jhs (vi (i:Nat)) (sv t.name) (jQ t.args) (l.map cs)=some (.top,[.sl 1 ((jaS l (t.args.drop i)).map cs)])) (n:=t.args.length) ?_ ?_ 0 (jE _);rotate_left
 .intro l _;rw [jnG,j4];simp only [je];rfl
 .intro i hi ihi l hl;have hlt:(i:Int) < ((t.args.length:Nat):Int):=by omega
  have h5:=jq hi (by show t.args.length<=9223372036854775807;omega)
  rw [ji hi,jx] at hl;have q:=ih t.args[i] (jr hi) (ht.args _ (jr hi)) l (by omega);have hln:=jeR t.args[i] l;have q2:=ihi (Zt l t.args[i]) (by omega);rw [jnG,ji hi,jaS];generalize Zt l t.args[i]=l' at *;have hr:hR 1 (A.top,[.sl 1 (l'.map cs)]) 0=some (l'.map cs):=rfl;simp only [je,hlt,jb hi,jf,q,hr,h5,q2]
 have e2:jhr (vi 0) (sv t.name) (jQ t.args) (l.map cs)=some (.top,[.sl 1 ((jaS l t.args).map cs)]):=by
  have key:=key l (by rw [kj];omega)
  rw [kj] at key;have:jhr (vi 0) (sv t.name) (jQ t.args) (l.map cs)=jhs (vi 0) (sv t.name) (jQ t.args) (l.map cs):=by rw [jCc,jnG]
  rw [this];exact key
 rw [jGE,jnV];cases hv:jp t.name<;>rw [hv] at e0
 .rw [jo kh];simp only [je,e0,e2]
 .rw [jl rfl];unfold vnA;cases hc:l.contains t.name<;>rw [hc] at e1
  .have f:jW (l.length+1) 16=true:=jD3 (by omega);rw [jo kh,zz];simp only [je,e0,e1,f];rfl
  .rw [jl rfl];simp only [je,e0,e1]
theorem jiY (c:kR) (hl:c.length<=1000) (hz:∀l∈c,Tz l.2) (hs:∀l∈c,nodes l.2<=1000):G 61 [cm c]=some (.sl 1 ((zl c).map cs),[]):=by
 have key:=upto (P:=λi=>∀l:List (List UInt8),l.length<=1000 * i->joN (vi (i:Nat)) (.sl 3 (c.map jL)) (l.map cs)=some (.sl 1 (((c.drop i).foldl (λl x=>Zt l x.2) l).map cs),[])) (n:=c.length) ?_ ?_ 0 (jE _)
 .have key:=key [] (by simp);rw [kj] at key;have key:joN (vi 0) (.sl 3 (c.map jL)) []=some (.sl 1 ((zl c).map cs),[]):=key;rw [g61];simp only [je,key]
 .intro l _;rw [jDO,j4];simp only [je];rfl
 .intro i hi ih l hll;have hlt:(i:Int) < ((c.length:Nat):Int):=by omega
  have h5:=jq hi (by show c.length<=9223372036854775807;omega)
  have ix:=jb (k:=3) (f:=jL) hi;have ad:ye (.elt (jL c[i]) 0) 1=some (.elt (jL c[i]) 1):=rfl;have ld:ke 2 (.elt (jL c[i]) 1)=some (tm c[i].2):=rfl;have hn:=hs _ (jr hi);have q:=jsN c[i].2 (hz _ (jr hi)) l (by omega);have hol:=jeR c[i].2 l;have q2:=ih (Zt l c[i].2) (by omega);rw [jDO,ji hi,Zf];generalize Zt l c[i].2=l' at *;have hr:hR 1 (A.top,[.sl 1 (l'.map cs)]) 0=some (l'.map cs):=rfl;simp only [je,hlt,ix,ad,ld,q,hr,h5,q2]
theorem jpd:∀t:T,Rx' t->Tz t-> ∀l:List (List UInt8),l.length+nodes t<=4000000->jgv (sv t.name) (jQ t.args) (l.map cs)=some (.top,[.sl 1 ((Zt l t).map cs)]):=by
 refine T.ind λt ih hk ht l hl=> ?_;have hz:=ht;unfold Tz at hz;rw [kW] at hz;have hn:=jU t;have e0:=yJ t (hk.imp id λh=>h.1);have e1:=ZF l t.name (by show l.length<=9223372036854775807;omega);have key:=upto (P:=λi=>∀l:List (List UInt8),l.length+jx (t.args.drop i)<=4000000->jeh (jQ t.args) (vi (t.args.length:Nat)) (vi (i:Nat)) (l.map cs)=some (.top,[.sl 1 ((jaS l (t.args.drop i)).map cs)])) (n:=t.args.length) ?_ ?_ 0 (jE _);rotate_left
 .intro l _;rw [jeM,j4];simp only [je];rfl
 .intro i hi ihi l hl;have hlt:(i:Int) < ((t.args.length:Nat):Int):=by omega
  have h5:=jq hi (by show t.args.length<=9223372036854775807;omega)
  rw [ji hi,jx] at hl;have q:=ih t.args[i] (jr hi) (hk.args _ (jr hi)) (ht.args _ (jr hi)) l (by omega);have hln:=jeR t.args[i] l;have q2:=ihi (Zt l t.args[i]) (by omega);rw [jeM,ji hi,jaS];generalize Zt l t.args[i]=l' at *;have hr:hR 1 (A.top,[.sl 1 (l'.map cs)]) 0=some (l'.map cs):=rfl;simp only [je,hlt,jb hi,jf,q,hr,h5,q2]
 have e2:jeg (jQ t.args) (vi (t.args.length:Nat)) (vi 0) (l.map cs)=some (.top,[.sl 1 ((jaS l t.args).map cs)]):=by
  have key:=key l (by rw [kj];omega)
  rw [kj] at key;have:∀n:A,jeg (jQ t.args) n (vi 0) (l.map cs)=jeh (jQ t.args) n (vi 0) (l.map cs):=λn=>by rw [juv,jeM]
  rw [this];exact key
 rw [jDk,jnV];cases hv:jp t.name<;>rw [hv] at e0
 .rw [jo kh];by_cases hl0:((t.args.length:Nat):Int)=0
  .simp only [je,hl0,e0];rw [hl0] at e2;exact e2
  .simp only [je,hl0,e2]
 .have ha:t.args = []:=by
   rcases hk with h|h
   .exact JN h hv
   .rw [h.1] at hv;exact absurd hv (by decide)
  have hl0:((t.args.length:Nat):Int)=0:=by rw [ha];rfl
  rw [jl rfl];unfold vnA;cases hc:l.contains t.name<;>rw [hc] at e1
  .have f:jW (l.length+1) 16=true:=jD3 (by omega);rw [jo kh,zz];simp only [je,hl0,e0,e1,f];rfl
  .rw [jl rfl];simp only [je,hl0,e0,e1]
theorem ji9 (c:kR) (hl:c.length<=1000) (hk:∀l∈c,Rx' l.2) (hz:∀l∈c,Tz l.2) (hs:∀l∈c,nodes l.2<=1000):G 73 [cm c]=some (.sl 1 ((zl c).map cs),[]):=by
 have key:=upto (P:=λi=>∀l:List (List UInt8),l.length<=1000 * i->joO (.sl 3 (c.map jL)) (vi (c.length:Nat)) (vi (i:Nat)) (l.map cs)=some (.sl 1 (((c.drop i).foldl (λl x=>Zt l x.2) l).map cs),[])) (n:=c.length) ?_ ?_ 0 (jE _)
 .have key:=key [] (by simp);rw [kj] at key;have key:joO (.sl 3 (c.map jL)) (vi (c.length:Nat)) (vi 0) []=some (.sl 1 ((zl c).map cs),[]):=key;rw [g73];simp only [je,key]
 .intro l _;rw [jDR,j4];simp only [je];rfl
 .intro i hi ih l hll;have hlt:(i:Int) < ((c.length:Nat):Int):=by omega
  have h5:=jq hi (by show c.length<=9223372036854775807;omega)
  have ix:=jb (k:=3) (f:=jL) hi;have hn:=hs _ (jr hi);have q:=jpd c[i].2 (hk _ (jr hi)) (hz _ (jr hi)) l (by omega);have hol:=jeR c[i].2 l;have q2:=ih (Zt l c[i].2) (by omega);rw [jDR,ji hi,Zf];generalize Zt l c[i].2=l' at *;have hr:hR 1 (A.top,[.sl 1 (l'.map cs)]) 0=some (l'.map cs):=rfl;simp only [je,hlt,ix,zj,q,hr,h5,q2]
abbrev J6:=List (T × T)
def jo4:js->Bool
 | []=>true
 | [_]=>true
 | p::q::s=>yQ p.1 q.1 && jo4 (q::s)
noncomputable def jN (s:js):Bool:=decide (s.length<=12) && (jo4 s && s.all λq=>jp q.1 && (kY q.2 && !dq q.2.name q.1))
def zG (s u:js):js:=Jo (s.map (λq=>(q.1,sub u q.2))++u.filter λq=>(look s q.1).isNone)
def jy (x y:T):List UInt8 × T:=if jp x.name=false\/(jp y.name=true/\yQ x.name y.name=true) then (y.name,x) else (x.name,y)
noncomputable def y7 (s:js) (l r:T) (rest:J6):Option (js × J6):=
 if jD (sub s l)=false\/jD (sub s r)=false then none
 else if dq (sub s l) (sub s r) then some (s,rest)
 else if jp (sub s l).name=true\/jp (sub s r).name=true then
  (if (jy (sub s l) (sub s r)).1∈kT (jy (sub s l) (sub s r)).2\/jN [jy (sub s l) (sub s r)]=false\/jN (zG s [jy (sub s l) (sub s r)])=false then none else some (zG s [jy (sub s l) (sub s r)],rest))
 else if (sub s l).name=(sub s r).name/\(sub s l).args.length=(sub s r).args.length then some (s,(sub s l).args.zip (sub s r).args++rest) else none
noncomputable def zX:Nat->js->J6->Option (Option js)
 | _,s,[]=>some (some s)
 | 0,_,_::_=>none
 | k+1,s,p::rest=>(match y7 s p.1 p.2 rest with|none=>some none|some q=>zX k q.1 q.2)
def Exx (t:T):Prop:=(yv t=true\/(t.name = [61]/\t.args.length=2/\ ∀u∈t.args,yv u=true))/\nodes t<=31
def IdS (s:js):Prop:=∀q∈s,∀x∈kT q.2,look s x=none
def Z4 (s:js) (es:J6):Prop:=jN s=true/\IdS s/\ ∀p∈es,Exx p.1/\Exx p.2
theorem j5 {s:js} (h:jN s=true):s.length<=12/\jo4 s=true/\ ∀q∈s,jp q.1=true/\kY q.2=true/\q.2.name≠q.1:=by
 unfold jN at h;rw [ju,kG,ju,qm] at h;refine ⟨h.1,h.2.1,λq hq=> ?_⟩;have:=h.2.2 q hq;rw [ju,ju,JO] at this;exact ⟨this.1,this.2.1,λe=>by rw [e,Qw] at this;exact absurd this.2.2 (by decide)⟩
theorem jcY {t:T} (h:kY t=true):yv t=true:=by
 unfold kY at h;rw [ju] at h;exact h.2
theorem vsv {t:T} (h:jp t.name=true):kT t = [t.name]:=by rw [Qd,h,jl rfl]
theorem vsf {t:T} (h:jp t.name=false):kT t=yy t.args:=by rw [Qd,h,jo kh]
theorem qA {x:List UInt8} :∀ {ts:List T},x∈yy ts↔ ∃t∈ts,x∈kT t
 | []=>by simp [yy]
 | t::ts=>by rw [yy,zh,qA];simp
theorem jj4 {s:js} (hs:IdS s):∀(w:T) {x:List UInt8},x∈kT (sub s w)->look s x=none:=by
 refine T.ind (p:=λw=>∀ {x:List UInt8},x∈kT (sub s w)->look s x=none) λw ih=> ?_;intro x hx;cases hv:jp w.name with
 | true=>
  rw [K0 hv,jbC] at hx;cases hl:look s w.name with
  | some r=>rw [hl] at hx;exact hs _ (qV hl) x hx
  | none=>
   rw [hl] at hx;have hx:x∈kT (.mk w.name []):=hx;rw [vsv (t:= .mk w.name []) hv,zi] at hx;rw [hx];exact hl
 | false=>
  rw [JY hv,vsf (t:= .mk w.name (w.args.map (sub s))) hv,qA] at hx;obtain ⟨t,ht,hx⟩:=hx;obtain ⟨a,ha,rfl⟩:=ym.1 ht;exact ih a ha hx
theorem jl3 {n:List UInt8} {t:T} :∀(w:T) {x:List UInt8},x∈kT (sub [(n,t)] w)->(x∈kT w/\x≠n)\/x∈kT t:=by
 refine T.ind (p:=λw=>∀ {x:List UInt8},x∈kT (sub [(n,t)] w)->(x∈kT w/\x≠n)\/x∈kT t) λw ih=> ?_;intro x hx;cases hv:jp w.name with
 | true=>
  rw [K0 hv,jbC] at hx;by_cases hn:n=w.name
  .have:look [(n,t)] w.name=some t:=by rw [look,jl hn]
   rw [this] at hx;exact Or.inr hx
  .have:look [(n,t)] w.name=none:=by rw [look,jo hn,look]
   rw [this] at hx;have hx:x∈kT (.mk w.name []):=hx;rw [vsv (t:= .mk w.name []) hv,zi] at hx;left;rw [vsv hv,hx];exact ⟨by simp [T.name],λe=>hn e.symm⟩
 | false=>
  rw [JY hv,vsf (t:= .mk w.name (w.args.map (sub [(n,t)]))) hv,qA] at hx;obtain ⟨u,hu,hx⟩:=hx;obtain ⟨a,ha,rfl⟩:=ym.1 hu;rcases ih a ha hx with ⟨h1,h2⟩|h
  .left;rw [vsf hv,qA];exact ⟨⟨a,ha,h1⟩,h2⟩
  .exact Or.inr h
theorem jtq {s:js} :∀(w:T),yv w=true->(∀x∈kT w,look s x=none)->sub s w=w:=by
 refine T.ind λw ih=> ?_;intro hk h;cases hv:jp w.name with
 | true=>
  rw [K0 hv,jbC,h w.name (by rw [vsv hv];simp)]
  have ha:=JN hk hv;show T.mk w.name []=w;rw [<-ha,T.eta]
 | false=>
  rw [JY hv];have:w.args.map (sub s)=w.args:=by
   conv=>rhs;rw [<-List.map_id w.args]
   refine jko λa ha=>ih a ha (zK hk a ha) λx hx=>h x ?_;rw [vsf hv,qA];exact ⟨a,ha,hx⟩
  rw [this,T.eta]
theorem jjw {s:js} {n:List UInt8} {t:T} {q:List UInt8 × T} :q∈Y3 s n t↔q∈s\/q=(n,t):=by
 unfold Y3;have e:=jrK (p:=λp:List UInt8 × T=>yQ p.1 n) (l:=s);constructor
 .intro h;rcases zh.1 h with h|h
  .left;rw [<-e];exact Yd _ h
  .rcases j7.1 h with h|h
   .exact Or.inr h
   .left;rw [<-e];exact Qg _ h
 .rintro (h|h)
  .rw [<-e] at h;rcases zh.1 h with h|h
   .exact Yd _ h
   .exact Qg _ (Jw _ h)
  .rw [h];exact Qg _ (JP ..)
theorem jAb (s:js) (n:List UInt8) (t:T):(Y3 s n t).length=s.length+1:=by
 unfold Y3;have e:=congrArg List.length (jrK (p:=λp:List UInt8 × T=>yQ p.1 n) (l:=s));rw [yn] at e;rw [yn,zM];omega
theorem QD:∀(m s:js),(∀q∈m,q.2.name≠q.1)->(m.foldl (λs p=>Ki s p.1 p.2) s).length=s.length+m.length/\ ∀q,q∈m.foldl (λs p=>Ki s p.1 p.2) s↔q∈s\/q∈m
 | [],s,_=>⟨rfl,λq=>by simp⟩
 | p::m,s,h=>by
  rw [Zf];have e:Ki s p.1 p.2=Y3 s p.1 p.2:=jo (h p (by simp));obtain ⟨h1,h2⟩:=QD m (Ki s p.1 p.2) λq hq=>h q (by simp [hq]);refine ⟨by rw [h1,e,jAb,zM];omega,λq=> ?_⟩;rw [h2,e,jjw,j7,jbq]
theorem jsk {s:js} (hs:jN s=true) (hi:IdS s) {n:List UInt8} {t:T} (hn:jp n=true) (hd:look s n=none) (ht:∀x∈kT t,look s x=none) (ho:n ∉ kT t) (htn:t.name≠n) :
  (zG s [(n,t)]).length=s.length+1/\IdS (zG s [(n,t)])/\(∀q,q∈zG s [(n,t)]↔(∃p∈s,q=(p.1,sub [(n,t)] p.2))\/q=(n,t))/\ ∀q∈s.map (λq=>(q.1,sub [(n,t)] q.2))++[(n,t)],q.2.name≠q.1:=by
 obtain ⟨_,_,hv⟩:=j5 hs;have hf:([(n,t)]:js).filter (λq=>(look s q.1).isNone) = [(n,t)]:=by simp [hd]
 have hname:∀q∈s.map (λq=>(q.1,sub [(n,t)] q.2))++[(n,t)],q.2.name≠q.1:=by
  intro q hq;rcases zh.1 hq with hq|hq
  .obtain ⟨p,hp,rfl⟩:=ym.1 hq;intro e;have e:(sub [(n,t)] p.2).name=p.1:=e;have hx:p.1∈kT (sub [(n,t)] p.2):=by rw [vsv (by rw [e];exact (hv p hp).1),e];simp
   have hk:look s p.1≠none:=λh=>qa.1 h p hp rfl;rcases jl3 _ hx with ⟨h1,_⟩|h1
   .exact hk (hi p hp _ h1)
   .exact hk (ht _ h1)
  .simp only [zi] at hq;rw [hq];exact htn
 obtain ⟨f1,f2⟩:=QD _ [] hname;have hm:∀q,q∈zG s [(n,t)]↔(∃p∈s,q=(p.1,sub [(n,t)] p.2))\/q=(n,t):=by
  intro q;unfold zG Jo;rw [hf,f2];simp only [jbn,false_or,zh,ym,zi];constructor
  .rintro (⟨p,h1,h2⟩|h)
   .exact Or.inl ⟨p,h1,h2.symm⟩
   .exact Or.inr h
  .rintro (⟨p,h1,h2⟩|h)
   .exact Or.inl ⟨p,h1,h2.symm⟩
   .exact Or.inr h
 refine ⟨?_,?_,hm,hname⟩
 .unfold zG Jo;rw [hf,f1,yn,jK];simp
 .intro q hq x hx;have hxn:x≠n/\look s x=none:=by
   rcases (hm q).1 hq with ⟨p,hp,rfl⟩|rfl
   .rcases jl3 _ hx with ⟨h1,h2⟩|h1
    .exact ⟨h2,hi p hp _ h1⟩
    .exact ⟨λe=>ho (e ▸ h1),ht _ h1⟩
   .exact ⟨λe=>ho (e ▸ hx),ht _ hx⟩
  refine qa.2 λp hp e=> ?_;rcases (hm p).1 hp with ⟨p',hp',rfl⟩|rfl
  .exact qa.1 hxn.2 p' hp' e
  .exact hxn.1 e.symm
def mz (s:js):J6->Nat
 | []=>0
 | p::r=>nodes (sub s p.1)+nodes (sub s p.2)+mz s r
theorem jln (s:js):∀a b:J6,mz s (a++b)=mz s a+mz s b
 | [],b=>by simp [mz]
 | p::a,b=>by rw [Jl,mz,mz,jln s a b];omega
theorem jzH {s:js} :∀(a b:List T),(∀u∈a,sub s u=u)->(∀u∈b,sub s u=u)->mz s (a.zip b)<=jx a+jx b
 | [],_,_,_=>by simp [mz]
 | _::_,[],_,_=>by simp [mz]
 | x::a,y::b,h1,h2=>by
  have:=jzH a b (λu hu=>h1 u (by simp [hu])) (λu hu=>h2 u (by simp [hu]));rw [List.zip_cons_cons,mz,h1 x (by simp),h2 y (by simp)];simp only [jx];omega
theorem Exx.sub {s:js} (hs:jN s=true) {t:T} (h:Exx t):yv (sub s t)=true\/((sub s t).name = [61]/\(sub s t).args.length=2/\ ∀u∈(sub s t).args,yv u=true):=by
 obtain ⟨_,_,hv⟩:=j5 hs;have ho:∀q∈s,yv q.2=true:=λq hq=>(jcY (hv q hq).2.1);rcases h.1 with h|⟨h1,h2,h3⟩
 .exact Or.inl (ja7 ho t h)
 .have hvn:jp t.name=false:=by rw [h1];decide
  right;rw [JY hvn];refine ⟨h1,by show (t.args.map _).length=2;rw [jK,h2],λu hu=> ?_⟩;obtain ⟨a,ha,rfl⟩:=ym.1 hu;exact ja7 ho a (h3 a ha)
theorem kO {t:T} (h:jD t=true):nodes t<=30:=by
 simp only [jD,ju,kG] at h;exact h.1
theorem jue {t:T} (h:yv t=true\/(t.name = [61]/\t.args.length=2/\ ∀u∈t.args,yv u=true)):∀u∈t.args,yv u=true:=by
 rcases h with h|h
 .exact zK h
 .exact h.2.2
theorem zm {s:js} {l r:T} {rest:J6} (h:Z4 s ((l,r)::rest)) {s':js} {es:J6} (hst:y7 s l r rest=some (s',es)):Z4 s' es/\((s'=s/\mz s' es < mz s ((l,r)::rest))\/s'.length=s.length+1):=by
 obtain ⟨hv,hi,he⟩:=h;obtain ⟨el,er⟩:=he (l,r) (by simp);have hrest:∀p∈rest,Exx p.1/\Exx p.2:=λp hp=>he p (by simp [hp]);have xl:=el.sub hv;have xr:=er.sub hv;have nl:=qH (sub s l);have vl:=λ{x} (hx:x∈kT (sub s l))=>jj4 hi l hx;have vr:=λ{x} (hx:x∈kT (sub s r))=>jj4 hi r hx;have hmz:mz s ((l,r)::rest)=nodes (sub s l)+nodes (sub s r)+mz s rest:=rfl;unfold y7 at hst;split at hst
 .cases hst
 rename_i hsm;have hs1:jD (sub s l)=true:=by
  cases h:jD (sub s l) with
  | true=>rfl
  | false=>exact absurd (Or.inl h) hsm
 have hs2:jD (sub s r)=true:=by
  cases h:jD (sub s r) with
  | true=>rfl
  | false=>exact absurd (Or.inr h) hsm
 split at hst
 .cases hst;exact ⟨⟨hv,hi,hrest⟩,Or.inl ⟨rfl,by rw [hmz];omega⟩⟩
 split at hst
 .rename_i hvar;split at hst
  .cases hst
  rename_i hno;cases hst;have h1:(jy (sub s l) (sub s r)).1 ∉ kT (jy (sub s l) (sub s r)).2:=λh=>hno (Or.inl h);have h2:jN (zG s [jy (sub s l) (sub s r)])=true:=by
   cases h:jN (zG s [jy (sub s l) (sub s r)]) with
   | true=>rfl
   | false=>exact absurd (Or.inr (Or.inr h)) hno
  have h3:jN [jy (sub s l) (sub s r)]=true:=by
   cases h:jN [jy (sub s l) (sub s r)] with
   | true=>rfl
   | false=>exact absurd (Or.inr (Or.inl h)) hno
  have hb:look s (jy (sub s l) (sub s r)).1=none/\ ∀x∈kT (jy (sub s l) (sub s r)).2,look s x=none:=by
   unfold jy;split
   .rename_i hc;have hy:jp (sub s r).name=true:=by
     rcases hc with hc|hc
     .rcases hvar with h|h
      .rw [hc] at h;cases h
      .exact h
     .exact hc.1
    exact ⟨vr (by rw [vsv hy];simp),λx hx=>vl hx⟩
   .rename_i hc;have hx:jp (sub s l).name=true:=by
     cases h:jp (sub s l).name with
     | true=>rfl
     | false=>exact absurd (Or.inl h) hc
    exact ⟨vl (by rw [vsv hx];simp),λx hx=>vr hx⟩
  obtain ⟨_,_,h4⟩:=j5 h3;obtain ⟨k1,_,k3⟩:=h4 _ (List.mem_singleton_self _);generalize jy (sub s l) (sub s r)=p at *;obtain ⟨n,t⟩:=p;obtain ⟨c1,c2,_,_⟩:=jsk hv hi k1 hb.1 hb.2 h1 k3;exact ⟨⟨h2,c2,hrest⟩,Or.inr c1⟩
 .rename_i hnv;split at hst
  .rename_i hnm;cases hst;have v1:jp (sub s l).name=false:=by
    cases h:jp (sub s l).name with
    | false=>rfl
    | true=>exact absurd (Or.inl h) hnv
   have v2:jp (sub s r).name=false:=by
    cases h:jp (sub s r).name with
    | false=>rfl
    | true=>exact absurd (Or.inr h) hnv
   have a1:∀u∈(sub s l).args,yv u=true/\nodes u<=31/\sub s u=u:=λu hu=>by
    have hk:=jue xl u hu;have:=qp hu;have:=kO hs1;exact ⟨hk,by omega,jtq u hk λx hx=>vl (by rw [vsf v1,qA];exact ⟨u,hu,hx⟩)⟩
   have a2:∀u∈(sub s r).args,yv u=true/\nodes u<=31/\sub s u=u:=λu hu=>by
    have hk:=jue xr u hu;have:=qp hu;have:=kO hs2;exact ⟨hk,by omega,jtq u hk λx hx=>vr (by rw [vsf v2,qA];exact ⟨u,hu,hx⟩)⟩
   refine ⟨⟨hv,hi,λp hp=> ?_⟩,Or.inl ⟨rfl,?_⟩⟩
   .rcases zh.1 hp with hp|hp
    .have hm:=List.of_mem_zip (a:=p.1) (b:=p.2) hp;exact ⟨⟨Or.inl (a1 _ hm.1).1,(a1 _ hm.1).2.1⟩,⟨Or.inl (a2 _ hm.2).1,(a2 _ hm.2).2.1⟩⟩
    .exact hrest p hp
   .have:=jzH (s:=s) (sub s l).args (sub s r).args (λu hu=>(a1 u hu).2.2) (λu hu=>(a2 u hu).2.2);have e1:=jU (sub s l);have e2:=jU (sub s r);rw [jln,hmz];omega
  .cases hst
theorem jtw:∀(m1 m2:Nat) (s:js) (es:J6),Z4 s es->13 - s.length<=m1->mz s es<=m2-> ∃k res,zX k s es=some res:=by
 intro m1;induction m1 with
 | zero=>
  intro m2 s es h h1;have:=(j5 h.1).1;omega
 | succ m1 ih1=>
  intro m2;induction m2 with
  | zero=>
   intro s es h _ h2;cases es with
   | nil=>exact ⟨0,_,rfl⟩
   | cons p es=>
    have:=qH (sub s p.1);simp only [mz] at h2;omega
  | succ m2 ih2=>
   intro s es h h1 h2;cases es with
   | nil=>exact ⟨0,_,rfl⟩
   | cons p es=>
    obtain ⟨l,r⟩:=p;cases hst:y7 s l r es with
    | none=>exact ⟨1,none,by rw [zX,hst]⟩
    | some q=>
     obtain ⟨s',es'⟩:=q;obtain ⟨hinv,hor⟩:=zm h hst;have hl:=(j5 h.1).1;rcases hor with ⟨e,hlt⟩|e
     .obtain ⟨k,res,hk⟩:=ih2 s' es' hinv (by rw [e];exact h1) (by omega)
      exact ⟨k+1,res,by rw [zX,hst];exact hk⟩
     .obtain ⟨k,res,hk⟩:=ih1 (mz s' es') s' es' hinv (by omega) (kD _);exact ⟨k+1,res,by rw [zX,hst];exact hk⟩
theorem jAQ:∀(k:Nat) (s:js) (es:J6) {u:js},Z4 s es->zX k s es=some (some u)->jN u=true/\IdS u:=by
 intro k;induction k with
 | zero=>
  intro s es u h hu;cases es with
  | nil=>simp only [zX,kL] at hu;rw [<-hu];exact ⟨h.1,h.2.1⟩
  | cons p es=>simp [zX] at hu
 | succ k ih=>
  intro s es u h hu;cases es with
  | nil=>simp only [zX,kL] at hu;rw [<-hu];exact ⟨h.1,h.2.1⟩
  | cons p es=>
   obtain ⟨l,r⟩:=p;rw [zX] at hu;cases hst:y7 s l r es with
   | none=>rw [hst] at hu;simp at hu
   | some q=>
    rw [hst] at hu;exact ih q.1 q.2 (zm h hst).1 hu
def Bx (t:T):Prop:=(t.name = [61]/\t.args.length=2/\ ∀u∈t.args,yv u=true)\/(qP t.name=true/\yv t=true)
theorem Bx.rx {t:T} (h:Bx t):Rx' t:=h.elim (λh=>Or.inr ⟨h.1,h.2.2⟩) λh=>Or.inl h.2
theorem Bx.ax {t:T} (h:Bx t):yv t=true\/(t.name = [61]/\t.args.length=2/\ ∀u∈t.args,yv u=true):=h.elim Or.inr λh=>Or.inl h.2
theorem Bx.args {t:T} (h:Bx t):∀u∈t.args,yv u=true:=h.elim (λh=>h.2.2) λh=>zK h.2
theorem joj {n:List UInt8} (h:qP n=true):jp n=false:=by
 cases hv:jp n with
 | false=>rfl
 | true=>rw [jjY hv] at h;cases h
theorem Bx.nv {t:T} (h:Bx t):jp t.name=false:=h.elim (λh=>by rw [h.1];decide) λh=>joj h.1
theorem jGA {t:T} (h:t.args.length=2):t.args = [jab t,jbx t]:=by
 obtain ⟨n,us⟩:=t
 match us,h with
 | [a,b],_=>rfl
theorem jbO {t:T} :JZ t=true↔Bx t/\jD t=true:=by
 unfold JZ Bx;by_cases he:t.name = [61]
 .rw [jl he];unfold jbW;rw [ju,ju,ju,kG];constructor
  .rintro ⟨h1,h2,h3,h4⟩;refine ⟨Or.inl ⟨he,h1,λu hu=> ?_⟩,h2⟩;rw [jGA h1] at hu;simp only [j7,jbn,or_false] at hu;rcases hu with rfl|rfl
   .exact h3
   .exact h4
  .rintro ⟨h|h,h2⟩
   .obtain ⟨_,_,ma,mb⟩:=Zh h.2.1;exact ⟨h.2.1,h2,h.2.2 _ ma,h.2.2 _ mb⟩
   .rw [he] at h;exact absurd h.1 (by decide)
 .rw [jo he];unfold kY;rw [ju,ju];constructor
  .rintro ⟨h1,h2,h3⟩;exact ⟨Or.inr ⟨h1,h3⟩,h2⟩
  .rintro ⟨h|h,h2⟩
   .exact absurd h.1 he
   .exact ⟨h.1,h2,h.2⟩
theorem Bx.atom {t:T} (h:Bx t):JZ t=jD t:=by
 cases hs:jD t with
 | true=>exact jbO.2 ⟨h,hs⟩
 | false=>
  cases ha:JZ t with
  | false=>rfl
  | true=>rw [(jbO.1 ha).2] at hs;cases hs
theorem Bx.tsz {t:T} (h:Bx t):tsz t<=10 * nodes t:=by
 rcases h with h|h
 .rw [kW,jU,h.1,h.2.1];have:=juB h.2.2;simp only [zM,qO];omega
 .exact jdM t h.2
theorem Bx.tz {t:T} (h:Bx t) (hn:nodes t<=100000):Tz t:=by have:=h.tsz;unfold Tz;omega
theorem Bx.exx {t:T} (h:Bx t) (hn:nodes t<=31):Exx t:=⟨h.ax,hn⟩
theorem Bx.sub {s:js} (hs:jN s=true) {t:T} (h:Bx t):Bx (sub s t):=by
 obtain ⟨_,_,hv⟩:=j5 hs;have ho:∀q∈s,yv q.2=true:=λq hq=>jcY (hv q hq).2.1;have hn:=h.nv;rcases h with h|h
 .left;rw [jjV hn,je9 hn,jK];refine ⟨h.1,h.2.1,λu hu=> ?_⟩;obtain ⟨a,ha,rfl⟩:=ym.1 hu;exact ja7 ho a (h.2.2 a ha)
 .right;rw [jjV hn];exact ⟨h.1,ja7 ho t h.2⟩
theorem Yy {s:js} (hs:jN s=true):∀q∈s,nodes q.2<=30:=λq hq=>by
 have:=((j5 hs).2.2 q hq).2.1;unfold kY at this;rw [ju] at this;exact kO this.1
theorem ZB {s:js} (hs:jN s=true):∀q∈s,yv q.2=true:=λq hq=>jcY ((j5 hs).2.2 q hq).2.1
theorem jgj:jN []=true:=by unfold jN;simp [jo4]
mutual
theorem jlF (f:List UInt8->List UInt8):∀t:T,nodes (ze f t)<=nodes t
 | .mk n us=>by
  rw [ze];split
  .have:=qH (.mk n us);show 1+0<=_;omega
  .have:=jjG f us;simp only [nodes];omega
theorem jjG (f:List UInt8->List UInt8):∀ts:List T,jx (qx f ts)<=jx ts
 | []=>kD _
 | t::ts=>by have:=jlF f t;have:=jjG f ts;simp only [qx,jx];omega
end
mutual
theorem jCD (f:List UInt8->List UInt8):∀t:T,Yf (ze f t)<=Yf t
 | .mk n us=>by
  rw [ze];split
  .rw [Zi (.mk n us)];show 1+0<=_;omega
  .have:=jqY f us;simp only [Yf];omega
theorem jqY (f:List UInt8->List UInt8):∀ts:List T,QQ (qx f ts)<=QQ ts
 | []=>kD _
 | t::ts=>by have:=jCD f t;have:=jqY f ts;simp only [qx,QQ];omega
end
theorem je4 {f:List UInt8->List UInt8} {t:T} (h:jp t.name=false):(ze f t).name=t.name:=by rw [jaZ,h,jo kh];rfl
theorem jck {f:List UInt8->List UInt8} {t:T} (h:jp t.name=false):(ze f t).args=t.args.map (ze f):=by rw [jaZ,h,jo kh];rfl
theorem jAi {f:List UInt8->List UInt8} (hf:∀n,jp n=true->jp (f n)=true):∀t:T,yv t=true->yv (ze f t)=true:=by
 refine T.ind λt ih h=> ?_;cases hv:jp t.name with
 | true=>rw [jaZ,hv,jl rfl];exact jzO _ (hf _ hv)
 | false=>
  have hk:=h;rw [yT,hv,jo kh,ju,ju,kG] at h;rw [yT,je4 hv,jck hv,hv,jo kh,ju,ju,kG,jK,Ke,qm];refine ⟨h.1,h.2.1,λu hu=> ?_⟩;obtain ⟨a,ha,rfl⟩:=ym.1 hu;exact ih a ha (zK hk a ha)
theorem Bx.ren {f:List UInt8->List UInt8} (hf:∀n,jp n=true->jp (f n)=true) {t:T} (h:Bx t):Bx (ze f t):=by
 have hn:=h.nv;rcases h with h|h
 .left;rw [je4 hn,jck hn,jK];refine ⟨h.1,h.2.1,λu hu=> ?_⟩;obtain ⟨a,ha,rfl⟩:=ym.1 hu;exact jAi hf a (h.2.2 a ha)
 .right;rw [je4 hn];exact ⟨h.1,jAi hf t h.2⟩
theorem jfR:∀d:Nat,d < 10->Ka (UInt8.ofNat (48+d))=true:=by decide
theorem Jz {u:Nat} (h:u < 10):Lib.decDigits u = [UInt8.ofNat (48+u)]:=Lib.decDigits_one h
theorem Zj {u:Nat} (h:¬u < 10):Lib.decDigits u=Lib.decDigits (u / 10)++[UInt8.ofNat (48+u % 10)]:=by rw [Lib.decDigits,dif_neg h]
theorem KV:∀(k u:Nat),u < 10 ^ (k+1)->(Lib.decDigits u).all Ka=true/\(Lib.decDigits u).length<=k+1
 | 0,u,h=>by rw [Jz (by omega)];exact ⟨by rw [yC,jfR u (by omega),jdn];rfl,by simp⟩
 | k+1,u,h=>by
  by_cases hu:u < 10
  .rw [Jz hu];exact ⟨by rw [yC,jfR u hu,jdn];rfl,by simp⟩
  .obtain ⟨h1,h2⟩:=KV k (u / 10) (by rw [Nat.pow_succ] at h;omega)
   rw [Zj hu,List.all_append,h1,yn];exact ⟨by rw [yC,jfR (u % 10) (by omega),jdn];rfl,by simp only [zM,qO];omega⟩
theorem jxL:∀a:Nat,a < 10-> ∀b:Nat,b < 10->UInt8.ofNat (48+a)=UInt8.ofNat (48+b)->a=b:=by decide
theorem jub (a b:Nat) (h1:a < 10) (h2:b < 10) (h:UInt8.ofNat (48+a)=UInt8.ofNat (48+b)):a=b:=jxL a h1 b h2 h
theorem jsp:∀(u v:Nat),Lib.decDigits u=Lib.decDigits v->u=v:=by
 intro u;induction u using Nat.strongRecOn with
 | ind u ih=>
  intro v h;by_cases hu:u < 10<;>by_cases hv:v < 10
  .rw [Jz hu,Jz hv] at h;exact jub u v hu hv (by simpa using h)
  .have h2:=congrArg List.length h;rw [Jz hu,Zj hv,yn,Lib.decDigits_length] at h2;have:=Lib.nDigits_pos (v / 10);simp only [zM,qO] at h2;omega
  .have h2:=congrArg List.length h;rw [Jz hv,Zj hu,yn,Lib.decDigits_length] at h2;have:=Lib.nDigits_pos (u / 10);simp only [zM,qO] at h2;omega
  .rw [Zj hu,Zj hv] at h;obtain ⟨h1,h2⟩:=List.append_inj' h rfl;have e1:=ih (u / 10) (by omega) (v / 10) h1;have e2:=jub (u % 10) (v % 10) (by omega) (by omega) (by simpa using h2);omega
theorem jzK {p:UInt8} {i j:Nat} (h:Kd p i=Kd p j):i=j:=by
 unfold Kd at h;exact jsp i j (by simpa using h)
theorem jzL {p:UInt8} (hp:upc p=true) {i:Nat} (hi:i < 1000):jp (Kd p i)=true:=by
 obtain ⟨h1,h2⟩:=KV 2 i (by omega);show (upc p && ((Lib.decDigits i).all Ka && decide ((Lib.decDigits i).length<=3)))=true;rw [hp,h1,jR (by omega)];rfl
theorem jC7 {l:List (List UInt8)} {n x:List UInt8} :x∈vnA l n↔x∈l\/x=n:=by
 unfold vnA;split
 .rename_i h;rw [jgl] at h;exact ⟨Or.inl,λh'=>h'.elim id λe=>e ▸ h⟩
 .simp
theorem jwW {l:List (List UInt8)} {n:List UInt8} (h:l.Nodup):(vnA l n).Nodup:=by
 unfold vnA;split
 .exact h
 .rename_i hc;rw [jgl] at hc;refine jbm.2 ⟨h,by simp,λa ha b hb=> ?_⟩;simp only [zi] at hb;rintro rfl;exact hc (hb ▸ ha)
mutual
theorem jqx:∀(t:T) (l:List (List UInt8)) (x:List UInt8),x∈Zt l t↔x∈l\/x∈kT t
 | .mk n us,l,x=>by
  rw [Zt,kT];split
  .rw [jC7];simp
  .exact jqw us l x
theorem jqw:∀(ts:List T) (l:List (List UInt8)) (x:List UInt8),x∈jaS l ts↔x∈l\/x∈yy ts
 | [],l,x=>by simp [jaS,yy]
 | t::ts,l,x=>by rw [jaS,yy,jqw ts,jqx t,zh,jbq]
end
mutual
theorem jjg:∀(t:T) {l:List (List UInt8)},l.Nodup->(Zt l t).Nodup
 | .mk n us,l,h=>by
  rw [Zt];split
  .exact jwW h
  .exact jjf us h
theorem jjf:∀(ts:List T) {l:List (List UInt8)},l.Nodup->(jaS l ts).Nodup
 | [],l,h=>h
 | t::ts,l,h=>by rw [jaS];exact jjf ts (jjg t h)
end
theorem ji8:∀(c:kR) (l:List (List UInt8)) (x:List UInt8),x∈c.foldl (λl x=>Zt l x.2) l↔x∈l\/ ∃y∈c,x∈kT y.2
 | [],l,x=>by simp
 | y::c,l,x=>by rw [Zf,ji8 c,jqx,jbq];simp
theorem jdH {c:kR} {x:List UInt8} :x∈zl c↔ ∃y∈c,x∈kT y.2:=by unfold zl;rw [ji8];simp
theorem jaR (c:kR):(zl c).Nodup:=by
 have:∀(c:kR) (l:List (List UInt8)),l.Nodup->(c.foldl (λl x=>Zt l x.2) l).Nodup:=by
  intro c;induction c with
  | nil=>intro l h;exact h
  | cons y c ih=>intro l h;exact ih _ (jjg y.2 h)
 exact this c [] jgm
theorem jdI {c:kR} {x:List UInt8} (h:x∈zl c):jp x=true:=by
 obtain ⟨y,_,hx⟩:=jdH.1 h;exact jAS y.2 hx
def CN (c:kR):Prop:=c.length<=8/\ ∀l∈c,Bx l.2/\nodes l.2<=30
theorem Kr {c:kR} (h:CN c):(zl c).length<=240:=by
 have:∀(c:kR) (l:List (List UInt8)),(∀y∈c,nodes y.2<=30)->(c.foldl (λl x=>Zt l x.2) l).length<=l.length+30 * c.length:=by
  intro c;induction c with
  | nil=>intro l _;simp
  | cons y c ih=>
   intro l h;have h1:=jeR y.2 l;have h2:=h y (by simp);have h3:=ih (Zt l y.2) λz hz=>h z (by simp [hz]);rw [Zf,zM];omega
 have h2:=this c [] λy hy=>(h.2 y hy).2;have h3:=h.1;rw [qO] at h2;unfold zl;omega
theorem jkX {p:UInt8} {l:List (List UInt8)} {i:Nat} (hl:l.Nodup) (hi:i < l.length):zx p l l[i]=Kd p i:=by
 unfold zx;have:l.findIdx? (λx=>decide (x=l[i]))=some i:=by
  rw [jtB];refine ⟨hi,by simp,λj hj=> ?_⟩;simp only [kG,JO,Yc];intro e;exact (jma.1 hl) j i (by omega) hi hj e
 rw [this]
theorem jkY {p:UInt8} (hp:upc p=true) {l:List (List UInt8)} (hl:l.length<=1000) {n:List UInt8} (hn:jp n=true):jp (zx p l n)=true:=by
 unfold zx;split
 .rename_i i h;have:=(jtB.1 h).1;exact jzL hp (by omega)
 .exact hn
theorem jpI {α:Type} (c:α->α->Int) (l:List α) (x:α):(jbz c l x).length<=l.length+1:=by
 unfold jbz;split
 .omega
 .have:=congrArg List.length (jrK (p:=λa=>decide (c a x < 0)) (l:=l));rw [yn] at this;rw [yn,zM];omega
theorem jfW {α:Type} (c:α->α->Int) (l:List α):(qi c l).length<=l.length:=by
 have:∀(l m:List α),(l.foldl (jbz c) m).length<=m.length+l.length:=by
  intro l;induction l with
  | nil=>intro m;simp
  | cons x l ih=>
   intro m;have h1:=jpI c m x;have h2:=ih (jbz c m x);rw [Zf,zM];omega
 have:=this l [];simpa [qi] using this
theorem jfX {l:kR} {x:Lt} :x∈qi cmpL l↔x∈l:=(jcL KT l).2 x
theorem jqi {l:kR} (h:Asc cmpL l):qi cmpL l=l:=by
 obtain ⟨h1,h2⟩:=jcL KT l;exact jnd KT h1 h h2
theorem CN.make {l:kR} (hl:l.length<=8) (h:∀x∈l,Bx x.2/\nodes x.2<=30):CN (qi cmpL l):=⟨by have:=jfW cmpL l;omega,λx hx=>h x (jfX.1 hx)⟩
theorem CN.ren {p:UInt8} (hp:upc p=true) {c:kR} (h:CN c):∀x∈c.map (λl=>(l.1,ze (zx p (zl c)) l.2)),Bx x.2/\nodes x.2<=30:=by
 intro x hx;obtain ⟨l,hl,rfl⟩:=ym.1 hx;have hn:=Kr h;have:=jlF (zx p (zl c)) l.2;have:=(h.2 l hl).2;exact ⟨(h.2 l hl).1.ren λn hn=>jkY hp (by omega) hn,by show nodes (ze (zx p (zl c)) l.2)<=30;omega⟩
theorem CN.renC {p:UInt8} (hp:upc p=true) {c:kR} (h:CN c):CN (renC p c):=CN.make (by rw [jK];exact h.1) (h.ren hp)
theorem CN.normF:∀(k:Nat) {c:kR},CN c->CN (normF k c)
 | 0,c,h=>h
 | k+1,c,h=>by
  rw [Go.Proofs.YtbidbdhamhbebaaGreatDoor.normF];split
  .exact h
  .exact CN.normF k (CN.renC (by decide) h)
theorem CN.normC {c:kR} (h:CN c):CN (normC c):=CN.normF 10 h
theorem qy {c:kR} (h:yO c=true):CN c/\Asc cmpL c/\(∀l∈c,JZ l.2=true):=by
 unfold yO at h;rw [ju,ju,qm,kG,jo3] at h;exact ⟨⟨h.2.2,λl hl=>⟨(jbO.1 (h.1 l hl)).1,kO (jbO.1 (h.1 l hl)).2⟩⟩,h.2.1,h.1⟩
theorem CN.tz {c:kR} (h:CN c):∀l∈c,Tz l.2:=λl hl=>(h.2 l hl).1.tz (by have:=(h.2 l hl).2;omega)
theorem CN.rx {c:kR} (h:CN c):∀l∈c,Rx' l.2:=λl hl=>(h.2 l hl).1.rx
theorem jkZ {f:List UInt8->List UInt8} :∀ {xs bs:List T},(∀u∈xs,∀v∈bs,y9 (ze f u) (ze f v)=y9 u v)->yg (xs.map (ze f)) (bs.map (ze f))=yg xs bs
 | [],_,_=>rfl
 | _::_,[],_=>rfl
 | x::xs,b::bs,h=>by
  rw [yH,yH,yg,yg,h x (by simp) b (by simp),jkZ λu hu v hv=>h u (by simp [hu]) v (by simp [hv])]
theorem Rx'.va {t:T} (h:Rx' t) (hv:jp t.name=true):t.args = []:=h.elim (λh=>JN h hv) λh=>by rw [h.1] at hv;exact absurd hv (by decide)
theorem jBr {L:List (List UInt8)} {f:List UInt8->List UInt8} (hf:∀n∈L,jp (f n)=true) (hc:∀n∈L,∀m∈L,zI (f n) (f m)=zI n m):∀a:T,Rx' a->(∀x∈kT a,x∈L)-> ∀b:T,Rx' b->(∀x∈kT b,x∈L)->y9 (ze f a) (ze f b)=y9 a b:=by
 refine T.ind λa ih ra la b rb lb=> ?_;have hk:cK (yS (ze f a)) (yS (ze f b))=cK (yS a) (yS b):=by
  have v1:∀t:T,Rx' t->(∀x∈kT t,x∈L)->jp t.name=true->yS t=(0,(t.name,0))/\yS (ze f t)=(0,(f t.name,0))/\t.name∈L:=λt rt lt hv=>by
   have ha:=rt.va hv;have hm:t.name∈L:=lt _ (by rw [vsv hv];simp);have e1:vF t.name=0:=by unfold vF;rw [hv,jl rfl]
   have e2:vF (f t.name)=0:=by unfold vF;rw [hf _ hm,jl rfl]
   refine ⟨by unfold yS;rw [e1,ha];rfl,?_,hm⟩
   rw [jaZ,hv,jl rfl];show (vF (f t.name),(f t.name,0))=_;rw [e2]
  have v2:∀t:T,jp t.name=false->yS (ze f t)=yS t/\(yS t).1=1:=λt hv=>by
   refine ⟨by unfold yS;rw [je4 hv,jck hv,jK],?_⟩
   show vF t.name=1;unfold vF;rw [hv,jo kh]
  cases va:jp a.name<;>cases vb:jp b.name
  .rw [(v2 a va).1,(v2 b vb).1]
  .obtain ⟨p1,p2,_⟩:=v1 b rb lb vb;obtain ⟨q1,q2⟩:=v2 a va;rw [q1,p1,p2];have e:∀z:Key,z.1=0->cK (yS a) z=1:=λz hz=>by
    have:zJ (yS a).1 z.1=1:=by rw [q2,hz];decide
    unfold cK;rw [this,jl (by decide)]
   rw [e _ rfl,e _ rfl]
  .obtain ⟨p1,p2,_⟩:=v1 a ra la va;obtain ⟨q1,q2⟩:=v2 b vb;rw [q1,p1,p2];have e:∀z:Key,z.1=0->cK z (yS b) = -1:=λz hz=>by
    have:zJ z.1 (yS b).1 = -1:=by rw [q2,hz];decide
    unfold cK;rw [this,jl (by decide)]
   rw [e _ rfl,e _ rfl]
  .obtain ⟨p1,p2,p3⟩:=v1 a ra la va;obtain ⟨q1,q2,q3⟩:=v1 b rb lb vb;rw [p1,p2,q1,q2];unfold cK;simp only;rw [hc _ p3 _ q3]
 rw [Yj,Yj a b,hk];by_cases h0:cK (yS a) (yS b)=0
 .rw [jo (λh=>h h0),jo (λh=>h h0)];cases va:jp a.name with
  | true=>
   have:(ze f a).args = []:=by rw [jaZ,va,jl rfl];rfl
   rw [this,ra.va va];rfl
  | false=>
   have vb:jp b.name=false:=by rw [<-(jfT ((QP.zero _ _).1 h0)).1];exact va
   rw [jck va,jck vb];exact jkZ λu hu v hv=>ih u hu (ra.args u hu) (λx hx=>la x (by rw [vsf va,qA];exact ⟨u,hu,hx⟩)) v (rb.args v hv) λx hx=>lb x (by rw [vsf vb,qA];exact ⟨v,hv,hx⟩)
 .rw [jl h0,jl h0]
def jY (d:kR):kR:=d.map λl=>(l.1,ze (zx 89 (zl d)) l.2)
def jV (c:kR):Bool:=yO c && KX c
theorem ky {c:kR} (h:jV c=true):CN c/\Asc cmpL c/\yO c=true/\KX c=true:=by
 unfold jV at h;rw [ju] at h;exact ⟨(qy h.1).1,(qy h.1).2.1,h.1,h.2⟩
theorem jvh (p q:UInt8) (x y:List UInt8):zI (p::x) (p::y)=zI (q::x) (q::y):=by
 have e:yQ (p::x) (p::y)=yQ (q::x) (q::y):=by
  rw [Y8,Y8];congr 1;simp [List.cons_lt_cons_iff]
 unfold zI;rw [e];simp
theorem jdK {d:kR} (h:KX d=true) {n:List UInt8} (hn:n∈zl d):∃i,i < (zl d).length/\n=Kd 88 i/\zx 89 (zl d) n=Kd 89 i:=by
 obtain ⟨i,hi,rfl⟩:=jkl.1 hn;unfold KX at h;rw [kG] at h;refine ⟨i,hi,?_,jkX (jaR d) hi⟩;have:=congrArg (λl=>l[i]?) h;simp only [zk hi,yu,jbf hi,K5] at this;exact ZE this
theorem ju8 {d:kR} (h:jV d=true):Asc cmpL (jY d):=by
 obtain ⟨hc,ha,_,hn⟩:=ky h;have hl:=Kr hc;unfold Asc jY;rw [jke];refine List.Pairwise.imp_of_mem ?_ ha;intro x y hx hy hlt;have e:y9 (ze (zx 89 (zl d)) x.2) (ze (zx 89 (zl d)) y.2)=y9 x.2 y.2:=by
  refine jBr (L:=zl d) (λn hn'=>jkY (by decide) (by omega) (jdI hn')) (λn h1 m h2=> ?_) x.2 (hc.rx x hx) (λz hz=>jdH.2 ⟨x,hx,hz⟩) y.2 (hc.rx y hy) (λz hz=>jdH.2 ⟨y,hy,hz⟩);obtain ⟨i,_,rfl,e1⟩:=jdK hn h1;obtain ⟨j,_,rfl,e2⟩:=jdK hn h2;rw [e1,e2];exact jvh _ _ _ _
 show cmpL (x.1,ze (zx 89 (zl d)) x.2) (y.1,ze (zx 89 (zl d)) y.2) < 0;unfold cmpL at hlt ⊢;simp only;rw [e];exact hlt
theorem apart_eq {d:kR} (h:jV d=true):renC 89 d=jY d:=jqi (ju8 h)
theorem jo0 {d:kR} (h:jV d=true):CN (jY d):=⟨by unfold jY;rw [jK];exact (ky h).1.1,(ky h).1.ren (by decide)⟩
theorem jfK (d:kR):(jY d).length=d.length:=by unfold jY;rw [jK]
open Classical in
noncomputable def Q0 (a b:T):Option js:=if h:∃r k,zX k [] [(a,b)]=some r then h.choose else none
theorem juZ {a b:T} (ha:Exx a) (hb:Exx b):Z4 [] [(a,b)]:=⟨jgj,(λ_ h=>(jbn h).elim:IdS []),λp hp=>by rw [zi.1 hp];exact ⟨ha,hb⟩⟩
theorem jcw {a b:T} (ha:Exx a) (hb:Exx b):∃k,zX k [] [(a,b)]=some (Q0 a b):=by
 obtain ⟨k,r,h⟩:=jtw 13 _ [] [(a,b)] (juZ ha hb) (by simp) (kD _);have hex:∃r k,zX k [] [(a,b)]=some r:=⟨r,k,h⟩;unfold Q0;rw [dif_pos hex];exact hex.choose_spec
theorem Yx {a b:T} (ha:Exx a) (hb:Exx b) {u:js} (h:Q0 a b=some u):jN u=true:=by
 obtain ⟨k,hk⟩:=jcw ha hb;rw [h] at hk;exact (jAQ k _ _ (juZ ha hb) hk).1
noncomputable def QN (s:js) (l:kR):Option kR:=if (l.all λx=>jD (sub s x.2)) && yO (qi cmpL (l.map λx=>(x.1,sub s x.2))) then some (qi cmpL (l.map λx=>(x.1,sub s x.2))) else none
noncomputable def J9 (s:js) (l:kR):Option kR:=(QN s l).bind λc=>if jV (normC c) then some (normC c) else none
abbrev cz:A:= .agg [.sl 3 []]
def Zu (o:Option kR):Option Out:=match o with|some c=>some (.tup [cm c,vb true],[])|none=>some (.tup [cz,vb false],[])
theorem ZX {s:js} {l:kR} {c:kR} (h:J9 s l=some c):jV c=true:=by
 unfold J9 at h;rw [zB] at h;obtain ⟨d,_,h⟩:=h;split at h
 .rename_i hn;cases h;exact hn
 .cases h
theorem jej {s:js} {l:kR} {c:kR} (h:QN s l=some c):yO c=true/\Asc cmpL c:=by
 unfold QN at h;split at h
 .rename_i hn;cases h;rw [ju] at hn;exact ⟨hn.2,(jcL KT _).1⟩
 .cases h
def atI:List Int->T->Option T
 | [],t=>some t
 | i::p,t=>if 0<=i/\i < (t.args.length:Int) then atI p (t.args.getD i.toNat (.mk [] [])) else none
theorem jxp:∀ {p:List Int} {t u:T},atI p t=some u-> ∃q:List Nat,p=q.map (λn:Nat=>(n:Int))/\okP q t/\u=atT q t
 | [],t,u,h=>by simp only [atI,kL] at h;exact ⟨[],rfl,trivial,h.symm⟩
 | i::p,t,u,h=>by
  rw [atI] at h;split at h;rotate_left
  .cases h
  rename_i hi;obtain ⟨q,e,h1,h2⟩:=jxp h;refine ⟨i.toNat::q,?_,⟨by omega,h1⟩,h2⟩;rw [yH,<-e];congr 1;omega
theorem jzN:∀ {p:List Nat} {t:T},p≠ []->okP p t->(∀u∈t.args,yv u=true)->yv (atT p t)=true/\nodes (atT p t)<=nodes t
 | [],t,h,_,_=>absurd rfl h
 | i::p,t,_,h,ha=>by
  obtain ⟨h1,h2⟩:=h;rw [atT];rw [qu h1] at h2 ⊢;have hm:t.args[i]∈t.args:=jr h1;have hk:=ha _ hm;have hn:=qp hm;by_cases hp:p = []
  .subst hp;exact ⟨hk,by show nodes t.args[i]<=_;omega⟩
  .have:=jzN hp h2 (zK hk);exact ⟨this.1,by omega⟩
theorem jop {s:T} (hs:yv s=true):∀ {p:List Nat} {t:T},okP p t->yv t=true->yv (zt s p t)=true
 | [],t,_,_=>hs
 | i::p,t,h,hk=>by
  obtain ⟨h1,h2⟩:=h;rw [qu h1] at h2;have hv:jp t.name=false:=by
   cases hv:jp t.name with
   | false=>rfl
   | true=>rw [JN hk hv] at h1;simp at h1
  have hk':=hk;rw [yT,hv,jo kh,ju,ju,kG] at hk;rw [zt,qu h1,yT];show (if jp t.name=true then _ else (qP t.name && (decide ((t.args.set i (zt s p t.args[i])).length<=4) && jca (t.args.set i (zt s p t.args[i])))))=true;rw [hv,jo kh,jkh,hk.1,jR hk.2.1,Ke,jI,jI,qm];intro u hu;rcases jox hu with hu|hu
  .exact zK hk' u hu
  .rw [hu];exact jop hs h2 (zK hk' _ (jr h1))
theorem jDb {s:T} (hs:yv s=true) {p:List Nat} {t:T} (hp:p≠ []) (h:okP p t) (hb:Bx t):Bx (zt s p t):=by
 match p,hp,h with
 | i::p,_,⟨h1,h2⟩=>
  rw [qu h1] at h2;rcases hb with hb|hb
  .left;rw [zt,qu h1];refine ⟨hb.1,by show (t.args.set i _).length=2;rw [jkh];exact hb.2.1,λu hu=> ?_⟩;rcases jox (show u∈t.args.set i (zt s p t.args[i]) from hu) with hu|hu
   .exact hb.2.2 u hu
   .rw [hu];exact jop hs h2 (hb.2.2 _ (jr h1))
  .right;refine ⟨hb.1,?_⟩;exact jop (p:=i::p) hs ⟨h1,by rw [qu h1];exact h2⟩ hb.2
theorem jj5 (s:T):∀(p:List Nat) (t:T),okP p t->nodes (zt s p t)<=nodes t+nodes s
 | [],t,_=>by rw [zt];omega
 | i::p,t,h=>by
  obtain ⟨h1,h2⟩:=h;rw [qu h1] at h2;have ih:=jj5 s p t.args[i] h2;rw [zt,qu h1,jU t];show 1+jx (t.args.set i (zt s p t.args[i]))<=_;have key:∀(ts:List T) (i:Nat) (h:i < ts.length) (u:T),nodes u<=nodes ts[i]+nodes s->jx (ts.set i u)<=jx ts+nodes s:=by
   intro ts;induction ts with
   | nil=>intro i h;simp at h
   | cons x xs ih2=>
    intro i h u hu;cases i with
    | zero=>simp only [jgt,jx,List.getElem_cons_zero] at hu ⊢;omega
    | succ i=>
     have:=ih2 i (by simpa using h) u (by simpa using hu);simp only [jki,jx];omega
  have:=key t.args i h1 _ ih;omega
def EXB (t:T):Prop:=EX false t/\Bx t
theorem jcb {rs:List T} (hr:RS rs) {t u:T} (h:EXB t) (ho:jal rs false t=some u):Tz u/\Bx u/\(jD u=true->EX false u)/\G 236 [tm u]=some (vb (jD u),[]):=by
 have hn:=jsW hr t false h.1 ho;have hn0:=h.1.1.1;rw [jeQ] at ho;split at ho;rotate_left
 .cases ho
 rename_i us hus;cases ho;obtain ⟨g1,g2⟩:=jdN hus;have hk:∀v∈us,yv v=true:=g2 (λv=>yv v=true) (λv hv=>(h.1.2.1 v hv).1) λv hv u' hu'=>jCr hr.ok v (h.1.2.1 v hv).1 hu';have hb:Bx (.mk t.name us):=by
  rcases h.2 with h2|h2
  .exact Or.inl ⟨h2.1,g1.trans h2.2.1,hk⟩
  .refine Or.inr ⟨h2.1,?_⟩;have h3:=h2.2;rw [yT,joj h2.1,jo kh,ju,ju,kG] at h3;rw [yT];show (if jp t.name=true then _ else (qP t.name && (decide (us.length<=4) && jca us)))=true;rw [joj h2.1,jo kh,h2.1,g1,jR h3.2.1,Ke,jI,jI,qm];exact hk
 have hz:Tz (.mk t.name us):=hb.tz (by omega);refine ⟨hz,hb,λhs=> ?_,jna hz hb.ax⟩;have hns:=kO hs;refine ⟨⟨by omega,hz⟩,λv hv=>⟨hk v hv,?_⟩,λh=>by cases h⟩;have:=qp (t:= .mk t.name us) hv;omega
theorem jte (rs:List T) (hr:RS rs):∀(k n:Nat),k+n=51->1<=k-> ∀t:T,EXB t->jh4 (jQ rs) (vb false) (vi (n:Nat)) (sv []) (sv t.name) (jQ t.args) []=jqz (rwN rs false k n t):=by
 intro k;induction k with
 | zero=>intro n _ h;omega
 | succ k ih=>
  intro n hk _ t ht;have e1:=jvY rs hr false t ht.1;rw [jFq,rwN];cases ho:jal rs false t with
  | none=>
   rw [ho] at e1;have e1:G 245 [tm t,jQ rs,vb false]=some (.tup [tm t,vb false],[]):=e1;show _=some (A.tup [tm t,vi (n:Nat),vb true],[]);simp only [je,e1]
  | some u=>
   rw [ho] at e1;have e1:G 245 [tm t,jQ rs,vb false]=some (.tup [tm u,vb true],[]):=e1;obtain ⟨hu,hb,hs,hA⟩:=jcb hr ht ho;have e2:G 236 [tm u]=some (vb (jD u),[]):=hA;by_cases h50:n=50
   .have hk0:k=0:=by omega
    have hn:((n:Nat):Int)=50:=by omega
    show _=jqz (if k=0\/jD u=false then none else rwN rs false k (n+1) u);rw [jl (Or.inl hk0)];show _=some (A.tup [.agg [sv [],.sl 2 []],vi 0,vb false],[]);simp only [je,e1,hn]
   .have hn:¬((n:Nat):Int)=50:=by omega
    have hk0:¬k=0:=by omega
    show _=jqz (if k=0\/jD u=false then none else rwN rs false k (n+1) u);cases hsm:jD u with
    | false=>
     rw [hsm] at e2;rw [jl (Or.inr rfl)];show _=some (A.tup [.agg [sv [],.sl 2 []],vi 0,vb false],[]);simp only [je,e1,hn,e2]
    | true=>
     rw [hsm] at e2;rw [jo (by simp [hk0])];have h5:ck ((n:Int)+1)=some (vi ((n+1:Nat):Int)):=j8 (by omega) (by omega);have:=ih (n+1) (by omega) (by omega) u ⟨hs hsm,hb⟩;rw [<-this];simp only [je,e1,hn,e2,h5]
theorem jtd (rs:List T) (hr:RS rs):∀(k n:Nat),k+n=51->1<=k-> ∀t:T,EXB t->jhX (jQ rs) (vb false) (vi (n:Nat)) (sv []) (sv t.name) (jQ t.args) []=jqz (rwN rs false k n t):=by
 intro k;induction k with
 | zero=>intro n _ h;omega
 | succ k ih=>
  intro n hk _ t ht;have e1:=jvW rs hr t false ht.1;rw [jFj,rwN];cases ho:jal rs false t with
  | none=>
   rw [ho] at e1;have e1:G 200 [tm t,jQ rs,vb false]=some (.tup [.agg [sv [],.sl 2 []],vb false],[]):=e1;show _=some (A.tup [tm t,vi (n:Nat),vb true],[]);simp only [je,e1]
  | some u=>
   rw [ho] at e1;have e1:G 200 [tm t,jQ rs,vb false]=some (.tup [tm u,vb true],[]):=e1;obtain ⟨hu,hb,hs,hA⟩:=jcb hr ht ho;have e2:G 119 [tm u]=some (vb (jD u),[]):=jaL u hu.wf hu;by_cases h50:n=50
   .have hk0:k=0:=by omega
    have hn:((n:Nat):Int)=50:=by omega
    show _=jqz (if k=0\/jD u=false then none else rwN rs false k (n+1) u);rw [jl (Or.inl hk0)];show _=some (A.tup [.agg [sv [],.sl 2 []],vi 0,vb false],[]);simp only [je,e1,hn]
   .have hn:¬((n:Nat):Int)=50:=by omega
    have hk0:¬k=0:=by omega
    show _=jqz (if k=0\/jD u=false then none else rwN rs false k (n+1) u);cases hsm:jD u with
    | false=>
     rw [hsm] at e2;rw [jl (Or.inr rfl)];show _=some (A.tup [.agg [sv [],.sl 2 []],vi 0,vb false],[]);simp only [je,e1,hn,e2]
    | true=>
     rw [hsm] at e2;rw [jo (by simp [hk0])];have h5:ck ((n:Int)+1)=some (vi ((n+1:Nat):Int)):=j8 (by omega) (by omega);have:=ih (n+1) (by omega) (by omega) u ⟨hs hsm,hb⟩;rw [<-this];simp only [je,e1,hn,e2,h5]
theorem jAm (rs:List T) (hr:RS rs) (t:T) (ht:EXB t):G 215 [tm t,jQ rs,vb false]=jqz (rwN rs false 51 0 t):=by
 have e1:=jcc t ht.1.1.2;have:=jte rs hr 51 0 rfl (by decide) t ht;have:jh4 (jQ rs) (vb false) (vi 0) (sv []) (sv t.name) (jQ t.args) []=_:=this;rw [jJz];simp only [je,e1,this]
theorem jAl (rs:List T) (hr:RS rs) (t:T) (ht:EXB t):G 169 [tm t,jQ rs,vb false]=jqz (rwN rs false 51 0 t):=by
 have e1:=Jy t ht.1.1.2;have:=jtd rs hr 51 0 rfl (by decide) t ht;have:jhX (jQ rs) (vb false) (vi 0) (sv []) (sv t.name) (jQ t.args) []=_:=this;rw [jI3];simp only [je,e1,this]
theorem Bx.exB {t:T} (h:Bx t) (hn:nodes t<=30):EXB t:=⟨⟨⟨by omega,h.tz (by omega)⟩,λu hu=>⟨h.args u hu,by have:=qp hu;omega⟩,λh=>by cases h⟩,h⟩
theorem jge {rs:List T} (hr:RS rs):∀(k n:Nat) {t:T} {r:T × Nat},EXB t->rwN rs false k n t=some r->Bx r.1/\nodes r.1<=31
 | 0,n,t,r,_,h=>by simp [rwN] at h
 | k+1,n,t,r,ht,h=>by
  rw [rwN] at h;cases ho:jal rs false t with
  | none=>rw [ho] at h;cases h;exact ⟨ht.2,ht.1.1.1⟩
  | some u=>
   rw [ho] at h;have h:(if k=0\/jD u=false then none else rwN rs false k (n+1) u)=some r:=h;split at h
   .cases h
   rename_i hc;obtain ⟨_,hb,hs,_⟩:=jcb hr ht ho;have hsm:jD u=true:=by
    cases hs':jD u with
    | true=>rfl
    | false=>exact absurd (Or.inr hs') hc
   exact jge hr k (n+1) ⟨hs hsm,hb⟩ h
open Go Go.RowKit Go.Proofs.YtbidbdhamhbebaaGreatDoor.Abs Go.Sort
section
variable {α:Type} {c:α->α->Int}
theorem jqJ {β γ:Type} (f:β->β->γ) (ys:List β):∀(xs:List β) (i j:Nat) (x y:β),xs[i]? = some x->ys[j]? = some y->(xs.flatMap λx=>ys.map λy=>f x y)[i * ys.length+j]? = some (f x y)
 | [],i,j,x,y,h,_=>by simp at h
 | a::xs,i,j,x,y,h,hy=>by
  have hj:=(qM.1 hy).1;rw [List.flatMap_cons];cases i with
  | zero=>simp at h;subst h;rw [Nat.zero_mul,Jg,Je (by simpa using hj),yu,hy];rfl
  | succ i=>
   rw [Kv (by simp [qf];omega)]
   have:(i+1) * ys.length+j - (ys.map λy=>f a y).length=i * ys.length+j:=by simp [qf];omega
   rw [this];exact jqJ f ys xs i j x y (by simpa using h) hy
theorem extract_all {β:Type} (e:Array β) {n:Nat} (h:e.size=n):e.extract 0 n=e:=by subst h;simp
theorem Law3.swo (h:Law3 c) {β:Type} (g:β->α) {lt:β->β->Bool} (hl:∀i j,lt i j=decide (c (g i) (g j) < 0)):SWO lt:=by
 refine ⟨λx=> ?_,λx y z h1 h2=> ?_,λx y z h1 h2=> ?_⟩
 .rw [hl,(h.zero _ _).2 rfl];rfl
 .rw [hl,kG] at *;exact h.trans _ _ _ h1 h2
 .rw [hl,Yc] at *;intro h3;have f1:=h.flip (g x) (g y);have f2:=h.flip (g y) (g z);by_cases e1:c (g x) (g y)=0
  .rw [(h.zero _ _).1 e1] at h3;exact h2 h3
  by_cases e2:c (g y) (g z)=0
  .rw [<-(h.zero _ _).1 e2] at h3;exact h1 h3
  have:=h.trans (g z) (g y) (g x) (by omega) (by omega);have f3:=h.flip (g x) (g z);omega
theorem jod {γ:Type} {c:γ->γ->Int} (hc:Law3 c) (f:α->γ) (enc:α->List A) (k:Nat) (l:List α) (hl:l.length < 4611686018427387904):∃s:List α,s.Perm l/\s.Pairwise (λa b=>¬c (f b) (f a) < 0)/\jjO k (l.map enc) (l.flatMap λx=>l.map λy=>c (f x) (f y))=some (.top,[.sl k (s.map enc)]):=by
 cases l with
 | nil=>exact ⟨[],List.Perm.refl _,List.Pairwise.nil,rfl⟩
 | cons a l'=>
  generalize hcs:((a::l').flatMap λx=>(a::l').map λy=>c (f x) (f y))=cs;rw [yH];have hN:(l'.map enc).length+1=(a::l').length:=by simp
  let g:Fin ((l'.map enc).length+1)->α:=λi=>(a::l')[i.val]'(by rw [<-hN];exact i.isLt)
  have hg:∀i:Fin ((l'.map enc).length+1),(a::l')[i.val]? = some (g i):=λi=>zk _;have hT:∀i j,ltO (jhe ((l'.map enc).length+1) cs) i j=decide (c (f (g i)) (f (g j)) < 0):=λi j=>by
   have:=jqJ (λx y=>c (f x) (f y)) (a::l') (a::l') i.val j.val _ _ (hg i) (hg j);rw [hcs,<-hN] at this;unfold ltO jhe;rw [qE,this];rfl
  have hS:=hc.swo (λi=>f (g i)) hT;have hsz:(l'.map enc).length+1 < 4611686018427387904:=by rw [hN];exact hl
  generalize hd:(Array.ofFn (n:=(l'.map enc).length+1) id)=d;have hds:d.size=(l'.map enc).length+1:=by rw [<-hd];simp
  obtain ⟨hp,hs⟩:=pdq_sorts (ltO (jhe ((l'.map enc).length+1) cs)) hS d 0 ((l'.map enc).length+1) (Lib.bitLen ((l'.map enc).length+1)) true true (jE _) (by omega) (Or.inl rfl);have hrow:jjO k (enc a::l'.map enc) cs=some (.top,[.sl k ((pdq (ltO (jhe ((l'.map enc).length+1) cs)) d 0 ((l'.map enc).length+1) (Lib.bitLen ((l'.map enc).length+1)) true true).toList.map λi=>(enc a::l'.map enc).getD i.val [])]):=by
   unfold jjO;simp only;rw [jl ⟨hS,hsz⟩,hd]
  rw [hrow];generalize pdq (ltO (jhe ((l'.map enc).length+1) cs)) d 0 ((l'.map enc).length+1) (Lib.bitLen ((l'.map enc).length+1)) true true=D at *;obtain ⟨p1,_,p3⟩:=hp;rw [extract_all D (by omega),extract_all d hds] at p3;refine ⟨D.toList.map g,?_,?_,?_⟩
  .have h1:(D.toList.map g).Perm (d.toList.map g):=p3.map g;have h2:d.toList.map g=a::l':=by
    refine Ye λi=> ?_;rw [<-hd];by_cases hi:i < (l'.map enc).length+1
    .rw [yu,Qk,K4 (by simpa using hi)];simp only [Array.getElem_ofFn,K5,id];exact (hg ⟨i,hi⟩).symm
    .rw [yW (by simp at hi ⊢;omega),yW (by simp at hi ⊢;omega)]
   rw [h2] at h1;exact h1
  .rw [jke];rw [jma];intro i j hi hj hij;have hD:D.size=(l'.map enc).length+1:=by omega
   rw [jfh] at hi hj;have:=hs i j (jE _) hij (by omega);rw [Qj D i hi,Qj D j hj,hT,Yc] at this;simpa using this
  .congr 3;rw [Jf];refine congrArg (A.sl k) (jko λi _=> ?_);rw [<-yH,qE,yu,hg i];rfl
end
theorem jik {β:Type} (f:β->FuncId × List A) (r:β->Int):∀qs:List β,(∀b∈qs,K.pureF (f b).1=true/\G (f b).1 (f b).2=some (vi (r b),[]))->askAll K (MM K) (qs.map f)=some (qs.map λb=>(vi (r b),[]))
 | [],_=>rfl
 | b::qs,h=>by
  have ih:=jik f r qs λb' hb=>h b' (by simp [hb]);obtain ⟨h1,h2⟩:=h b (by simp);rw [yH,yH];show (if K.pureF (f b).1 then (MM K (.call (f b).1 (f b).2)).bind λo=>(askAll K (MM K) (qs.map f)).bind λos=>some (o::os) else none)=_;have h2:MM K (.call (f b).1 (f b).2)=some (vi (r b),[]):=h2;rw [h1,jl rfl,h2,ih];rfl
theorem jlt {β:Type} (r:β->Int):∀qs:List β,jgX (qs.map λb=>(vi (r b),[]))=some (qs.map r)
 | []=>rfl
 | b::qs=>by
  rw [yH,yH,jgX,jlt r qs];rfl
theorem jpo {α γ:Type} {c:γ->γ->Int} (hc:Law3 c) (f:α->γ) (enc:α->List A) (k:Nat) (g:FuncId) (hp:K.pureF g=true) (l:List α) (hl:l.length < 4611686018427387904) (h:∀x∈l,∀y∈l,G g [.agg (enc x),.agg (enc y)]=some (vi (c (f x) (f y)),[])):∃s:List α,s.Perm l/\s.Pairwise (λa b=>¬c (f b) (f a) < 0)/\extRun K (MM K) (sfE k) [V.row 0,V.fn g []] [.row k (l.map enc)]=some (.top,[.sl k (s.map enc)]):=by
 obtain ⟨s,h1,h2,h3⟩:=jod hc f enc k l hl;refine ⟨s,h1,h2,?_⟩;have hq:jri [V.row 0,V.fn g []] [.row k (l.map enc)]=some ((l.flatMap λx=>l.map λy=>(x,y)).map λq=>(g,[A.agg (enc q.1),A.agg (enc q.2)])):=by
  show some ((l.map enc).flatMap λx=>(l.map enc).map λy=>(g,[A.agg x,A.agg y]++[]))=_;congr 1;rw [List.flatMap_map,List.map_flatMap];refine congrArg (λh=>l.flatMap h) (funext λx=> ?_);rw [Jf,Jf];rfl
 have ha:=jik (λq:α × α=>(g,[A.agg (enc q.1),A.agg (enc q.2)])) (λq=>c (f q.1) (f q.2)) (l.flatMap λx=>l.map λy=>(x,y)) λq hq=>by
  obtain ⟨x,hx,hq⟩:=List.mem_flatMap.1 hq;obtain ⟨y,hy,rfl⟩:=ym.1 hq;exact ⟨hp,h x hx y hy⟩
 have hc':((l.flatMap λx=>l.map λy=>(x,y)).map λq=>c (f q.1) (f q.2))=l.flatMap λx=>l.map λy=>c (f x) (f y):=by
  rw [List.map_flatMap];refine congrArg (λh=>l.flatMap h) (funext λx=> ?_);rw [Jf];rfl
 have ho:=jlt (λq:α × α=>c (f q.1) (f q.2)) (l.flatMap λx=>l.map λy=>(x,y));rw [hc'] at ho;show (jri [V.row 0,V.fn g []] [.row k (l.map enc)]).bind _=_;rw [hq,yo,ha,yo];show (if Nat.beq k k then (jgX _).bind λcs=>jjO k (l.map enc) cs else none)=_;rw [Nat.beq_refl,jl rfl,ho];exact h3
theorem jEd:∀d:Nat,d < 10->Yt (sv [48,49,50,51,52,53,54,55,56,57]) (some (vi (d:Nat))) (some (vi ((d+1:Nat):Int)))=some (sv [UInt8.ofNat (48+d)])
 | 0,_=>rfl|1,_=>rfl|2,_=>rfl|3,_=>rfl|4,_=>rfl|5,_=>rfl|6,_=>rfl|7,_=>rfl|8,_=>rfl|9,_=>rfl
theorem jpY:∀n:Nat,n<=1000000->G 62 [vi (n:Nat)]=some (sv (Lib.decDigits n),[]):=by
 intro n;induction n using Nat.strongRecOn with
 | ind n ih=>
  intro hn;have h0:¬((n:Nat):Int) < 0:=by omega
  rw [g62];by_cases h:n < 10
  .have h1:((n:Nat):Int) < 10:=by omega
   have h2:ck ((n:Int)+1)=some (vi ((n+1:Nat):Int)):=j8 (by omega) (by omega);have h3:=jEd n h;rw [Jz h];simp only [je,h0,h1,h2,h3]
  .have h1:¬((n:Nat):Int) < 10:=by omega
   have hq:jz .quo false (vi (n:Nat)) (vi 10)=some (vi ((n / 10:Nat):Int)):=by
    show ck (((n:Nat):Int).tdiv 10)=_;rw [Int.tdiv_eq_ediv_of_nonneg (by omega)];exact j8 (by omega) (by omega)
   have hr:jz .rem false (vi (n:Nat)) (vi 10)=some (vi ((n % 10:Nat):Int)):=by
    show some (vi (((n:Nat):Int).tmod 10))=_;rw [Int.tmod_eq_emod_of_nonneg (by omega)];rfl
   have h2:ck (((n % 10:Nat):Int)+1)=some (vi ((n % 10+1:Nat):Int)):=j8 (by omega) (by omega);have h3:=jEd (n % 10) (by omega);have h4:=ih (n / 10) (by omega) (by omega);have hl:(Lib.decDigits (n / 10)).length + [UInt8.ofNat (48+n % 10)].length<=9223372036854775807:=by
    have:=(KV 6 (n / 10) (by omega)).2;simp only [zM,qO];omega
   have h5:=jf0 false (Lib.decDigits (n / 10)) [UInt8.ofNat (48+n % 10)];rw [jl hl] at h5;rw [Zj h];simp only [je,h0,h1,hq,hr,h2,h3,h4,h5]
theorem jus (n:Nat) (hn:n<=1000000):G 74 [vi (n:Nat)]=some (sv (Lib.decDigits n),[]):=by
 have:K.ext 74=some jur:=rfl;rw [jGm this];show (if -9223372036854775808<=((n:Nat):Int)/\((n:Nat):Int)<=9223372036854775807 then some (sv (Lib.itoa (n:Nat)),[]) else none)=_;rw [jl (by omega)];unfold Lib.itoa;rw [jo (by omega),jkn]
def jb9:Nat->List (List UInt8)->Bool
 | _,[]=>true
 | i,n::r=>decide (n=Kd 88 i) && jb9 (i+1) r
theorem jqr:∀(l:List (List UInt8)) (i:Nat),jb9 i l=decide (l=(List.range' i l.length).map (Kd 88))
 | [],i=>by simp [jb9]
 | n::r,i=>by
  rw [jb9,jqr r,zM,List.range'_succ,yH,<-Bool.decide_and];simp only [Ju]
theorem jiL (c:kR):KX c=jb9 0 (zl c):=by
 rw [jqr,<-List.range_eq_range'];rfl
theorem jHf (i:Nat) (h:i<=1000000):jz .add false (sv [88]) (sv (Lib.decDigits i))=some (sv (Kd 88 i)):=by
 rw [jf0,jl]
 .rfl
 .have:=(KV 6 i (by omega)).2;simp only [zM,qO];omega
theorem jbh (c:kR) (h:CN c):G 46 [cm c]=some (vb (KX c),[]):=by
 have hlen:=Kr h;have e0:=ji9 c (by have:=h.1;omega) h.rx h.tz λl hl=>by have:=(h.2 l hl).2;omega
 rw [jiL,g46];generalize zl c=ns at *;have key:=upto (P:=λi=>jtQ (strs ns) (vi (ns.length:Nat)) (vi (i:Nat))=some (vb (jb9 i (ns.drop i)),[])) (n:=ns.length) ?_ ?_ 0 (jE _)
 .simp only [jP,kj] at key;simp only [je,e0,key]
 .rw [jDI,j4];simp only [je,jb9]
 .intro i hi ih;have hlt:(i:Int) < ((ns.length:Nat):Int):=by omega
  have h5:=jq hi (by show ns.length<=9223372036854775807;omega)
  have e1:=jus i (by omega);have e2:=jHf i (by omega);have ld:ku (.elt (cs ns[i]) 0)=some (sv ns[i]):=rfl;rw [jDI,ji hi,jb9];by_cases hc:ns[i]=Kd 88 i
  .rw [jR hc,jI,<-ih];simp only [je,hlt,jb hi,ld,e1,e2,hc,h5]
  .rw [kx hc,jH];simp only [je,hlt,jb hi,ld,e1,e2,hc]
theorem QU (c:kR) (h:CN c):G 35 [cm c]=some (vb (KX c),[]):=by
 have hlen:=Kr h;have e0:=jiY c (by have:=h.1;omega) h.tz λl hl=>by have:=(h.2 l hl).2;omega
 rw [jiL,g35];generalize zl c=ns at *;have key:=upto (P:=λi=>jtK (strs ns) (vi (i:Nat))=some (vb (jb9 i (ns.drop i)),[])) (n:=ns.length) ?_ ?_ 0 (jE _)
 .simp only [jP,kj] at key;simp only [je,e0,key]
 .rw [jDC,j4];simp only [je,jb9]
 .intro i hi ih;have hlt:(i:Int) < ((ns.length:Nat):Int):=by omega
  have h5:=jq hi (by show ns.length<=9223372036854775807;omega)
  have e1:=jpY i (by omega);have e2:=jHf i (by omega);have ld:ku (.elt (cs ns[i]) 0)=some (sv ns[i]):=rfl;rw [jDC,ji hi,jb9];by_cases hc:ns[i]=Kd 88 i
  .rw [jR hc,jI,<-ih];simp only [je,hlt,jb hi,ld,e1,e2,hc,h5]
  .rw [kx hc,jH];simp only [je,hlt,jb hi,ld,e1,e2,hc]
theorem yr (c:kR) (hl:c.length<=1048576) (hz:∀l∈c,Tz l.2):G 22 [cm c]=some (vb (jV c),[]):=by
 have e1:=jag c hl hz;unfold jV;rw [g22];cases hv:yO c<;>rw [hv] at e1
 .simp only [je,e1,jH]
 .have e2:=jbh c (qy hv).1;simp only [je,e1,e2,jI]
theorem yY (c:kR) (hl:c.length<=1048576) (hz:∀l∈c,Tz l.2):G 16 [cm c]=some (vb (jV c),[]):=by
 have e1:=jcK c hl hz;unfold jV;rw [g16];cases hv:yO c<;>rw [hv] at e1
 .simp only [je,e1,jH]
 .have e2:=QU c (qy hv).1;simp only [je,e1,e2,jI]
abbrev Nm':=List (List UInt8 × List UInt8)
abbrev kn (p:List UInt8 × List UInt8):List A:=[sv p.1,sv p.2]
def yK:Nm'->List UInt8->Option (List UInt8)
 | [],_=>none
 | p::m,n=>if p.1=n then some p.2 else yK m n
theorem jsQ (n:List UInt8):∀(m:Nm') (k:Nat),∃j,qR none (sv n) (m.map kn) k=some ((yK m n).map λr=>(j,sv r))
 | [],k=>⟨0,rfl⟩
 | p::m,k=>by
  rw [yH,yK,qR,jxU];by_cases h:p.1=n
  .rw [jl h,jR h.symm];exact ⟨k,rfl⟩
  .rw [jo h,kx (λe=>h e.symm)];exact jsQ n m (k+1)
theorem jFJ (m:Nm') (n:List UInt8):KD none true true [sv []] (.mp (m.map kn)) (sv n)=some (match yK m n with|some r=> .tup [sv r,vb true]|none=> .tup [sv [],vb false]):=by
 show ((some (m.map kn)).bind λxs=>(qR none (sv n) xs 0).map (jqf true true [sv []]))=_;obtain ⟨j,h⟩:=jsQ n m 0;rw [yo,h];cases yK m n<;>rfl
theorem jD4 {m:Nm'} {n:List UInt8} (h:yK m n=none) (r:List UInt8):jeW none (m.map kn) (sv n) (sv r)=some ((m++[(n,r)]).map kn):=by
 obtain ⟨j,h2⟩:=jsQ n m 0;show (qR none (sv n) (m.map kn) 0).map _=_;rw [h2,h,zz];rfl
theorem jfV:∀(m:Nm') (p:List UInt8 × List UInt8) (n:List UInt8),yK (m++[p]) n=(match yK m n with|some r=>some r|none=>if p.1=n then some p.2 else none)
 | [],p,n=>rfl
 | q::m,p,n=>by
  rw [Jl,yK,yK,jfV m p n];by_cases h:q.1=n
  .rw [jl h,jl h]
  .rw [jo h,jo h]
def Zd (p:UInt8):Nat->List (List UInt8)->Nm'
 | _,[]=>[]
 | i,n::r=>(n,Kd p i)::Zd p (i+1) r
theorem ji2 (p:UInt8) (n:List UInt8):∀(ns:List (List UInt8)) (k:Nat),yK (Zd p k ns) n=(ns.findIdx? λx=>decide (x=n)).map λi=>Kd p (k+i)
 | [],k=>rfl
 | x::ns,k=>by
  rw [Zd,yK,joB];by_cases h:x=n
  .rw [jl h,jl (jR h)];rfl
  .rw [jo h,jo (by simp [h]),ji2 p n ns (k+1),Option.map_map];refine congrArg (λf=>Option.map f _) (funext λi=> ?_);show Kd p (k+1+i)=Kd p (k+(i+1));rw [show k+1+i=k+(i+1) by omega]
theorem jse (p:UInt8) (ns:List (List UInt8)):(λn=>(yK (Zd p 0 ns) n).getD n)=zx p ns:=by
 funext n;rw [ji2];unfold zx;cases ns.findIdx? (λx=>decide (x=n)) with
 | none=>rfl
 | some i=>show Kd p (0+i)=_;rw [Jg]
theorem jqI {p:UInt8} :∀ {ns:List (List UInt8)} {k:Nat},(∀n∈ns,jp n=true)-> ∀q∈Zd p k ns,jp q.1=true
 | [],k,_,q,h=>by cases h
 | x::ns,k,hv,q,h=>by
  rw [Zd] at h;rcases j7.1 h with e|e
  .rw [e];exact hv x (by simp)
  .exact jqI (λn hn=>hv n (by simp [hn])) q e
theorem jFA (p:UInt8) (i:Nat) (h:i<=1000000):jz .add false (sv [p]) (sv (Lib.decDigits i))=some (sv (Kd p i)):=by
 rw [jf0,jl]
 .rfl
 .have:=(KV 6 i (by omega)).2;simp only [zM,qO];omega
theorem jq0 (p:UInt8) (ns:List (List UInt8)) (hn:ns.Nodup) (hl:ns.length<=1000):G 232 [strs ns,sv [p]]=some (.mp ((Zd p 0 ns).map kn),[]):=by
 have key:=upto (P:=λi=>∀m:Nm',(∀n∈ns.drop i,yK m n=none)->jmM (sv [p]) (strs ns) (vi (ns.length:Nat)) (vi (i:Nat)) (m.map kn)=some (.mp ((m++Zd p i (ns.drop i)).map kn),[])) (n:=ns.length) ?_ ?_ 0 (jE _) [] (λn _=>rfl)
 .rw [kj] at key;simp only [jP,ya,KN] at key;rw [jJI];simp only [je,key]
 .intro m _;rw [jy8,j4,Zd,y8];simp only [je]
 .intro i hi ih m hm;have hlt:(i:Int) < ((ns.length:Nat):Int):=by omega
  have h5:=jq hi (by show ns.length<=9223372036854775807;omega)
  have e1:=jus i (by omega);have e2:=jFA p i (by omega);have ld:ku (.elt (cs ns[i]) 0)=some (sv ns[i]):=rfl;have hd:(ns.drop i).Nodup:=hn.sublist (List.drop_sublist i ns);rw [ji hi] at hm hd ⊢;have pt:=jD4 (hm ns[i] (JP ..)) (Kd p i);have ih:=ih (m++[(ns[i],Kd p i)]) λn hn'=>by
   rw [jfV,hm n (Jw _ hn')];show (if ns[i]=n then _ else none)=none;rw [jo];rintro e;exact (jha.1 hd).1 (e ▸ hn')
  rw [zH] at ih;rw [jy8,Zd];simp only [je,hlt,jb hi,ld,e1,e2,pt,h5,ih];rfl
theorem jvM {m:Nm'} (hm:∀p∈m,jp p.1=true) {n:List UInt8} (h:jp n=false):yK m n=none:=by
 induction m with
 | nil=>rfl
 | cons p m ih=>
  rw [yK,jo,ih λq hq=>hm q (by simp [hq])];intro e;rw [<-e,hm p (by simp)] at h;cases h
theorem js9 (m:Nm') (hm:∀p∈m,jp p.1=true):∀t:T,Rx' t->Tz t->G 246 [tm t,.mp (m.map kn)]=some (tm (ze (λn=>(yK m n).getD n) t),[]):=by
 refine T.ind λt ih hk ht=> ?_;have hz:=ht;unfold Tz at hz;rw [kW] at hz;have e0:=jFJ m t.name;rw [jJU,jaZ];cases hv:jp t.name with
 | true=>
  have ha:=hk.va hv;rw [jl rfl];obtain ⟨n,us⟩:=t;have ha:us = []:=ha;subst ha;have lp:∀x:List UInt8,jfE (.mp (m.map kn)) (.sl 2 []) (vi 0) (vi 0) (sv []) (sv x) [] []=some (.agg [sv x,.sl 2 []],[]):=λx=>by
   rw [jsH];simp only [je]
  have e0:KD none true true [sv []] (.mp (m.map kn)) (sv n)=some (match yK m n with|some r=> .tup [sv r,vb true]|none=> .tup [sv [],vb false]):=e0;show Option.bind (jdO 2 (.agg [sv n,.sl 2 []])) _=some (A.agg [sv ((yK m n).getD n),.sl 2 []],[]);cases hl:yK m n with
  | none=>
   rw [hl] at e0;have lp:=lp n;simp only [je,e0,lp,Option.getD_none,jP]
  | some r=>
   rw [hl] at e0;have lp:=lp r;simp only [je,e0,lp,jdY,jP]
 | false=>
  rw [jvM hm hv] at e0;rw [jo kh];have key:=(upto (P:=λi=>jfE (.mp (m.map kn)) (jQ t.args) (vi (t.args.length:Nat)) (vi i) (sv []) (sv t.name) [] (((t.args.map (ze λn=>(yK m n).getD n)).take i).map jm)=some (tm (.mk t.name (t.args.map (ze λn=>(yK m n).getD n))),[])) (n:=t.args.length) ?_ ?_ 0 (jE _))
  .simp only [jP,Jv,ya] at key;simp only [je,e0,key]
  .rw [jsH,ql (by rw [jK];omega)]
   simp only [je];rfl
  .intro i hi ih';have hlt:(i:Int) < ((t.args.length:Nat):Int):=by omega
   have h5:=jq hi (by show t.args.length<=9223372036854775807;omega)
   have e2:=ih t.args[i] (jr _) (hk.args _ (jr _)) (ht.args _ (jr _));have hf:jW (i+1) 40=true:=jqD (by omega);have hi2:i < (t.args.map (ze λn=>(yK m n).getD n)).length:=by rw [jK];exact hi
   have hl:(((t.args.map (ze λn=>(yK m n).getD n)).take i).map jm).length=i:=by rw [jK,qD,jK];omega
   have ha:kq (((t.args.map (ze λn=>(yK m n).getD n)).take i).map jm) [[sv (ze (λn=>(yK m n).getD n) t.args[i]).name,jQ (ze (λn=>(yK m n).getD n) t.args[i]).args]]=((t.args.map (ze λn=>(yK m n).getD n)).take (i+1)).map jm:=by
    rw [show [sv (ze (λn=>(yK m n).getD n) t.args[i]).name,jQ (ze (λn=>(yK m n).getD n) t.args[i]).args]=jm (ze (λn=>(yK m n).getD n) t.args[i]) from (zq _).symm,jbp,zk hi2,zz,jdj];rfl
   generalize ((t.args.map (ze λn=>(yK m n).getD n)).take i).map jm=R at *;generalize ze (λn=>(yK m n).getD n) t.args[i]=u at *;rw [jsH];simp only [je,hlt,jb hi,jf,e2,hl,hf,ha,h5,ih']
theorem jqZ (p:UInt8) (ns:List (List UInt8)) (hv:∀n∈ns,jp n=true) (t:T) (hk:Rx' t) (ht:Tz t):G 246 [tm t,.mp ((Zd p 0 ns).map kn)]=some (tm (ze (zx p ns) t),[]):=by
 rw [js9 _ (jqI hv) t hk ht,jse]
theorem jp6 (p:UInt8) (ns:List (List UInt8)) (hn:ns.length<=1000):∀t:T,Tz t->G 233 [tm t,strs ns,sv [p]]=some (tm (ze (zx p ns) t),[]):=by
 refine T.ind λt ih ht=> ?_;have hz:=ht;unfold Tz at hz;rw [kW] at hz;have e0:=zE t.name (((kH t).1 ht.wf).1);rw [jJJ,jaZ];cases hv:jp t.name<;>rw [hv] at e0
 .rw [jo kh];have key:=(upto (P:=λi=>jmO (strs ns) (sv [p]) (vi i) (sv t.name) (jQ t.args) (sv []) (sv t.name) [] (((t.args.map (ze (zx p ns))).take i).map jm)=some (tm (.mk t.name (t.args.map (ze (zx p ns)))),[])) (n:=t.args.length) ?_ ?_ 0 (jE _))
  .simp only [jP,Jv,ya] at key;simp only [je,e0,key]
  .rw [jza,ql (by rw [jK];omega)]
   simp only [je];rfl
  .intro i hi ih';have hlt:(i:Int) < ((t.args.length:Nat):Int):=by omega
   have h5:=jq hi (by show t.args.length<=9223372036854775807;omega)
   have e2:=ih t.args[i] (jr _) (ht.args _ (jr _));have hf:jW (i+1) 40=true:=jqD (by omega);have hi2:i < (t.args.map (ze (zx p ns))).length:=by rw [jK];exact hi
   have hl:(((t.args.map (ze (zx p ns))).take i).map jm).length=i:=by rw [jK,qD,jK];omega
   have ha:kq (((t.args.map (ze (zx p ns))).take i).map jm) [[sv (ze (zx p ns) t.args[i]).name,jQ (ze (zx p ns) t.args[i]).args]]=((t.args.map (ze (zx p ns))).take (i+1)).map jm:=by
    rw [show [sv (ze (zx p ns) t.args[i]).name,jQ (ze (zx p ns) t.args[i]).args]=jm (ze (zx p ns) t.args[i]) from (zq _).symm,jbp,zk hi2,zz,jdj];rfl
   generalize ((t.args.map (ze (zx p ns))).take i).map jm=R at *;generalize ze (zx p ns) t.args[i]=u at *;rw [jza];simp only [je,hlt,jb hi,jf,e2,hl,hf,ha,h5,ih']
 .rw [jl rfl];have key:=(upto (P:=λi=>(∀j,(h:j < i)-> ∀h':j < ns.length,ns[j]≠t.name)->jmN (strs ns) (sv [p]) (vi i) (sv t.name) (jQ t.args) (sv []) []=some (tm (.mk (zx p ns t.name) []),[])) (n:=ns.length) ?_ ?_ 0 (jE _)) (λj h=>by omega)
  .simp only [jP] at key;simp only [je,e0,key]
  .intro hall;have:zx p ns t.name=t.name:=by
    unfold zx;have:ns.findIdx? (λx=>decide (x=t.name))=none:=by
     rw [List.findIdx?_eq_none_iff];intro x hx;obtain ⟨j,hj,rfl⟩:=jkl.1 hx;simpa using hall j hj hj
    rw [this]
   rw [jy9,this];simp only [je];rfl
  .intro i hi ih' hall;have hlt:(i:Int) < ((ns.length:Nat):Int):=by omega
   have h5:=jq hi (by show ns.length<=9223372036854775807;omega)
   have ld:ku (.elt (cs ns[i]) 0)=some (sv ns[i]):=rfl;rw [jy9];by_cases he:ns[i]=t.name
   .have e1:=jpY i (by omega);have e2:=jFA p i (by omega);have:zx p ns t.name=Kd p i:=by
     unfold zx;have:ns.findIdx? (λx=>decide (x=t.name))=some i:=by
      rw [jtB];exact ⟨hi,by simp [he],λj hj=>by simpa using hall j hj (by omega)⟩
     rw [this]
    rw [this];simp only [je,hlt,jb hi,ld,he,e1,e2];rfl
   .have ih':=ih' λj hj hj'=>by
     by_cases h:j=i
     .subst h;exact he
     .exact hall j (by omega) hj'
    simp only [je,hlt,jb hi,ld,he,h5,ih']
theorem jam {n:Nat} (h:n<=1000000):jW n 48=true:=by
 unfold jW;exact jR ⟨by omega,by omega⟩
theorem jat {α:Type} {f:α->List A} {xs:List α} {i:Nat} (h:i < xs.length):kq ((xs.take i).map f) [f xs[i]]=(xs.take (i+1)).map f:=by
 rw [jbp,zk h,zz];rfl
theorem take_len {α:Type} {f:α->List A} {xs:List α} {i:Nat} (h:i<=xs.length):((xs.take i).map f).length=i:=by rw [jK,qD];omega
noncomputable def eqL (a b:Lt):Bool:=decide (a.1=b.1) && dq a.2 b.2
theorem jaH (a b:Lt):eqL a b=true↔a=b:=by
 obtain ⟨p,t⟩:=a;obtain ⟨q,u⟩:=b;unfold eqL;rw [ju,kG,Jr,qB]
theorem Y9 (a b:Lt) (ha:Tz a.2) (hb:Tz b.2):G 143 [ltm a,ltm b]=some (vb (eqL a b),[]):=by
 have e1:=zw a.2 ha.wf b.2 hb.wf;unfold eqL;rw [jIL];by_cases h:a.1=b.1
 .rw [jR h,jI];simp only [je,h,e1]
 .rw [kx h,jH];simp only [je,h]
theorem jbV (l:Lt) (h:Tz l.2):G 259 [ltm l]=some (ltm l,[]):=by
 have e1:=Jy l.2 h;rw [jJ1];simp only [je,e1];generalize hB:zY _ _ _=B;have hB':B=some (ltm l):=by rw [<-hB];kernel_rfl
 rw [hB'];simp only [je]
noncomputable def cpG:Lt->List Lt->List Lt
 | _,[]=>[]
 | p,b::l=>if eqL b p then cpG b l else b::cpG b l
theorem jpi:∀(l:List Lt) (a:Lt),jes eqL (a::l)=a::cpG a l
 | [],a=>rfl
 | b::l,a=>by
  rw [jes,jpi l b,cpG];show (if eqL a b then b::cpG b l else a::b::cpG b l)=_;by_cases h:a=b
  .subst h;rw [jl ((jaH a a).2 rfl),jl ((jaH a a).2 rfl)]
  .rw [jo (λe=>h ((jaH a b).1 e)),jo (λe=>h ((jaH b a).1 e).symm)]
theorem jHv {α:Type} {f:α->List A} {xs:List α} {i:Nat} (h:i < xs.length) (n:Nat):Yg (xs.map f) i 0 n=some (.agg ((f xs[i]).take n)):=by unfold Yg;simp [h]
theorem jq5 {xs:List Lt} {i:Nat} (h:i < xs.length):Yg (xs.map jL) i 0 3=some (ltm xs[i]):=jHv h 3
theorem jHm {α:Type} {f:α->List A} {xs:List α} {i:Nat} (h:i < xs.length):Q4 (jB (xs.map f)) (vi (i:Nat))=some i:=by
 rw [jjx,jK];exact yj h
theorem jiv {α:Type} {R s:List α} {k i:Nat} (h:R.drop k=s.drop k) (hk:k<=i) (hi:i < R.length) (hs:i < s.length):R[i]=s[i]:=by
 have:=congrArg (λl=>l[i - k]?) h;simp only [Q2,show k+(i - k)=i by omega,zk hi,zk hs] at this;exact ZE this
theorem jxG (s:List Lt) (hl:s.length<=1000000) (hz:∀x∈s,Tz x.2) (k:Nat) (hk:k < s.length):∀j,j<=s.length - k->1<=j-> ∀(w:Nat) (R:List Lt),R.length=s.length->R.drop (k+j - 1)=s.drop (k+j - 1)->w+1<=k+j-> ∀p:Lt,(∃h:k+j - 1 < s.length,s[k+j - 1]=p)->
  jbL (vi (w:Nat)) (nA k) (nA (s.length - k)) (vi (j:Nat)) (R.map jL)=some (.top,[.sl 3 ((R.take w++cpG p (s.drop (k+j))).map jL)]):=by
 refine upto ?_ ?_
 .intro _ w R hR hag hw p hp;have hd:s.drop (k+(s.length - k)) = []:=jow (by omega);have hlt:¬((s.length - k:Nat):Int) < ((s.length - k:Nat):Int):=by omega
  have hlt':jz .lss false (vi ((s.length - k:Nat):Int)) (nA (s.length - k))=some (vb false):=by
   show some (vb (decide _))=_;rw [kx hlt]
  have b1:pB (yU (R.map jL)) (yq (R.map jL) 0) none=some R.length:=by
   rw [qK,show yq (R.map jL) 0=R.length by rw [qZ,jK];rfl];exact yi (kD _)
  have b2:pB 0 R.length (some (vi (w:Nat)))=some w:=Js (by omega);have ln:(qj (R.map jL) (0+w) (Jp (zf R.length w) [vb false,sv [],.sl 2 []])).length=R.length:=by
   rw [jap];simp [Jp,qW];omega
  have b3:pB (yU (qj (R.map jL) (0+w) (Jp (zf R.length w) [vb false,sv [],.sl 2 []]))) (yq (qj (R.map jL) (0+w) (Jp (zf R.length w) [vb false,sv [],.sl 2 []])) 0) (some (vi (w:Nat)))=some w:=by
   rw [jnZ,qZ,ln];exact Js (by omega)
  have tk:List.take (zf w 0) (qj (R.map jL) (0+w) (Jp (zf R.length w) [vb false,sv [],.sl 2 []]))=(R.take w).map jL:=by
   rw [jap,qW,jdm,Jg,zH,jfn (by rw [qD,jK];omega),List.take_take,Nat.min_self,jfm]
  have h1:yc (nA (s.length - k))=s.length - k:=rfl;rw [jp3];simp only [cev];rw [hd,cpG,y8,h1,hlt'];simp only [yo,YW,YB,b1,b2,b3,tk]
 .intro j hj ih hj1 w R hR hag hw p hp;obtain ⟨hp1,hp2⟩:=hp;have hi:k+j < s.length:=by omega
  have hlt':jz .lss false (vi ((j:Nat):Int)) (nA (s.length - k))=some (vb true):=by
   show some (vb (decide (((j:Nat):Int) < ((s.length - k:Nat):Int))))=_;rw [jR (by omega)]
  have h1:yc (nA (s.length - k))=s.length - k:=rfl;have h2:yc (nA k)=k:=rfl;have x1:Q4 (s.length - k) (vi ((j:Nat):Int))=some j:=yj hj;have c1:jz .sub false (vi ((j:Nat):Int)) (vi 1)=some (vi ((j - 1:Nat):Int)):=by
   rw [jqB,show ((j:Nat):Int) - 1=((j - 1:Nat):Int) by omega];exact j8 (by omega) (by omega)
  have x2:Q4 (s.length - k) (vi ((j - 1:Nat):Int))=some (j - 1):=yj (by omega);have a1:R[k+j]'(by omega)=s[k+j]:=jiv hag (by omega) (by omega) hi;have a2:R[k+(j - 1)]'(by omega)=p:=by
   rw [<-hp2];have:=jiv hag (i:=k+(j - 1)) (by omega) (by omega) (by omega);rw [this];congr 1;omega
  have r1:Yg (R.map jL) (k+j) 0 3=some (ltm s[k+j]):=by rw [jq5 (by omega),a1]
  have r2:Yg (R.map jL) (k+(j - 1)) 0 3=some (ltm p):=by rw [jq5 (by omega),a2]
  have zp:Tz p.2:=by rw [<-hp2];exact hz _ (jr _)
  have e1:=Y9 s[k+j] p (hz _ (jr _)) zp;have h5:jz .add false (vi ((j:Nat):Int)) (vi 1)=some (vi ((j+1:Nat):Int)):=jq (i:=j) (n:=j+1) (by omega) (by omega);have hdr:s.drop (k+j)=s[k+j]::s.drop (k+(j+1)):=ji hi;have hag':R.drop (k+(j+1) - 1)=s.drop (k+(j+1) - 1):=by
   have:=congrArg (List.drop 1) hag;rw [jdX,jdX] at this;rwa [show k+j - 1+1=k+(j+1) - 1 by omega] at this
  have hx:∃h:k+(j+1) - 1 < s.length,s[k+(j+1) - 1]=s[k+j]:=⟨by omega,by congr 1⟩;rw [jp3];simp only [cev];rw [hdr,cpG,h1,h2,hlt'];cases hq:eqL s[k+j] p<;>rw [hq] at e1
  .rw [jo kh];have x3:Q4 R.length (vi (w:Nat))=some w:=yj (by omega);have rg:jga (R.map jL) w=some (jL (R[w]'(by omega))):=by unfold jga;simp [show w < R.length by omega]
   have co:∀x y:Lt,KR (jL x) 0 [vb y.1,sv y.2.name,jQ y.2.args]=jL y:=λx y=>rfl;have rs:K9 (R.map jL) w (jL s[k+j])=(R.set w s[k+j]).map jL:=by unfold K9;rw [List.map_set]
   have h6:jz .add false (vi ((w:Nat):Int)) (vi 1)=some (vi ((w+1:Nat):Int)):=jq (i:=w) (n:=w+1) (by omega) (by omega);have:=ih (by omega) (w+1) (R.set w s[k+j]) (by rw [jkh];exact hR) (by rw [List.drop_set_of_lt (by omega)];exact hag') (by omega) s[k+j] hx;have tk:(R.set w s[k+j]).take (w+1)=R.take w++[s[k+j]]:=by
    rw [jbp,List.take_set_of_le (kD _),List.getElem?_set_self (by omega)];rfl
   rw [tk,zH] at this;simp only [je,x1,r1,c1,x2,r2,e1,x3,rg,co,rs,h6,h5];rw [this];rfl
  .rw [jl rfl];have:=ih (by omega) w R hR hag' (by omega) s[k+j] hx;simp only [je,x1,r1,c1,x2,r2,e1,h5];exact this
theorem jxF (s:List Lt) (hl:s.length<=1000000) (hz:∀x∈s,Tz x.2):∀k,k<=s.length->1<=k-> ∀p:Lt,(∃h:k - 1 < s.length,s[k - 1]=p)->jed (vi (k:Nat)) (s.map jL)=some (.top,[.sl 3 ((s.take k++cpG p (s.drop k)).map jL)]):=by
 refine upto ?_ ?_
 .intro _ p _;rw [jp2,j4,cpG,y8,jfk];simp only [je]
 .intro k hk ih hk1 p hp;obtain ⟨hp1,hp2⟩:=hp;have hlt:((k:Nat):Int) < ((s.length:Nat):Int):=by omega
  have x1:Q4 (jB (s.map jL)) (vi (k:Nat))=some k:=jHm hk;have c1:ck (((k:Nat):Int) - 1)=some (vi ((k - 1:Nat):Int)):=by
   rw [show ((k:Nat):Int) - 1=((k - 1:Nat):Int) by omega];exact j8 (by omega) (by omega)
  have x2:Q4 (jB (s.map jL)) (vi ((k - 1:Nat):Int))=some (k - 1):=jHm hp1;have r1:=jq5 hk;have r2:Yg (s.map jL) (k - 1) 0 3=some (ltm p):=by rw [jq5 hp1,hp2]
  have zp:Tz p.2:=by rw [<-hp2];exact hz _ (jr _)
  have e1:=Y9 s[k] p (hz _ (jr _)) zp;have h5:=jq hk (by show s.length<=9223372036854775807;omega);rw [jp2,ji hk,cpG];rw [jjx,jK] at x1 x2;cases hq:eqL s[k] p<;>rw [hq] at e1
  .have ih:=ih (by omega) s[k] ⟨by omega,by congr 1⟩;rw [jbp,zk hk,zH] at ih;rw [jo kh];simp only [je,hlt,x1,r1,c1,x2,r2,e1,h5];exact ih
  .have b1:pB (yU (s.map jL)) (yq (s.map jL) 0) none=some s.length:=by
    rw [qK,show yq (s.map jL) 0=s.length by rw [qZ,jK];rfl];exact yi (kD _)
   have b2:pB 0 s.length (some (vi (k:Nat)))=some k:=Js (by omega);have:=jxG s hl hz k hk 1 (by omega) (kD _) k s rfl rfl (kD _) s[k] ⟨by omega,rfl⟩;rw [jl rfl];simp only [je,hlt,x1,r1,c1,x2,r2,e1,b1,b2,qW];exact this
theorem jsl (s:List Lt) (hl:s.length<=1000000) (hz:∀x∈s,Tz x.2):jr0 (s.map jL)=some (.top,[.sl 3 ((jes eqL s).map jL)]):=by
 rw [jEV]
 match s,hl,hz with
 | [],_,_=>simp only [je];rfl
 | [a],_,_=>simp only [je];rfl
 | a::b::r,hl,hz=>
  have:=jxF (a::b::r) hl hz 1 (by simp) (kD _) a ⟨by simp,rfl⟩;rw [jpi];have hlt:¬(((a::b::r).length:Nat):Int) < 2:=by simp only [zM];omega
  generalize hx:a::b::r=x at *;simp only [je,hlt];rw [<-hx] at this ⊢;exact this
theorem jwA (l:List Lt) (hl:l.length<=1000000) (hk:∀x∈l,Rx' x.2) (hz:∀x∈l,Tz x.2):∃s:List Lt,s.Perm l/\s.Pairwise (λa b=>¬cmpL b a < 0)/\jrZ (l.map jL)=some (.top,[.sl 3 (s.map jL)]):=by
 obtain ⟨s,h1,h2,h3⟩:=jpo KT id jL 3 72 rfl l (by omega) λx hx y hy=>YP x y (hk x hx) (hz x hx) (hk y hy) (hz y hy);exact ⟨s,h1,h2,by rw [jEU];exact h3⟩
theorem jgH (l:List Lt) (hl:l.length<=1000000) (hk:∀x∈l,Rx' x.2) (hz:∀x∈l,Tz x.2):G 230 [.sl 3 (l.map jL)]=some (cm (qi cmpL l),[]):=by
 obtain ⟨s,h1,h2,h3⟩:=jwA l hl hk hz;have h4:=jsl s (by rw [h1.length_eq];exact hl) λx hx=>hz x (h1.mem_iff.1 hx);rw [jCf KT jaH h2 λx=>h1.mem_iff] at h4;have key:=upto (P:=λi=>jmK (.sl 3 (l.map jL)) (vi (l.length:Nat)) (vi (i:Nat)) [] ((l.take i).map jL)=some (cm (qi cmpL l),[])) (n:=l.length) ?_ ?_ 0 (jE _)
 .simp only [jP,Jv,ya] at key;rw [jJG];simp only [je,key]
 .have r1:∀s:List Lt,hR 3 (A.top,[.sl 3 (s.map jL)]) 0=some (s.map jL):=λs=>rfl;rw [jy6,jfk];simp only [je,h3,r1,h4]
 .intro i hi ih;have hlt:(i:Int) < ((l.length:Nat):Int):=by omega
  have h5:=jq hi (by show l.length<=9223372036854775807;omega)
  have e1:=jbV l[i] (hz _ (jr _));have ta:=jat (f:=jL) hi;have tl:=take_len (f:=jL) (Z1 hi);have hf:jW (i+1) 48=true:=jam (by omega);generalize (l.take i).map jL=R at *;rw [jy6];simp only [je,hlt,jb hi,zj,e1,tl,hf,ta,h5,ih]
theorem jkx (l:kR) (hl:l.length<=1000000) (hz:∀x∈l,Tz x.2):G 231 [cm l]=some (cm l,[]):=by
 have key:=upto (P:=λi=>jmL (.sl 3 (l.map jL)) (vi (l.length:Nat)) (vi (i:Nat)) [] ((l.take i).map jL)=some (cm l,[])) (n:=l.length) ?_ ?_ 0 (jE _)
 .simp only [jP,Jv,ya] at key;rw [jJH];simp only [je,key]
 .rw [jy7,jfk];simp only [je]
 .intro i hi ih;have hlt:(i:Int) < ((l.length:Nat):Int):=by omega
  have h5:=jq hi (by show l.length<=9223372036854775807;omega)
  have e1:=jbV l[i] (hz _ (jr _));have ta:=jat (f:=jL) hi;have tl:=take_len (f:=jL) (Z1 hi);have hf:jW (i+1) 48=true:=jam (by omega);generalize (l.take i).map jL=R at *;rw [jy7];simp only [je,hlt,jb hi,zj,e1,tl,hf,ta,h5,ih]
theorem jpG (c:kR) (hl:c.length<=1048576) (hz:∀l∈c,Tz l.2):G 229 [cm c]=Zu (if yO c then some c else none):=by
 have e1:=jag c hl hz;rw [jJF];cases hv:yO c<;>rw [hv] at e1
 .rw [jo kh];simp only [je,e1];rfl
 .rw [jl rfl];simp only [je,e1];rfl
noncomputable def sameC (a b:kR):Bool:=dq a b
theorem jxV (a b:Lt):dq a b=eqL a b:=by
 cases h:eqL a b with
 | true=>exact Jr.2 ((jaH a b).1 h)
 | false=>exact jiu.2 λe=>by rw [(jaH a b).2 e] at h;cases h
theorem jdf (a b:kR) (hl:a.length<=1048576) (ha:∀l∈a,Tz l.2) (hb:∀l∈b,Tz l.2):G 118 [cm a,cm b]=some (vb (dq a b),[]):=by
 rw [jIz];have key:G 142 [.sl 3 (a.map jL),.sl 3 (b.map jL),.fn 143 []]=some (vb (dq a b),[]):=by
  rw [jIK];by_cases hlen:a.length=b.length
  .have key:=upto (P:=λi=>jmn (.sl 3 (b.map jL)) (.fn 143 []) (.sl 3 (a.map jL)) (vi (a.length:Nat)) (vi (i:Nat))=some (vb (dq (a.drop i) (b.drop i)),[])) (n:=a.length) ?_ ?_ 0 (jE _)
   .simp only [jP,kj] at key;rw [hlen] at key;simp only [je,hlen,key]
   .rw [jyx,j4,jow (by omega),Qw];simp only [je]
   .intro i hi ih;have hi2:i < b.length:=by omega
    have hlt:(i:Int) < ((a.length:Nat):Int):=by omega
    have h5:=jq hi (by show a.length<=9223372036854775807;omega)
    have e1:=Y9 a[i] b[i] (ha _ (jr _)) (hb _ (jr _));have hp:K.pureF 143=true:=rfl;have cc:DX.run K (MM K) (.callc (.fn 143 []) [ltm a[i],ltm b[i]] false)=some (vb (eqL a[i] b[i])):=by
     rw [qt hp,y8,e1];rfl
    rw [jyx,ji hi,ji hi2,jhv,jxV];cases hq:eqL a[i] b[i]<;>rw [hq] at cc
    .rw [jH];simp only [je,hlt,jb hi,jb hi2,zj,cc]
    .rw [jI];simp only [je,hlt,jb hi,jb hi2,zj,cc,h5,ih]
  .have hne:¬((a.length:Nat):Int)=((b.length:Nat):Int):=by omega
   rw [jnh hlen];simp only [je,hne]
 simp only [je,key]
theorem jli (a b:kR) (hl:a.length<=1048576) (ha:∀l∈a,Tz l.2) (hb:∀l∈b,Tz l.2):G 106 [cm a,cm b]=some (vb (dq a b),[]):=by
 rw [jIp];by_cases hlen:a.length=b.length
 .have key:=upto (P:=λi=>jmi (vi (i:Nat)) (.sl 3 (a.map jL)) (.sl 3 (b.map jL))=some (vb (dq (a.drop i) (b.drop i)),[])) (n:=a.length) ?_ ?_ 0 (jE _)
  .simp only [jP,kj] at key;simp only [je,hlen,key]
  .rw [jyn,j4,jow (by omega),Qw];simp only [je]
  .intro i hi ih;have hi2:i < b.length:=by omega
   have hlt:(i:Int) < ((a.length:Nat):Int):=by omega
   have h5:=jq hi (by show a.length<=9223372036854775807;omega)
   have e1:=qo a[i].2 (ha _ (jr _)).wf b[i].2 (hb _ (jr _)).wf;have ld:∀l:Lt,ku (.elt (jL l) 0)=some (vb l.1):=λl=>rfl;have ad:∀(l:Lt) (n:Nat),ye (.elt (jL l) 0) n=some (.elt (jL l) n):=λl n=>by rw [qI,Jg]
   have ld2:∀l:Lt,ke 2 (.elt (jL l) 1)=some (tm l.2):=λl=>rfl;rw [jyn,ji hi,ji hi2,jhv,jxV,eqL];by_cases hs:a[i].1=b[i].1
   .rw [jR hs,jI];cases hq:dq a[i].2 b[i].2<;>rw [hq] at e1
    .rw [jH];simp only [je,hlt,jb hi,jb hi2,ad,ld,ld2,hs,e1]
    .rw [jI];simp only [je,hlt,jb hi,jb hi2,ad,ld,ld2,hs,e1,h5,ih]
   .rw [kx hs,jH,jH];simp only [je,hlt,jb hi,jb hi2,ad,ld,hs]
 .have hne:¬((a.length:Nat):Int)=((b.length:Nat):Int):=by omega
  rw [jnh hlen];simp only [je,hne]
theorem jEf {α:Type} {p:α->Bool} {l:List α} {k:Nat} (hk:k<=l.length) (h1:∀j,(h:j < k)-> ∀h':j < l.length,p l[j]=true) (h2:(∃h:k < l.length,p l[k]=false)\/k=l.length):l.takeWhile p=l.take k/\l.dropWhile p=l.drop k:=by
 have hp:∀a∈l.take k,p a=true:=λa ha=>by
  obtain ⟨j,hj,rfl⟩:=jkl.1 ha;rw [qD] at hj;rw [List.getElem_take];exact h1 j (by omega) (by omega)
 have e:=List.takeWhile_append_of_pos (l₂:=l.drop k) hp;have e':=List.dropWhile_append_of_pos (l₂:=l.drop k) hp;rw [Ql] at e e';rw [e,e'];rcases h2 with ⟨h,h2⟩|h
 .rw [ji h,jrJ (by simp [h2]),ju5 (by simp [h2]),y8];exact ⟨rfl,rfl⟩
 .rw [h,j4];simp
theorem jup (u:List Lt) (hl:u.length<=900000) (i:Nat) (hi:i<=u.length) (x:Lt) :
  pB (yU (u.map jL)) (yq (u.map jL) 0) (some (vi (i:Nat)))=some i/\Ja (u.map jL) 0 (zf i 0)=(u.take i).map jL/\jW (u.take i).length 48=true/\pB (yU (u.map jL)) (yq (u.map jL) 0) none=some u.length/\pB 0 u.length (some (vi (i:Nat)))=some i/\Ja (u.map jL) i (zf u.length i)=(u.drop i).map jL/\
  jW ((u.take i).length+1) 48=true/\jW ((kq ((u.take i).map jL) [jL x]).length+((u.drop i).map jL).length) 48=true/\kq (kq ((u.take i).map jL) [jL x]) ((u.drop i).map jL)=(u.take i++x::u.drop i).map jL:=by
 have e1:yU (u.map jL)=u.length:=qK jL u;have e2:yq (u.map jL) 0=u.length:=by rw [qZ,jK];rfl
 refine ⟨by rw [e1,e2];exact Js hi,by rw [jeZ,qW,jdm,kj,jfm],?_,by rw [e1,e2];exact yi (kD _),Js hi,?_,?_,?_,?_⟩
 .rw [qD];exact jam (by omega)
 .rw [jeZ,qW,<-jfl,ql (by rw [jK,qS];omega)]
 .rw [qD];exact jam (by omega)
 .exact jam (by unfold kq;rw [yn,jK,jK,qD,qS];simp only [zM,qO];omega)
 .unfold kq;rw [zz,zH];rfl
theorem jp9 (l:List Lt) (hl:l.length<=1000) (hz:∀x∈l,Tz x.2) (i:Nat) (hi:i < l.length) (u:List Lt) (hu:u.length<=1000) (hzu:∀x∈u,Tz x.2):∀k,k<=u.length->(∀j,(h:j < k)-> ∀h':j < u.length,cmpL u[j] l[i] < 0)->
  jmP (.sl 3 (l.map jL)) (vi (i:Nat)) (vi (k:Nat)) (u.map jL) []=jfB (.sl 3 (l.map jL)) (vi ((i+1:Nat):Int)) ((jbz cmpL u l[i]).map jL) []:=by
 have h5:=jq hi (by show l.length<=9223372036854775807;omega)
 have ld:∀l:Lt,ku (.elt (jL l) 0)=some (vb l.1):=λl=>rfl;have ad:∀(l:Lt) (n:Nat),ye (.elt (jL l) 0) n=some (.elt (jL l) n):=λl n=>by rw [qI,Jg]
 have ld2:∀l:Lt,ke 2 (.elt (jL l) 1)=some (tm l.2):=λl=>rfl;have e2:=jcc l[i].2 (hz _ (jr _));have hck:ck ((i:Int)+1)=some (vi ((i+1:Nat):Int)):=j8 (by omega) (by omega);refine upto ?_ ?_
 .intro hall;obtain ⟨t1,t2⟩:=jEf (p:=λa=>decide (cmpL a l[i] < 0)) (kD u.length) (λj h h'=>jR (hall j h h')) (Or.inr rfl);obtain ⟨k1,k2,k3,k4,k5,k6,k7,k8,k9⟩:=jup u (by omega) u.length (kD _) l[i];have hins:jbz cmpL u l[i]=u.take u.length++l[i]::u.drop u.length:=by
   unfold jbz;rw [t1,t2,j4,jo (by simp)]
  rw [hins,jzc];simp only [cev];have hlt:jz .lss false (vi (u.length:Nat)) (qh (u.map jL))=some (vb false):=by
   rw [Yu,jK,jeS,kx (by omega)]
  simp only [hlt,yo,jqH,jz1,Zg,K6,decide_false,decide_true,jjo,YW,YB,jep,jb hi,ad,ld,ld2,jpq];simp only [je,hlt,jb hi,ad,ld,ld2,e2];generalize hB:zY _ _ _=B;have hB':B=some (ltm l[i]):=by rw [<-hB];kernel_rfl
  rw [hB'];simp only [je,k1,k2,k4,k5];rw [jl k3,jl k7,k6,jl k8,hck,yo,k9]
 .intro k hk ih hall;have hlt:((k:Nat):Int) < ((u.length:Nat):Int):=by omega
  have x1:Q4 u.length (vi (k:Nat))=some k:=yj hk;have r1:=jq5 hk;have e1:=jdc u[k] l[i] (hzu _ (jr _)) (hz _ (jr _));rw [jzc];by_cases hc:cmpL u[k] l[i] < 0
  .have ih:=ih λj h h'=>by
    by_cases hj:j=k
    .subst hj;exact hc
    .exact hall j (by omega) h'
   have hk1:ck ((k:Int)+1)=some (vi ((k+1:Nat):Int)):=j8 (by omega) (by omega);generalize cmpL u[k] l[i]=d at *;simp only [je,hlt,x1,r1,jb hi,zj,e1,hc,hk1];exact ih
  .obtain ⟨t1,t2⟩:=jEf (p:=λa=>decide (cmpL a l[i] < 0)) (Z1 hk) (λj h h'=>jR (hall j h h')) (Or.inl ⟨hk,kx hc⟩);have hins:jbz cmpL u l[i]=if cmpL u[k] l[i]=0 then u else u.take k++l[i]::u.drop k:=by
    unfold jbz;rw [t1,t2,ji hk];by_cases h0:cmpL u[k] l[i]=0
    .rw [jl h0];exact jl (jR h0)
    .rw [jo h0];exact jo (λe=>h0 (jhd e))
   rw [hins];by_cases h0:cmpL u[k] l[i]=0
   .rw [jl h0];rw [h0] at e1;simp only [je,hlt,x1,r1,jb hi,zj,e1,hck]
   .obtain ⟨k1,k2,k3,k4,k5,k6,k7,k8,k9⟩:=jup u (by omega) k (Z1 hk) l[i];rw [jo h0];generalize cmpL u[k] l[i]=d at *;simp only [je,hlt,x1,r1,jb hi,zj,e1,hc,h0,ad,ld,ld2,e2];generalize hB:zY _ _ _=B;have hB':B=some (ltm l[i]):=by rw [<-hB];kernel_rfl
    rw [hB'];simp only [je,k1,k2,k4,k5];rw [jl k3,jl k7,k6,jl k8,hck,yo,k9]
theorem jyd {u:List Lt} (hu:Asc cmpL u) (x:Lt) {y:Lt} :y∈jbz cmpL u x↔y∈u\/y=x:=(jiG KT hu x).2 y
theorem jfU (l:List Lt) (hl:l.length<=900) (hz:∀x∈l,Tz x.2):G 234 [.sl 3 (l.map jL)]=some (cm (qi cmpL l),[]):=by
 have key:=upto (P:=λi=>∀u:List Lt,Asc cmpL u->u.length<=i->(∀x∈u,Tz x.2)->jfB (.sl 3 (l.map jL)) (vi (i:Nat)) (u.map jL) []=some (cm ((l.drop i).foldl (jbz cmpL) u),[])) (n:=l.length) ?_ ?_ 0 (jE _) [] List.Pairwise.nil (kD _) (λx h=>by cases h)
 .rw [kj] at key;simp only [jP,ya] at key;rw [jJK,key];rfl
 .intro u _ _ _;rw [jzb,j4];simp only [je];rfl
 .intro i hi ih u ha hu hzu;have hlt:(i:Int) < ((l.length:Nat):Int):=by omega
  have:=jp9 l (by omega) hz i hi u (by omega) hzu 0 (jE _) (λj h=>absurd h (Nat.not_lt_zero _));simp only [jP] at this;have h2:=ih (jbz cmpL u l[i]) (jiG KT ha l[i]).1 (by have:=jpI cmpL u l[i];omega) λx hx=>by
   rcases (jyd ha l[i]).1 hx with h|h
   .exact hzu x h
   .rw [h];exact hz _ (jr _)
  rw [jzb,ji hi,Zf];simp only [je,hlt,this,h2]
theorem CN.ren_tz {p:UInt8} (hp:upc p=true) {c:kR} (h:CN c):∀x∈c.map (λl=>(l.1,ze (zx p (zl c)) l.2)),Rx' x.2/\Tz x.2:=λx hx=>⟨(h.ren hp x hx).1.rx,(h.ren hp x hx).1.tz (by have:=(h.ren hp x hx).2;omega)⟩
theorem jdd (p:UInt8) (c:kR) (h:CN c) (ns:List (List UInt8)) (hn:∀n∈ns,jp n=true) (hr:∀x∈c.map (λl=>(l.1,ze (zx p ns) l.2)),Rx' x.2/\Tz x.2):G 216 [cm c,.mp ((Zd p 0 ns).map kn)]=some (cm (qi cmpL (c.map λl=>(l.1,ze (zx p ns) l.2))),[]):=by
 have h8:=h.1;have e3:=jgH (c.map λl=>(l.1,ze (zx p ns) l.2)) (by rw [jK];omega) (λx hx=>(hr x hx).1) λx hx=>(hr x hx).2;generalize hd:c.map (λl=>(l.1,ze (zx p ns) l.2))=d at *;have hdl:d.length=c.length:=by rw [<-hd,jK]
 have key:=upto (P:=λi=>jmI (.mp ((Zd p 0 ns).map kn)) (.sl 3 (c.map jL)) (vi (c.length:Nat)) (vi (i:Nat)) ((d.take i).map jL) []=some (cm (qi cmpL d),[])) (n:=c.length) ?_ ?_ 0 (jE _)
 .simp only [jP,Jv,ya] at key;rw [jJA];simp only [je,key]
 .rw [jy1,<-hdl,jfk];simp only [je,e3]
 .intro i hi ih;have hi2:i < d.length:=by omega
  have hlt:(i:Int) < ((c.length:Nat):Int):=by omega
  have h5:=jq hi (by show c.length<=9223372036854775807;omega)
  have e1:=jqZ p ns hn c[i].2 (h.rx _ (jr _)) (h.tz _ (jr _));have hdi:d[i]=(c[i].1,ze (zx p ns) c[i].2):=by simp only [<-hd,jdj]
  have ta:=jat (f:=jL) hi2;have tl:=take_len (f:=jL) (Z1 hi2);have hf:jW (i+1) 48=true:=jam (by omega);rw [hdi] at ta;generalize (d.take i).map jL=R at *;generalize ze (zx p ns) c[i].2=u at *;rw [jy1];simp only [je,hlt,jb hi,zj,e1];generalize hB:zY _ _ _=B;have hB':B=some (ltm (c[i].1,u)):=by rw [<-hB];kernel_rfl
  rw [hB'];have hck:ck ((i:Int)+1)=some (vi ((i+1:Nat):Int)):=j8 (by omega) (by omega);simp only [je,tl,hf,ta,hck,ih]
theorem jnF (p:UInt8) (c:kR) (h:CN c) (ns:List (List UInt8)) (hl:ns.length<=1000) (hr:∀x∈c.map (λl=>(l.1,ze (zx p ns) l.2)),Rx' x.2/\Tz x.2):G 205 [cm c,strs ns,sv [p]]=some (cm (qi cmpL (c.map λl=>(l.1,ze (zx p ns) l.2))),[]):=by
 have h8:=h.1;have e3:=jfU (c.map λl=>(l.1,ze (zx p ns) l.2)) (by rw [jK];omega) (λx hx=>(hr x hx).2);generalize hd:c.map (λl=>(l.1,ze (zx p ns) l.2))=d at *;have hdl:d.length=c.length:=by rw [<-hd,jK]
 have key:=upto (P:=λi=>jmE (strs ns) (sv [p]) (vi (i:Nat)) (.sl 3 (c.map jL)) ((d.take i).map jL) []=some (cm (qi cmpL d),[])) (n:=c.length) ?_ ?_ 0 (jE _)
 .simp only [jP,Jv,ya] at key;rw [jJq];simp only [je,key]
 .rw [jyV,<-hdl,jfk];have hlt:¬((d.length:Nat):Int) < ((c.length:Nat):Int):=by omega
  simp only [je,hlt,e3]
 .intro i hi ih;have hi2:i < d.length:=by omega
  have hlt:(i:Int) < ((c.length:Nat):Int):=by omega
  have h5:=jq hi (by show c.length<=9223372036854775807;omega)
  have e1:=jp6 p ns hl c[i].2 (h.tz _ (jr _));have hdi:d[i]=(c[i].1,ze (zx p ns) c[i].2):=by simp only [<-hd,jdj]
  have ta:=jat (f:=jL) hi2;have tl:=take_len (f:=jL) (Z1 hi2);have hf:jW (i+1) 48=true:=jam (by omega);have ld:∀l:Lt,ku (.elt (jL l) 0)=some (vb l.1):=λl=>rfl;have ad:∀(l:Lt) (n:Nat),ye (.elt (jL l) 0) n=some (.elt (jL l) n):=λl n=>by rw [qI,Jg]
  have ld2:∀l:Lt,ke 2 (.elt (jL l) 1)=some (tm l.2):=λl=>rfl;rw [hdi] at ta;generalize (d.take i).map jL=R at *;generalize ze (zx p ns) c[i].2=u at *;rw [jyV];simp only [je,hlt,jb hi,ad,ld,ld2,e1];generalize hB:zY _ _ _=B;have hB':B=some (ltm (c[i].1,u)):=by rw [<-hB];kernel_rfl
  rw [hB'];have hck:ck ((i:Int)+1)=some (vi ((i+1:Nat):Int)):=j8 (by omega) (by omega);simp only [je,tl,hf,ta,hck,ih]
theorem jgd (p:UInt8) (hp:upc p=true) (c:kR) (h:CN c):G 216 [cm c,.mp ((Zd p 0 (zl c)).map kn)]=some (cm (renC p c),[]):=jdd p c h (zl c) (λn=>jdI) (h.ren_tz hp)
theorem jgQ (p:UInt8) (hp:upc p=true) (c:kR) (h:CN c):G 205 [cm c,strs (zl c),sv [p]]=some (cm (renC p c),[]):=jnF p c h (zl c) (by have:=Kr h;omega) (h.ren_tz hp)
theorem jlo (c:kR) (h:CN c):G 73 [cm c]=some (strs (zl c),[]):=ji9 c (by have:=h.1;omega) h.rx h.tz λl hl=>by have:=(h.2 l hl).2;omega
theorem jlp (c:kR) (h:CN c):G 61 [cm c]=some (strs (zl c),[]):=jiY c (by have:=h.1;omega) h.tz λl hl=>by have:=(h.2 l hl).2;omega
theorem jjc:∀(k i:Nat),k+i=10-> ∀c:kR,CN c->jmD (vi (i:Nat)) (.sl 3 (c.map jL)) []=some (cm (normF k c),[])
 | 0,i,hk,c,h=>by
  have hi:((i:Nat):Int)=10:=by omega
  rw [jyU,normF,hi];simp only [je]
 | k+1,i,hk,c,h=>by
  have hlt:((i:Nat):Int) < 10:=by omega
  have e1:=jbh c h;rw [jyU,normF];cases hn:KX c<;>rw [hn] at e1
  .have hl:=Kr h;have e2:=jlo c h;have e3:=jq0 88 (zl c) (jaR c) (by omega);have e4:=jgd 88 (by decide) c h;have hck:ck ((i:Int)+1)=some (vi ((i+1:Nat):Int)):=j8 (by omega) (by omega);have ih:=jjc k (i+1) (by omega) (renC 88 c) (h.renC (by decide));rw [jo kh];simp only [je,hlt,e1,e2,e3,e4,hck,ih]
  .rw [jl rfl];simp only [je,hlt,e1]
theorem jnP (c:kR) (h:CN c):G 202 [cm c]=some (cm (normC c),[]):=by
 have e1:=jkx c (by have:=h.1;omega) h.tz
 have e2:=jjc 10 0 rfl c h;simp only [jP] at e2;rw [jJp];simp only [je,e1,e2];rfl
theorem jjd:∀(k i:Nat),k+i=10-> ∀c:kR,CN c->jmG (vi (i:Nat)) (.sl 3 (c.map jL)) []=some (.tup [cm (normF k c),vb (yO (normF k c))],[])
 | 0,i,hk,c,h=>by
  have hi:((i:Nat):Int)=10:=by omega
  have e0:=jcK c (by have:=h.1;omega) h.tz
  rw [jyX,normF,hi];simp only [je,e0]
 | k+1,i,hk,c,h=>by
  have hlt:((i:Nat):Int) < 10:=by omega
  have e0:=jcK c (by have:=h.1;omega) h.tz
  have e1:=QU c h;rw [jyX,normF];cases hn:KX c<;>rw [hn] at e1
  .have e2:=jlp c h;have e4:=jgQ 88 (by decide) c h;have hck:ck ((i:Int)+1)=some (vi ((i+1:Nat):Int)):=j8 (by omega) (by omega);have ih:=jjd k (i+1) (by omega) (renC 88 c) (h.renC (by decide));rw [jo kh];simp only [je,hlt,e1,e2,e4,hck,ih]
  .rw [jl rfl];simp only [je,hlt,e1,e0]
theorem jqa (c:kR) (h:CN c) (ha:Asc cmpL c):G 209 [cm c]=some (.tup [cm (normC c),vb (yO (normC c))],[]):=by
 have e1:=jfU c (by have:=h.1;omega) h.tz
 rw [jqi ha] at e1;have e2:=jjd 10 0 rfl c h;simp only [jP] at e2;rw [jJu];simp only [je,e1,e2];rfl
end Go.Proofs.YtbidbdhamhbebaaGreatDoor
