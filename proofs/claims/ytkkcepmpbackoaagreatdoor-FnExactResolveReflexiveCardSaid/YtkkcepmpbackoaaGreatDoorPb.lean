/- Pb -/
import Derived.Test.YtkkcepmpbackoaaGreatDoorPa
import Derived.Test.YtkkcepmpbackoaaGreatDoorSn
import Derived.Test.YtkkcepmpbackoaaGreatDoorE23
namespace Go.Proofs.YtkkcepmpbackoaaGreatDoor
open Go Go.RowKit Go.Proofs.YtkkcepmpbackoaaGreatDoor.Abs
set_option linter.unusedSimpArgs false
set_option linter.unusedVariables false
set_option maxHeartbeats 1000000
def Rx'(t:T):Prop:=qb t=true\/(t.name=[61]/\ ∀u∈t.args,qb u=true)
theorem Rx'.args{t:T}(h:Rx' t):∀u∈t.args,Rx' u:=λu hu=>Or.inl (by
 rcases h with h|h
 .exact qi h u hu
 .exact h.2 u hu)
theorem jbF(ts us:Xg)(hl:ts.length<=1048576)(hlen:ts.length=us.length)(ih:∀t∈ts,∀u∈us,G 143 [tm t,tm u]=some (vi (ya t u),[])) :
  ∀i,i<=ts.length->jhh (jS ts) (jS us) (.fn 143 []) (jS ts) (vi (ts.length:Nat)) (vi (i:Nat))=some (vi (zt (ts.drop i) (us.drop i)),[]):=by
 refine upto ?_ ?_
 .rw [jq4,List.drop_length,zt];simp only[jg,hlen]
 .intro i hi ih';have hlt:(i:Int)<((ts.length:Nat):Int):=by omega
  have hi2:i<us.length:=by omega
  have hge:¬((us.length:Nat):Int)<=(i:Int):=by omega
  have h5:=jy hi (by show ts.length<=9223372036854775807;omega)
  have e1:=ih ts[i] (List.getElem_mem _) us[i] (List.getElem_mem _);rw[jq4,js hi,js hi2,zt];by_cases hc:ya ts[i] us[i]=0
  .rw [if_neg (λh=>h hc)];rw[hc]at e1;simp only[jg,hlt,jb hi,jb hi2,ji,hge,Je (f:=143) rfl,List.append_nil,e1,h5,ih']
  .rw [if_pos hc];generalize ya ts[i] us[i]=c at *;simp only[jg,hlt,jb hi,jb hi2,ji,hge,Je (f:=143) rfl,List.append_nil,e1,hc]
theorem jcS:∀a:T,Rx' a->Tz a-> ∀b:T,Rx' b->Tz b->G 143 [tm a,tm b]=some (vi (ya a b),[]):=by
 refine T.ind λa ih ha za b hb zb=>?_;have va:=yA a (ha.imp id λh=>h.1);have vb':=yA b (hb.imp id λh=>h.1);have hz:=za;unfold Tz at hz;rw[ze]at hz;have e1:=Z7 a.name b.name;have e2:=jcn a.args.length b.args.length;have e3:=jrC (kz a.name b.name) (km a.args.length b.args.length);have e4:a.args.length=b.args.length->G 185 [jS a.args,jS b.args,.fn 143 []]=some (vi (zt a.args b.args),[]):=λhlen=>by
  have key:=jbF a.args b.args (by omega) hlen (λt ht u hu=>ih t ht (ha.args t ht) (za.args t ht) u (hb.args u hu) (zb.args u hu)) 0 (Nat.zero_le _);simp only[Int.natCast_zero,List.drop_zero]at key;rw[jAg];simp only[jg,key]
 rw[jzU,YR];unfold cK Jv vF;cases h1:jr a.name<;>cases h2:jr b.name<;>rw[h1]at va<;>rw[h2]at vb'
 .show _=some (vi (if(if km 1 1≠0 then km 1 1 else if kz a.name b.name≠0 then kz a.name b.name else km a.args.length b.args.length)≠0 then(if km 1 1≠0 then km 1 1 else if kz a.name b.name≠0 then kz a.name b.name else km a.args.length b.args.length)else zt a.args b.args),[]);rw[if_neg (show ¬km 1 1≠0 by decide)];by_cases hz0:(if kz a.name b.name≠0 then kz a.name b.name else km a.args.length b.args.length)=0
  .have hlen:a.args.length=b.args.length:=by
    split at hz0
    .rename_i h;exact absurd hz0 h
    .exact (Z6.zero _ _).1 hz0
   rw[if_neg (λh=>h hz0)];rw[hz0]at e3;simp only[jg,va,vb',e1,e2,e3,e4 hlen]
  .rw [if_pos hz0];generalize (if kz a.name b.name≠0 then kz a.name b.name else km a.args.length b.args.length)=c at *;simp only[jg,va,vb',e1,e2,e3,hz0]
 .have:(if(if km 1 0≠0 then km 1 0 else if kz a.name b.name≠0 then kz a.name b.name else km a.args.length b.args.length)≠0 then(if km 1 0≠0 then km 1 0 else if kz a.name b.name≠0 then kz a.name b.name else km a.args.length b.args.length)else zt a.args b.args)=1:=by
   rw[if_pos (show km 1 0≠0 by decide),if_pos (show km 1 0≠0 by decide)];rfl
  show _=some (vi (if(if km 1 0≠0 then km 1 0 else if kz a.name b.name≠0 then kz a.name b.name else km a.args.length b.args.length)≠0 then(if km 1 0≠0 then km 1 0 else if kz a.name b.name≠0 then kz a.name b.name else km a.args.length b.args.length)else zt a.args b.args),[]);rw[this];simp only[jg,va,vb']
 .have:(if(if km 0 1≠0 then km 0 1 else if kz a.name b.name≠0 then kz a.name b.name else km a.args.length b.args.length)≠0 then(if km 0 1≠0 then km 0 1 else if kz a.name b.name≠0 then kz a.name b.name else km a.args.length b.args.length)else zt a.args b.args) = -1:=by
   rw[if_pos (show km 0 1≠0 by decide),if_pos (show km 0 1≠0 by decide)];rfl
  show _=some (vi (if(if km 0 1≠0 then km 0 1 else if kz a.name b.name≠0 then kz a.name b.name else km a.args.length b.args.length)≠0 then(if km 0 1≠0 then km 0 1 else if kz a.name b.name≠0 then kz a.name b.name else km a.args.length b.args.length)else zt a.args b.args),[]);rw[this];simp only[jg,va,vb']
 .show _=some (vi (if(if km 0 0≠0 then km 0 0 else if kz a.name b.name≠0 then kz a.name b.name else km a.args.length b.args.length)≠0 then(if km 0 0≠0 then km 0 0 else if kz a.name b.name≠0 then kz a.name b.name else km a.args.length b.args.length)else zt a.args b.args),[]);rw[if_neg (show ¬km 0 0≠0 by decide)];by_cases hz0:(if kz a.name b.name≠0 then kz a.name b.name else km a.args.length b.args.length)=0
  .have hlen:a.args.length=b.args.length:=by
    split at hz0
    .rename_i h;exact absurd hz0 h
    .exact (Z6.zero _ _).1 hz0
   rw[if_neg (λh=>h hz0)];rw[hz0]at e3;simp only[jg,va,vb',e1,e2,e3,e4 hlen]
  .rw [if_pos hz0];generalize (if kz a.name b.name≠0 then kz a.name b.name else km a.args.length b.args.length)=c at *;simp only[jg,va,vb',e1,e2,e3,hz0]
theorem jn8(x y:Xb):G 182 [sv x,sv y]=some (vi (kz x y),[]):=by
 rw[jAd,Zu];cases h1:zz x y<;>cases h2:zz y x<;>simp only[jg,jbT,h1,h2]
theorem jee(n m:Xb)(ts us:Xg)(hl:ts.length<=1048576)(hlen:ts.length=us.length)(ih:∀t∈ts,∀u∈us,G 134 [tm t,tm u]=some (vi (ya t u),[])) :
  ∀i,i<=ts.length->jds (vi (i:Nat)) (sv n) (jS ts) (sv m) (jS us)=some (vi (zt (ts.drop i) (us.drop i)),[]):=by
 refine upto ?_ ?_
 .rw [jqN,List.drop_length,zt];simp only[jg]
 .intro i hi ih';have hlt:(i:Int)<((ts.length:Nat):Int):=by omega
  have hi2:i<us.length:=by omega
  have h5:=jy hi (by show ts.length<=9223372036854775807;omega)
  have e1:=ih ts[i] (List.getElem_mem _) us[i] (List.getElem_mem _);rw[jqN,js hi,js hi2,zt];by_cases hc:ya ts[i] us[i]=0
  .rw [if_neg (λh=>h hc)];rw[hc]at e1;simp only[jg,hlt,jb hi,jb hi2,ji,e1,h5,ih']
  .rw [if_pos hc];generalize ya ts[i] us[i]=c at *;simp only[jg,hlt,jb hi,jb hi2,ji,e1,hc]
theorem jk8(a b:T):ya a b=if jr a.name=true/\jr b.name=false then -1 else if jr a.name=false/\jr b.name=true then 1 else if ¬a.name=b.name then kz a.name b.name else if a.args.length<b.args.length then -1 else if b.args.length<a.args.length then 1 else zt a.args b.args:=by
 rw[YR];unfold cK Jv vF;have hn:=Jg.zero a.name b.name;have hzr:km 1 1=0/\km 0 0=0/\km 0 1 = -1/\km 1 0=1:=by decide
 obtain⟨z1,z2,z3,z4⟩:=hzr;have hz:km a.args.length b.args.length=if a.args.length<b.args.length then -1 else if b.args.length<a.args.length then 1 else 0:=rfl;cases h1:jr a.name<;>cases h2:jr b.name<;>simp only[Bool.false_eq_true,if_true,if_false,z1,z2,z3,z4,hz]
 all_goals have hs:=(Jg.zero b.name b.name).2 rfl
 all_goals by_cases e:a.name=b.name
 all_goals by_cases l1:a.args.length<b.args.length
 all_goals by_cases l2:b.args.length<a.args.length
 all_goals first
  |(simp[e,hs,l1,l2];done)
  |(have ne:¬kz a.name b.name=0:=λh=>e (hn.1 h);simp only[ne_eq,e,ne,not_false_eq_true,not_true_eq_false,if_true,if_false,and_true,and_false,reduceCtorEq];done)
  |simp[l1,l2]
theorem jhL:∀a:T,Tz a-> ∀b:T,Tz b->G 134 [tm a,tm b]=some (vi (ya a b),[]):=by
 refine T.ind λa ih za b zb=>?_;have va:=yc a.name (((kQ a).1 za.wf).1);have vb':=yc b.name (((kQ b).1 zb.wf).1);have hz:=za;unfold Tz at hz;rw[ze]at hz;have e1:=jn8 a.name b.name;have e4:a.args.length=b.args.length->jds (vi 0) (sv a.name) (jS a.args) (sv b.name) (jS b.args)=some (vi (zt a.args b.args),[]):=λhlen=>by
  have key:=jee a.name b.name a.args b.args (by omega) hlen (λt ht u hu=>ih t ht (za.args t ht) u (zb.args u hu)) 0 (Nat.zero_le _);simp only[Int.natCast_zero,List.drop_zero]at key;exact key
 rw[jzN,jk8];have main:∀p:Bool,G 73 [sv a.name]=some (vb p,[])->G 73 [sv b.name]=some (vb p,[])->_:=λp _ _=>trivial;clear main;cases h1:jr a.name<;>cases h2:jr b.name<;>rw[h1]at va<;>rw[h2]at vb'
 all_goals by_cases en:a.name=b.name
 all_goals try (exfalso;rw[en,h2]at h1;cases h1;done)
 all_goals by_cases l1:a.args.length<b.args.length
 all_goals by_cases l2:b.args.length<a.args.length
 all_goals have l1':(((a.args.length:Nat):Int)<((b.args.length:Nat):Int))=(a.args.length<b.args.length):=propext (by omega)
 all_goals have l2':(((b.args.length:Nat):Int)<((a.args.length:Nat):Int))=(b.args.length<a.args.length):=propext (by omega)
 all_goals first
  |(have e4:=e4 (by omega);rw[en]at e4;simp only[jg,vb',en,l1,l2,l1',l2',e4,and_true,and_false];done)
  |(simp only[jg,va,vb',e1,en,l1,l2,l1',l2',and_true,and_false];done)
  |(simp only[jg,va,vb',e1,en,l1,l2,l1',l2',and_true,true_and,and_false,false_and])
abbrev jD(l:Lt):Xd:=[vb l.1,sv l.2.name,.sl 2 (l.2.args.map jm)]
abbrev ltm(l:Lt):A:= .agg [vb l.1,sv l.2.name,.sl 2 (l.2.args.map jm)]
theorem jmW(b:Bool):G 145 [vb b]=some (vi (fl b:Nat),[]):=by
 rw[jzW];cases b<;>simp only[jg]<;>rfl
theorem Kb(a b:Lt)(ha:Rx' a.2)(za:Tz a.2)(hb:Rx' b.2)(zb:Tz b.2):G 96 [ltm a,ltm b]=some (vi (cmpL a b),[]):=by
 have e1:=jcS a.2 ha za b.2 hb zb;have e2:=jmW a.1;have e3:=jmW b.1;have e4:=jcn (fl a.1) (fl b.1);have e5:=jrC (ya a.2 b.2) (km (fl a.1) (fl b.1));have e6:cmpL a b=if ya a.2 b.2≠0 then ya a.2 b.2 else km (fl a.1) (fl b.1):=rfl;rw[g96,e6];generalize (if ya a.2 b.2≠0 then ya a.2 b.2 else km (fl a.1) (fl b.1))=c at *;generalize km (fl a.1) (fl b.1)=d at *;generalize ya a.2 b.2=f at *;simp only[jg,e1,e2,e3,e4,e5]
theorem Qt(a b:Lt)(za:Tz a.2)(zb:Tz b.2):G 87 [ltm a,ltm b]=some (vi (cmpL a b),[]):=by
 have e1:=jhL a.2 za b.2 zb;have e6:cmpL a b=if ya a.2 b.2≠0 then ya a.2 b.2 else km (fl a.1) (fl b.1):=rfl;rw[g87,e6];by_cases h:ya a.2 b.2=0
 .rw [if_neg (λh'=>h' h)];rw[h]at e1;obtain⟨p,t⟩:=a;obtain⟨q,u⟩:=b;have d1:km (fl false) (fl true) = -1:=by decide
  have d2:km (fl true) (fl false)=1:=by decide
  have d3:km (fl true) (fl true)=0:=by decide
  have d4:km (fl false) (fl false)=0:=by decide
  cases p<;>cases q<;>simp only[jg,e1,d1,d2,d3,d4]
 .rw [if_pos h];generalize ya a.2 b.2=c at *;simp only[jg,e1,h]
def yE(t:T):Bool:=if t.name=[61]then jfo t else qz t.name && kV t
theorem jf5(t:T)(hw:KZ t)(hs:tsz t<=1048576):G 86 [tm t]=some (vb (yE t),[]):=by
 unfold yE;by_cases he:t.name=[61]
 .rw [if_pos he];exact jed t hw hs he
 .have e1:=Yh t.name ((kQ t).1 hw).1;have e2:=YV t hw hs;rw[if_neg he,g86];cases h:qz t.name<;>rw[h]at e1
  .simp only[jg,he,e1,Bool.false_and]
  .simp only[jg,he,e1,e2,Bool.true_and]
theorem jd7(t:T)(hw:KZ t)(hs:tsz t<=1048576):G 108 [tm t]=some (vb (yE t),[]):=by
 unfold yE;by_cases he:t.name=[61]
 .rw [if_pos he];exact jcV t hw hs he
 .have e0:=KR t;rw[decide_eq_false he]at e0;have e1:=jcw t.name ((kQ t).1 hw).1;have e2:=Ye t hw hs;rw[if_neg he,jxU];cases h:qz t.name<;>rw[h]at e1
  .simp only[jg,e0,e1,Bool.false_and]
  .simp only[jg,e0,e1,e2,Bool.true_and]
abbrev cm(c:kg):A:= .agg [.sl 3 (c.map jD)]
def zN(c:kg):Bool:=c.all (λl=>yE l.2) && (jiE c && decide (c.length<=8))
theorem jmI{t:T}(h:yE t=true):Rx' t:=by
 unfold yE at h;by_cases he:t.name=[61]
 .rw [if_pos he]at h;unfold jfo at h;rw[Bool.and_eq_true,decide_eq_true_eq,Bool.and_eq_true,Bool.and_eq_true]at h;refine Or.inr ⟨he,λu hu=>?_⟩;obtain⟨n,us⟩:=t
  match us,h.1 with
  | [a,b],_=>
   have hu:u ∈ [a,b]:=hu;simp only[List.mem_cons,List.not_mem_nil,or_false]at hu;rcases hu with rfl|rfl
   .exact h.2.2.1
   .exact h.2.2.2
 .rw [if_neg he,Bool.and_eq_true]at h;have h2:=h.2;unfold kV at h2;rw[Bool.and_eq_true]at h2;exact Or.inl h2.2
theorem jaJ(l:Lt)(hz:Tz l.2):G 95 [ltm l]=some (vb (yE l.2),[]):=by
 have e:=jd7 l.2 hz.wf hz;rw[g95];simp only[jg,e]
def ZZ:Option Lt->kg->Bool
 |_,[]=>true
 |none,l::r=>yE l.2 && ZZ (some l) r
 |some p,l::r=>yE l.2 && (decide (cmpL p l<0) && ZZ (some l) r)
theorem jgK:∀(p:Lt)(c:kg),ZZ (some p) c=(c.all (λl=>yE l.2) && jiE (p::c))
 |p,[]=>rfl
 |p,l::r=>by
  rw[ZZ,jgK l r,List.all_cons,jiE];cases yE l.2<;>cases decide (cmpL p l<0)<;>simp
theorem jgJ(c:kg):(ZZ none c && decide (c.length<=8))=zN c:=by
 unfold zN;cases c with
 |nil=>rfl
 |cons l r=>rw[ZZ,jgK,List.all_cons];cases yE l.2<;>simp[Bool.and_assoc]
theorem zy(l:Lt):kr 3 (.elt (jD l) 0)=some (ltm l):=rfl
theorem jkF(c:kg)(hl:c.length<=1048576)(hz:∀l∈c,Tz l.2):∀i,i<=c.length-> ∀p:Option Lt,(p=none↔i=0)->(∀q,p=some q->yE q.2=true/\ ∃h:i-1<c.length,c[i-1]=q)->
  jmu (.sl 3 (c.map jD)) (vi (c.length:Nat)) (vi (i:Nat)) (.sl 3 (c.map jD))=some (vb (ZZ p (c.drop i) && decide (c.length<=8)),[]):=by
 refine upto ?_ ?_
 .intro p _ _;have e:decide (((c.length:Nat):Int)<=8)=decide (c.length<=8):=by congr 1;exact propext (by omega)
  rw[ju4,List.drop_length,<-e];have:ZZ p []=true:=by cases p<;>rfl
  rw[this];simp only[jg,Bool.true_and]
 .intro i hi ih p hp hq;have hlt:(i:Int)<((c.length:Nat):Int):=by omega
  have h5:=jy hi (by show c.length<=9223372036854775807;omega)
  have e1:=jaJ c[i] (hz _ (List.getElem_mem hi));have ix:=jb (k:=3) (f:=jD) hi;have e1:G 95 [.agg [vb c[i].1,sv c[i].2.name,jS c[i].2.args]]=some (vb (yE c[i].2),[]):=e1;rw[ju4,js hi];cases ha:yE c[i].2 with
  |false=>
   rw[ha]at e1;have:ZZ p (c[i]::c.drop (i+1))=false:=by cases p<;>rw[ZZ,ha]<;>rfl
   rw[this];simp only[jg,hlt,ix,zy,e1,Bool.false_and]
  |true=>
   rw[ha]at e1;have ih1:=ih (some c[i]) (by simp) (λq hq=>by cases hq;exact⟨ha,by simpa using hi,rfl⟩);cases p with
   |none=>
    have h0:i=0:=hp.1 rfl;have hg:¬(0:Int)<(i:Int):=by omega
    rw[ZZ,ha,Bool.true_and,<-ih1];simp only[jg,hlt,ix,zy,e1,hg,h5]
   |some q=>
    obtain⟨hqa,hq1,hq2⟩:=hq q rfl;have hi0:¬i=0:=λh=>by have:=hp.2 h;cases this
    have hg:(0:Int)<(i:Int):=by omega
    have c1:ck ((i:Int)-1)=some (vi ((i-1:Nat):Int)):=by rw[show(i:Int)-1=((i-1:Nat):Int) by omega,jZ (by omega) (by omega)]
    have ix2:=jb (k:=3) (f:=jD) hq1;rw[hq2]at ix2;have hqz:Tz q.2:=by rw[<-hq2];exact hz _ (List.getElem_mem hq1)
    have e2:=Kb q c[i] (jmI hqa) hqz (jmI ha) (hz _ (List.getElem_mem hi));have e2:G 96 [.agg [vb q.1,sv q.2.name,jS q.2.args],.agg [vb c[i].1,sv c[i].2.name,jS c[i].2.args]]=some (vi (cmpL q c[i]),[]):=e2;rw[ZZ,ha,Bool.true_and];by_cases hc:cmpL q c[i]<0
    .have hc':¬(0:Int)<=cmpL q c[i]:=by omega
     rw[decide_eq_true hc,Bool.true_and,<-ih1];generalize cmpL q c[i]=d at *;simp only[jg,hlt,ix,zy,e1,hg,c1,ix2,e2,hc',h5]
    .have hc':(0:Int)<=cmpL q c[i]:=by omega
     rw[decide_eq_false hc];generalize cmpL q c[i]=d at *;simp only[jg,hlt,ix,zy,e1,hg,c1,ix2,e2,hc',Bool.false_and]
theorem K6(c:kg)(hl:c.length<=1048576)(hz:∀l∈c,Tz l.2):G 53 [cm c]=some (vb (zN c),[]):=by
 have key:=jkF c hl hz 0 (Nat.zero_le _) none (by simp) (λq h=>by cases h);rw[List.drop_zero,jgJ]at key;simp only[Int.natCast_zero]at key;rw[g53];simp only[jg,key]
theorem jkG(c:kg)(hl:c.length<=1048576)(hz:∀l∈c,Tz l.2):∀i,i<=c.length-> ∀p:Option Lt,(p=none↔i=0)->(∀q,p=some q-> ∃h:i-1<c.length,c[i-1]=q)->
  jmq (vi (i:Nat)) (.sl 3 (c.map jD))=some (vb (ZZ p (c.drop i)),[]):=by
 refine upto ?_ ?_
 .intro p _ _;rw[juZ,List.drop_length];have:ZZ p []=true:=by cases p<;>rfl
  rw[this];simp only[jg]
 .intro i hi ih p hp hq;have hlt:(i:Int)<((c.length:Nat):Int):=by omega
  have h5:=jy hi (by show c.length<=9223372036854775807;omega)
  have e1:=jf5 c[i].2 (hz _ (List.getElem_mem hi)).wf (hz _ (List.getElem_mem hi));have ix:=jb (k:=3) (f:=jD) hi;have ad:Jk (.elt (jD c[i]) 0) 1=some (.elt (jD c[i]) 1):=rfl;have ld:kr 2 (.elt (jD c[i]) 1)=some (tm c[i].2):=rfl;rw[juZ,js hi];cases ha:yE c[i].2 with
  |false=>
   rw[ha]at e1;have:ZZ p (c[i]::c.drop (i+1))=false:=by cases p<;>rw[ZZ,ha]<;>rfl
   rw[this];simp only[jg,hlt,ix,ad,ld,e1]
  |true=>
   rw[ha]at e1;have ih1:=ih (some c[i]) (by simp) (λq hq=>by cases hq;exact⟨by simpa using hi,rfl⟩);cases p with
   |none=>
    have h0:i=0:=hp.1 rfl;have hg:¬(0:Int)<(i:Int):=by omega
    rw[ZZ,ha,Bool.true_and,<-ih1];simp only[jg,hlt,ix,ad,ld,e1,hg,h5]
   |some q=>
    obtain⟨hq1,hq2⟩:=hq q rfl;have hi0:¬i=0:=λh=>by have:=hp.2 h;cases this
    have hg:(0:Int)<(i:Int):=by omega
    have c1:ck ((i:Int)-1)=some (vi ((i-1:Nat):Int)):=by rw[show(i:Int)-1=((i-1:Nat):Int) by omega,jZ (by omega) (by omega)]
    have ix2:=jb (k:=3) (f:=jD) hq1;rw[hq2]at ix2;have hqz:Tz q.2:=by rw[<-hq2];exact hz _ (List.getElem_mem hq1)
    have e2:=Qt q c[i] hqz (hz _ (List.getElem_mem hi));rw[ZZ,ha,Bool.true_and];by_cases hc:cmpL q c[i]<0
    .have hc':¬(0:Int)<=cmpL q c[i]:=by omega
     rw[decide_eq_true hc,Bool.true_and,<-ih1];generalize cmpL q c[i]=d at *;simp only[jg,hlt,ix,ad,ld,zy,e1,hg,c1,ix2,e2,hc',h5]
    .have hc':(0:Int)<=cmpL q c[i]:=by omega
     rw[decide_eq_false hc];generalize cmpL q c[i]=d at *;simp only[jg,hlt,ix,ad,ld,zy,e1,hg,c1,ix2,e2,hc',Bool.false_and]
theorem YW(c:kg)(hl:c.length<=1048576)(hz:∀l∈c,Tz l.2):G 45 [cm c]=some (vb (zN c),[]):=by
 have key:=jkG c hl hz 0 (Nat.zero_le _) none (by simp) (λq h=>by cases h);rw[List.drop_zero]at key;simp only[Int.natCast_zero]at key;rw[g45,<-jgJ];by_cases h8:c.length<=8
 .have h8':¬(8:Int)<((c.length:Nat):Int):=by omega
  rw[decide_eq_true h8,Bool.and_true];simp only[jg,h8',key]
 .have h8':(8:Int)<((c.length:Nat):Int):=by omega
  rw[decide_eq_false h8,Bool.and_false];simp only[jg,h8']
theorem jwY(l:Xa)(n:Xb):(vnA l n).length<=l.length+1:=by
 unfold vnA;split
 .omega
 .simp
theorem jvm{n:Nat}(h:n<=4194304):jO n 16=true:=by
 unfold jO;exact decide_eq_true ⟨by omega,by omega⟩
theorem Y0:∀(t:T)(l:Xa),(qv l t).length<=l.length+nodes t:=by
 refine T.ind λt ih l=>?_;have hn:=jU t;rw[jhY];split
 .have:=jwY l t.name;omega
 .have key:∀us:Xg,(∀u∈us,u∈t.args)-> ∀l:Xa,(Yo l us).length<=l.length+jF us:=by
   intro us;induction us with
   |nil=>intro _ l;simp[Yo,jF]
   |cons u us ih2=>
    intro hu l;have h1:=ih u (hu u (by simp)) l;have h2:=ih2 (λv hv=>hu v (by simp[hv])) (qv l u);rw[Yo,jF];omega
  have:=key t.args (λ_ h=>h) l;omega
theorem jlt:∀t:T,Tz t-> ∀l:Xa,l.length+nodes t<=4000000->jgU (tm t) (l.map cs)=some (.top,[.sl 1 ((qv l t).map cs)]):=by
 refine T.ind λt ih ht l hl=>?_;have hz:=ht;unfold Tz at hz;rw[ze]at hz;have hn:=jU t;have e0:=yc t.name (((kQ t).1 ht.wf).1);have e1:=jnc l t.name (by show l.length<=9223372036854775807;omega);have key:=upto (P:=λi=>∀l:Xa,l.length+jF (t.args.drop i)<=4000000->jae (vi (i:Nat)) (sv t.name) (jS t.args) (l.map cs)=some (.top,[.sl 1 ((Yo l (t.args.drop i)).map cs)])) (n:=t.args.length) ?_ ?_ 0 (Nat.zero_le _);rotate_left
 .intro l _;rw[jea,List.drop_length];simp only[jg];rfl
 .intro i hi ihi l hl;have hlt:(i:Int)<((t.args.length:Nat):Int):=by omega
  have h5:=jy hi (by show t.args.length<=9223372036854775807;omega)
  rw[js hi,jF]at hl;have q:=ih t.args[i] (List.getElem_mem hi) (ht.args _ (List.getElem_mem hi)) l (by omega);have hln:=Y0 t.args[i] l;have q2:=ihi (qv l t.args[i]) (by omega);rw[jea,js hi,Yo];generalize qv l t.args[i]=l' at *;have hr:hR 1 (A.top,[.sl 1 (l'.map cs)]) 0=some (l'.map cs):=rfl;simp only[jg,hlt,jb hi,ji,q,hr,h5,q2]
 have e2:jad (vi 0) (sv t.name) (jS t.args) (l.map cs)=some (.top,[.sl 1 ((Yo l t.args).map cs)]):=by
  have key:=key l (by rw[List.drop_zero];omega)
  rw[List.drop_zero]at key;have:jad (vi 0) (sv t.name) (jS t.args) (l.map cs)=jae (vi 0) (sv t.name) (jS t.args) (l.map cs):=by rw[jqO,jea]
  rw[this];exact key
 rw[jvS,jhY];cases hv:jr t.name<;>rw[hv]at e0
 .rw [if_neg Bool.false_ne_true];simp only[jg,e0,e2]
 .rw [if_pos rfl];unfold vnA;cases hc:l.contains t.name<;>rw[hc]at e1
  .have f:jO (l.length+1) 16=true:=jvm (by omega);rw[if_neg Bool.false_ne_true,List.map_append];simp only[jg,e0,e1,f];rfl
  .rw [if_pos rfl];simp only[jg,e0,e1]
theorem jeg(c:kg)(hl:c.length<=1000)(hz:∀l∈c,Tz l.2)(hs:∀l∈c,nodes l.2<=1000):G 88 [cm c]=some (.sl 1 ((kh c).map cs),[]):=by
 have key:=upto (P:=λi=>∀l:Xa,l.length<=1000*i->jiu (vi (i:Nat)) (.sl 3 (c.map jD)) (l.map cs)=some (.sl 1 (((c.drop i).foldl (λl x=>qv l x.2) l).map cs),[])) (n:=c.length) ?_ ?_ 0 (Nat.zero_le _)
 .have key:=key [] (by simp);rw[List.drop_zero]at key;have key:jiu (vi 0) (.sl 3 (c.map jD)) []=some (.sl 1 ((kh c).map cs),[]):=key;rw[g88];simp only[jg,key]
 .intro l _;rw[jvd,List.drop_length];simp only[jg];rfl
 .intro i hi ih l hll;have hlt:(i:Int)<((c.length:Nat):Int):=by omega
  have h5:=jy hi (by show c.length<=9223372036854775807;omega)
  have ix:=jb (k:=3) (f:=jD) hi;have ad:Jk (.elt (jD c[i]) 0) 1=some (.elt (jD c[i]) 1):=rfl;have ld:kr 2 (.elt (jD c[i]) 1)=some (tm c[i].2):=rfl;have hn:=hs _ (List.getElem_mem hi);have q:=jlt c[i].2 (hz _ (List.getElem_mem hi)) l (by omega);have hol:=Y0 c[i].2 l;have q2:=ih (qv l c[i].2) (by omega);rw[jvd,js hi,List.foldl_cons];generalize qv l c[i].2=l' at *;have hr:hR 1 (A.top,[.sl 1 (l'.map cs)]) 0=some (l'.map cs):=rfl;simp only[jg,hlt,ix,ad,ld,q,hr,h5,q2]
theorem jcm:∀t:T,Rx' t->Tz t-> ∀l:Xa,l.length+nodes t<=4000000->jdm (sv t.name) (jS t.args) (l.map cs)=some (.top,[.sl 1 ((qv l t).map cs)]):=by
 refine T.ind λt ih hk ht l hl=>?_;have hz:=ht;unfold Tz at hz;rw[ze]at hz;have hn:=jU t;have e0:=yA t (hk.imp id λh=>h.1);have e1:=Qm l t.name (by show l.length<=9223372036854775807;omega);have key:=upto (P:=λi=>∀l:Xa,l.length+jF (t.args.drop i)<=4000000->jag (jS t.args) (vi (t.args.length:Nat)) (vi (i:Nat)) (l.map cs)=some (.top,[.sl 1 ((Yo l (t.args.drop i)).map cs)])) (n:=t.args.length) ?_ ?_ 0 (Nat.zero_le _);rotate_left
 .intro l _;rw[jec,List.drop_length];simp only[jg];rfl
 .intro i hi ihi l hl;have hlt:(i:Int)<((t.args.length:Nat):Int):=by omega
  have h5:=jy hi (by show t.args.length<=9223372036854775807;omega)
  rw[js hi,jF]at hl;have q:=ih t.args[i] (List.getElem_mem hi) (hk.args _ (List.getElem_mem hi)) (ht.args _ (List.getElem_mem hi)) l (by omega);have hln:=Y0 t.args[i] l;have q2:=ihi (qv l t.args[i]) (by omega);rw[jec,js hi,Yo];generalize qv l t.args[i]=l' at *;have hr:hR 1 (A.top,[.sl 1 (l'.map cs)]) 0=some (l'.map cs):=rfl;simp only[jg,hlt,jb hi,ji,q,hr,h5,q2]
 have e2:jaf (jS t.args) (vi (t.args.length:Nat)) (vi 0) (l.map cs)=some (.top,[.sl 1 ((Yo l t.args).map cs)]):=by
  have key:=key l (by rw[List.drop_zero];omega)
  rw[List.drop_zero]at key;have:∀n:A,jaf (jS t.args) n (vi 0) (l.map cs)=jag (jS t.args) n (vi 0) (l.map cs):=λn=>by rw[jqU,jec]
  rw[this];exact key
 rw[jvV,jhY];cases hv:jr t.name<;>rw[hv]at e0
 .rw [if_neg Bool.false_ne_true];by_cases hl0:((t.args.length:Nat):Int)=0
  .simp only[jg,hl0,e0];rw[hl0]at e2;exact e2
  .simp only[jg,hl0,e2]
 .have ha:t.args=[]:=by
   rcases hk with h|h
   .exact jbp h hv
   .rw [h.1]at hv;exact absurd hv (by decide)
  have hl0:((t.args.length:Nat):Int)=0:=by rw[ha];rfl
  rw[if_pos rfl];unfold vnA;cases hc:l.contains t.name<;>rw[hc]at e1
  .have f:jO (l.length+1) 16=true:=jvm (by omega);rw[if_neg Bool.false_ne_true,List.map_append];simp only[jg,hl0,e0,e1,f];rfl
  .rw [if_pos rfl];simp only[jg,hl0,e0,e1]
theorem jlB(c:kg)(hl:c.length<=1000)(hk:∀l∈c,Rx' l.2)(hz:∀l∈c,Tz l.2)(hs:∀l∈c,nodes l.2<=1000):G 97 [cm c]=some (.sl 1 ((kh c).map cs),[]):=by
 have key:=upto (P:=λi=>∀l:Xa,l.length<=1000*i->jiv (.sl 3 (c.map jD)) (vi (c.length:Nat)) (vi (i:Nat)) (l.map cs)=some (.sl 1 (((c.drop i).foldl (λl x=>qv l x.2) l).map cs),[])) (n:=c.length) ?_ ?_ 0 (Nat.zero_le _)
 .have key:=key [] (by simp);rw[List.drop_zero]at key;have key:jiv (.sl 3 (c.map jD)) (vi (c.length:Nat)) (vi 0) []=some (.sl 1 ((kh c).map cs),[]):=key;rw[g97];simp only[jg,key]
 .intro l _;rw[jvh,List.drop_length];simp only[jg];rfl
 .intro i hi ih l hll;have hlt:(i:Int)<((c.length:Nat):Int):=by omega
  have h5:=jy hi (by show c.length<=9223372036854775807;omega)
  have ix:=jb (k:=3) (f:=jD) hi;have hn:=hs _ (List.getElem_mem hi);have q:=jcm c[i].2 (hk _ (List.getElem_mem hi)) (hz _ (List.getElem_mem hi)) l (by omega);have hol:=Y0 c[i].2 l;have q2:=ih (qv l c[i].2) (by omega);rw[jvh,js hi,List.foldl_cons];generalize qv l c[i].2=l' at *;have hr:hR 1 (A.top,[.sl 1 (l'.map cs)]) 0=some (l'.map cs):=rfl;simp only[jg,hlt,ix,zy,q,hr,h5,q2]
abbrev yH:=List (T×T)
def jiG:ju->Bool
 | []=>true
 | [_]=>true
 |p::q::s=>zz p.1 q.1 && jiG (q::s)
noncomputable def jB(s:ju):Bool:=decide (s.length<=12) && (jiG s && s.all λq=>jr q.1 && (kV q.2 && !dq q.2.name q.1))
def kC(s u:ju):ju:=QV (s.map (λq=>(q.1,sub u q.2))++u.filter λq=>(look s q.1).isNone)
def jv(x y:T):Xb×T:=if jr x.name=false\/(jr y.name=true/\zz x.name y.name=true)then(y.name,x)else(x.name,y)
noncomputable def yl(s:ju)(l r:T)(rest:yH):Option (ju×yH):=
 if jH (sub s l)=false\/jH (sub s r)=false then none
 else if dq (sub s l) (sub s r)then some (s,rest)
 else if jr (sub s l).name=true\/jr (sub s r).name=true then
  (if(jv (sub s l) (sub s r)).1∈ke (jv (sub s l) (sub s r)).2\/jB [jv (sub s l) (sub s r)]=false\/jB (kC s [jv (sub s l) (sub s r)])=false then none else some (kC s [jv (sub s l) (sub s r)],rest))
 else if(sub s l).name=(sub s r).name/\(sub s l).args.length=(sub s r).args.length then some (s,(sub s l).args.zip (sub s r).args++rest)else none
noncomputable def kH:Nat->ju->yH->Option (Option ju)
 |_,s,[]=>some (some s)
 |0,_,_::_=>none
 |k+1,s,p::rest=>(match yl s p.1 p.2 rest with|none=>some none|some q=>kH k q.1 q.2)
def Exx(t:T):Prop:=(qb t=true\/(t.name=[61]/\t.args.length=2/\ ∀u∈t.args,qb u=true))/\nodes t<=31
def IdS(s:ju):Prop:=∀q∈s,∀x∈ke q.2,look s x=none
def Jt(s:ju)(es:yH):Prop:=jB s=true/\IdS s/\ ∀p∈es,Exx p.1/\Exx p.2
theorem jI{s:ju}(h:jB s=true):s.length<=12/\jiG s=true/\ ∀q∈s,jr q.1=true/\kV q.2=true/\q.2.name≠q.1:=by
 unfold jB at h;rw[Bool.and_eq_true,decide_eq_true_eq,Bool.and_eq_true,List.all_eq_true]at h;refine⟨h.1,h.2.1,λq hq=>?_⟩;have:=h.2.2 q hq;rw[Bool.and_eq_true,Bool.and_eq_true,Bool.not_eq_true']at this;exact⟨this.1,this.2.1,λe=>by rw[e,jhx]at this;exact absurd this.2.2 (by decide)⟩
theorem Qe{t:T}(h:kV t=true):qb t=true:=by
 unfold kV at h;rw[Bool.and_eq_true]at h;exact h.2
theorem vsv{t:T}(h:jr t.name=true):ke t=[t.name]:=by rw[YI,h,if_pos rfl]
theorem vsf{t:T}(h:jr t.name=false):ke t=z7 t.args:=by rw[YI,h,if_neg Bool.false_ne_true]
theorem yx{x:Xb} :∀{ts:Xg},x∈z7 ts↔ ∃t∈ts,x∈ke t
 | []=>by simp[z7]
 |t::ts=>by rw[z7,List.mem_append,yx];simp
theorem jfd{s:ju}(hs:IdS s):∀(w:T){x:Xb},x∈ke (sub s w)->look s x=none:=by
 refine T.ind (p:=λw=>∀{x:Xb},x∈ke (sub s w)->look s x=none) λw ih=>?_;intro x hx;cases hv:jr w.name with
 |true=>
  rw[KI hv,jc1]at hx;cases hl:look s w.name with
  |some r=>rw[hl]at hx;exact hs _ (Zz hl) x hx
  |none=>
   rw[hl]at hx;have hx:x∈ke (.mk w.name []):=hx;rw[vsv (t:= .mk w.name []) hv,List.mem_singleton]at hx;rw[hx];exact hl
 |false=>
  rw[Jb hv,vsf (t:= .mk w.name (w.args.map (sub s))) hv,yx]at hx;obtain⟨t,ht,hx⟩:=hx;obtain⟨a,ha,rfl⟩:=List.mem_map.1 ht;exact ih a ha hx
theorem jgN{n:Xb}{t:T} :∀(w:T){x:Xb},x∈ke (sub [(n,t)] w)->(x∈ke w/\x≠n)\/x∈ke t:=by
 refine T.ind (p:=λw=>∀{x:Xb},x∈ke (sub [(n,t)] w)->(x∈ke w/\x≠n)\/x∈ke t) λw ih=>?_;intro x hx;cases hv:jr w.name with
 |true=>
  rw[KI hv,jc1]at hx;by_cases hn:n=w.name
  .have:look [(n,t)] w.name=some t:=by rw[look,if_pos hn]
   rw[this]at hx;exact Or.inr hx
  .have:look [(n,t)] w.name=none:=by rw[look,if_neg hn,look]
   rw[this]at hx;have hx:x∈ke (.mk w.name []):=hx;rw[vsv (t:= .mk w.name []) hv,List.mem_singleton]at hx;left;rw[vsv hv,hx];exact⟨by simp[T.name],λe=>hn e.symm⟩
 |false=>
  rw[Jb hv,vsf (t:= .mk w.name (w.args.map (sub [(n,t)]))) hv,yx]at hx;obtain⟨u,hu,hx⟩:=hx;obtain⟨a,ha,rfl⟩:=List.mem_map.1 hu;rcases ih a ha hx with⟨h1,h2⟩|h
  .left;rw[vsf hv,yx];exact⟨⟨a,ha,h1⟩,h2⟩
  .exact Or.inr h
theorem jl7{s:ju} :∀(w:T),qb w=true->(∀x∈ke w,look s x=none)->sub s w=w:=by
 refine T.ind λw ih=>?_;intro hk h;cases hv:jr w.name with
 |true=>
  rw[KI hv,jc1,h w.name (by rw[vsv hv];simp)]
  have ha:=jbp hk hv;show T.mk w.name []=w;rw[<-ha,T.eta]
 |false=>
  rw[Jb hv];have:w.args.map (sub s)=w.args:=by
   conv=>rhs;rw[<-List.map_id w.args]
   refine List.map_congr_left λa ha=>ih a ha (qi hk a ha) λx hx=>h x ?_;rw[vsf hv,yx];exact⟨a,ha,hx⟩
  rw[this,T.eta]
theorem jeJ{s:ju}{n:Xb}{t:T}{q:Xb×T} :q∈KT s n t↔q∈s\/q=(n,t):=by
 unfold KT;have e:=List.takeWhile_append_dropWhile (p:=λp:Xb×T=>zz p.1 n) (l:=s);constructor
 .intro h;rcases List.mem_append.1 h with h|h
  .left;rw[<-e];exact List.mem_append_left _ h
  .rcases List.mem_cons.1 h with h|h
   .exact Or.inr h
   .left;rw[<-e];exact List.mem_append_right _ h
 .rintro (h|h)
  .rw [<-e]at h;rcases List.mem_append.1 h with h|h
   .exact List.mem_append_left _ h
   .exact List.mem_append_right _ (List.mem_cons_of_mem _ h)
  .rw [h];exact List.mem_append_right _ (List.mem_cons_self ..)
theorem jrV(s:ju)(n:Xb)(t:T):(KT s n t).length=s.length+1:=by
 unfold KT;have e:=congrArg List.length (List.takeWhile_append_dropWhile (p:=λp:Xb×T=>zz p.1 n) (l:=s));rw[List.length_append]at e;rw[List.length_append,List.length_cons];omega
theorem KD:∀(m s:ju),(∀q∈m,q.2.name≠q.1)->(m.foldl (λs p=>Ks s p.1 p.2) s).length=s.length+m.length/\ ∀q,q∈m.foldl (λs p=>Ks s p.1 p.2) s↔q∈s\/q∈m
 | [],s,_=>⟨rfl,λq=>by simp⟩
 |p::m,s,h=>by
  rw[List.foldl_cons];have e:Ks s p.1 p.2=KT s p.1 p.2:=if_neg (h p (by simp));obtain⟨h1,h2⟩:=KD m (Ks s p.1 p.2) λq hq=>h q (by simp[hq]);refine⟨by rw[h1,e,jrV,List.length_cons];omega,λq=>?_⟩;rw[h2,e,jeJ,List.mem_cons,or_assoc]
theorem jla{s:ju}(hs:jB s=true)(hi:IdS s){n:Xb}{t:T}(hn:jr n=true)(hd:look s n=none)(ht:∀x∈ke t,look s x=none)(ho:n ∉ ke t)(htn:t.name≠n) :
  (kC s [(n,t)]).length=s.length+1/\IdS (kC s [(n,t)])/\(∀q,q∈kC s [(n,t)]↔(∃p∈s,q=(p.1,sub [(n,t)] p.2))\/q=(n,t))/\ ∀q∈s.map (λq=>(q.1,sub [(n,t)] q.2))++[(n,t)],q.2.name≠q.1:=by
 obtain⟨_,_,hv⟩:=jI hs;have hf:([(n,t)]:ju).filter (λq=>(look s q.1).isNone)=[(n,t)]:=by simp[hd]
 have hname:∀q∈s.map (λq=>(q.1,sub [(n,t)] q.2))++[(n,t)],q.2.name≠q.1:=by
  intro q hq;rcases List.mem_append.1 hq with hq|hq
  .obtain ⟨p,hp,rfl⟩:=List.mem_map.1 hq;intro e;have e:(sub [(n,t)] p.2).name=p.1:=e;have hx:p.1∈ke (sub [(n,t)] p.2):=by rw[vsv (by rw[e];exact(hv p hp).1),e];simp
   have hk:look s p.1≠none:=λh=>qK.1 h p hp rfl;rcases jgN _ hx with⟨h1,_⟩|h1
   .exact hk (hi p hp _ h1)
   .exact hk (ht _ h1)
  .simp only[List.mem_singleton]at hq;rw[hq];exact htn
 obtain⟨f1,f2⟩:=KD _ [] hname;have hm:∀q,q∈kC s [(n,t)]↔(∃p∈s,q=(p.1,sub [(n,t)] p.2))\/q=(n,t):=by
  intro q;unfold kC QV;rw[hf,f2];simp only[List.not_mem_nil,false_or,List.mem_append,List.mem_map,List.mem_singleton];constructor
  .rintro (⟨p,h1,h2⟩|h)
   .exact Or.inl ⟨p,h1,h2.symm⟩
   .exact Or.inr h
  .rintro (⟨p,h1,h2⟩|h)
   .exact Or.inl ⟨p,h1,h2.symm⟩
   .exact Or.inr h
 refine⟨?_,?_,hm,hname⟩
 .unfold kC QV;rw[hf,f1,List.length_append,List.length_map];simp
 .intro q hq x hx;have hxn:x≠n/\look s x=none:=by
   rcases(hm q).1 hq with⟨p,hp,rfl⟩|rfl
   .rcases jgN _ hx with⟨h1,h2⟩|h1
    .exact ⟨h2,hi p hp _ h1⟩
    .exact ⟨λe=>ho (e ▸ h1),ht _ h1⟩
   .exact ⟨λe=>ho (e ▸ hx),ht _ hx⟩
  refine qK.2 λp hp e=>?_;rcases(hm p).1 hp with⟨p',hp',rfl⟩|rfl
  .exact qK.1 hxn.2 p' hp' e
  .exact hxn.1 e.symm
def mz(s:ju):yH->Nat
 | []=>0
 |p::r=>nodes (sub s p.1)+nodes (sub s p.2)+mz s r
theorem jge(s:ju):∀a b:yH,mz s (a++b)=mz s a+mz s b
 | [],b=>by simp[mz]
 |p::a,b=>by rw[List.cons_append,mz,mz,jge s a b];omega
theorem jrr{s:ju} :∀(a b:Xg),(∀u∈a,sub s u=u)->(∀u∈b,sub s u=u)->mz s (a.zip b)<=jF a+jF b
 | [],_,_,_=>by simp[mz]
 |_::_,[],_,_=>by simp[mz]
 |x::a,y::b,h1,h2=>by
  have:=jrr a b (λu hu=>h1 u (by simp[hu])) (λu hu=>h2 u (by simp[hu]));rw[List.zip_cons_cons,mz,h1 x (by simp),h2 y (by simp)];simp only[jF];omega
theorem Exx.sub{s:ju}(hs:jB s=true){t:T}(h:Exx t):qb (sub s t)=true\/((sub s t).name=[61]/\(sub s t).args.length=2/\ ∀u∈(sub s t).args,qb u=true):=by
 obtain⟨_,_,hv⟩:=jI hs;have ho:∀q∈s,qb q.2=true:=λq hq=>(Qe (hv q hq).2.1);rcases h.1 with h|⟨h1,h2,h3⟩
 .exact Or.inl (jb4 ho t h)
 .have hvn:jr t.name=false:=by rw[h1];decide
  right;rw[Jb hvn];refine⟨h1,by show(t.args.map _).length=2;rw[List.length_map,h2],λu hu=>?_⟩;obtain⟨a,ha,rfl⟩:=List.mem_map.1 hu;exact jb4 ho a (h3 a ha)
theorem kT{t:T}(h:jH t=true):nodes t<=30:=by
 simp only[jH,Bool.and_eq_true,decide_eq_true_eq]at h;exact h.1
theorem jmV{t:T}(h:qb t=true\/(t.name=[61]/\t.args.length=2/\ ∀u∈t.args,qb u=true)):∀u∈t.args,qb u=true:=by
 rcases h with h|h
 .exact qi h
 .exact h.2.2
theorem zx{s:ju}{l r:T}{rest:yH}(h:Jt s ((l,r)::rest)){s':ju}{es:yH}(hst:yl s l r rest=some (s',es)):Jt s' es/\((s'=s/\mz s' es<mz s ((l,r)::rest))\/s'.length=s.length+1):=by
 obtain⟨hv,hi,he⟩:=h;obtain⟨el,er⟩:=he (l,r) (by simp);have hrest:∀p∈rest,Exx p.1/\Exx p.2:=λp hp=>he p (by simp[hp]);have xl:=el.sub hv;have xr:=er.sub hv;have nl:=Zc (sub s l);have vl:=λ{x} (hx:x∈ke (sub s l))=>jfd hi l hx;have vr:=λ{x} (hx:x∈ke (sub s r))=>jfd hi r hx;have hmz:mz s ((l,r)::rest)=nodes (sub s l)+nodes (sub s r)+mz s rest:=rfl;unfold yl at hst;split at hst
 .cases hst
 rename_i hsm;have hs1:jH (sub s l)=true:=by
  cases h:jH (sub s l)with
  |true=>rfl
  |false=>exact absurd (Or.inl h) hsm
 have hs2:jH (sub s r)=true:=by
  cases h:jH (sub s r)with
  |true=>rfl
  |false=>exact absurd (Or.inr h) hsm
 split at hst
 .cases hst;exact⟨⟨hv,hi,hrest⟩,Or.inl ⟨rfl,by rw[hmz];omega⟩⟩
 split at hst
 .rename_i hvar;split at hst
  .cases hst
  rename_i hno;cases hst;have h1:(jv (sub s l) (sub s r)).1 ∉ ke (jv (sub s l) (sub s r)).2:=λh=>hno (Or.inl h);have h2:jB (kC s [jv (sub s l) (sub s r)])=true:=by
   cases h:jB (kC s [jv (sub s l) (sub s r)])with
   |true=>rfl
   |false=>exact absurd (Or.inr (Or.inr h)) hno
  have h3:jB [jv (sub s l) (sub s r)]=true:=by
   cases h:jB [jv (sub s l) (sub s r)]with
   |true=>rfl
   |false=>exact absurd (Or.inr (Or.inl h)) hno
  have hb:look s (jv (sub s l) (sub s r)).1=none/\ ∀x∈ke (jv (sub s l) (sub s r)).2,look s x=none:=by
   unfold jv;split
   .rename_i hc;have hy:jr (sub s r).name=true:=by
     rcases hc with hc|hc
     .rcases hvar with h|h
      .rw [hc]at h;cases h
      .exact h
     .exact hc.1
    exact⟨vr (by rw[vsv hy];simp),λx hx=>vl hx⟩
   .rename_i hc;have hx:jr (sub s l).name=true:=by
     cases h:jr (sub s l).name with
     |true=>rfl
     |false=>exact absurd (Or.inl h) hc
    exact⟨vl (by rw[vsv hx];simp),λx hx=>vr hx⟩
  obtain⟨_,_,h4⟩:=jI h3;obtain⟨k1,_,k3⟩:=h4 _ (List.mem_singleton_self _);generalize jv (sub s l) (sub s r)=p at *;obtain⟨n,t⟩:=p;obtain⟨c1,c2,_,_⟩:=jla hv hi k1 hb.1 hb.2 h1 k3;exact⟨⟨h2,c2,hrest⟩,Or.inr c1⟩
 .rename_i hnv;split at hst
  .rename_i hnm;cases hst;have v1:jr (sub s l).name=false:=by
    cases h:jr (sub s l).name with
    |false=>rfl
    |true=>exact absurd (Or.inl h) hnv
   have v2:jr (sub s r).name=false:=by
    cases h:jr (sub s r).name with
    |false=>rfl
    |true=>exact absurd (Or.inr h) hnv
   have a1:∀u∈(sub s l).args,qb u=true/\nodes u<=31/\sub s u=u:=λu hu=>by
    have hk:=jmV xl u hu;have:=Zb hu;have:=kT hs1;exact⟨hk,by omega,jl7 u hk λx hx=>vl (by rw[vsf v1,yx];exact⟨u,hu,hx⟩)⟩
   have a2:∀u∈(sub s r).args,qb u=true/\nodes u<=31/\sub s u=u:=λu hu=>by
    have hk:=jmV xr u hu;have:=Zb hu;have:=kT hs2;exact⟨hk,by omega,jl7 u hk λx hx=>vr (by rw[vsf v2,yx];exact⟨u,hu,hx⟩)⟩
   refine⟨⟨hv,hi,λp hp=>?_⟩,Or.inl ⟨rfl,?_⟩⟩
   .rcases List.mem_append.1 hp with hp|hp
    .have hm:=List.of_mem_zip (a:=p.1) (b:=p.2) hp;exact⟨⟨Or.inl (a1 _ hm.1).1,(a1 _ hm.1).2.1⟩,⟨Or.inl (a2 _ hm.2).1,(a2 _ hm.2).2.1⟩⟩
    .exact hrest p hp
   .have:=jrr (s:=s) (sub s l).args (sub s r).args (λu hu=>(a1 u hu).2.2) (λu hu=>(a2 u hu).2.2);have e1:=jU (sub s l);have e2:=jU (sub s r);rw[jge,hmz];omega
  .cases hst
theorem jmh:∀(m1 m2:Nat)(s:ju)(es:yH),Jt s es->13-s.length<=m1->mz s es<=m2-> ∃k res,kH k s es=some res:=by
 intro m1;induction m1 with
 |zero=>
  intro m2 s es h h1;have:=(jI h.1).1;omega
 |succ m1 ih1=>
  intro m2;induction m2 with
  |zero=>
   intro s es h _ h2;cases es with
   |nil=>exact⟨0,_,rfl⟩
   |cons p es=>
    have:=Zc (sub s p.1);simp only[mz]at h2;omega
  |succ m2 ih2=>
   intro s es h h1 h2;cases es with
   |nil=>exact⟨0,_,rfl⟩
   |cons p es=>
    obtain⟨l,r⟩:=p;cases hst:yl s l r es with
    |none=>exact⟨1,none,by rw[kH,hst]⟩
    |some q=>
     obtain⟨s',es'⟩:=q;obtain⟨hinv,hor⟩:=zx h hst;have hl:=(jI h.1).1;rcases hor with⟨e,hlt⟩|e
     .obtain ⟨k,res,hk⟩:=ih2 s' es' hinv (by rw[e];exact h1) (by omega)
      exact⟨k+1,res,by rw[kH,hst];exact hk⟩
     .obtain ⟨k,res,hk⟩:=ih1 (mz s' es') s' es' hinv (by omega) (Nat.le_refl _);exact⟨k+1,res,by rw[kH,hst];exact hk⟩
theorem jsr:∀(k:Nat)(s:ju)(es:yH){u:ju},Jt s es->kH k s es=some (some u)->jB u=true/\IdS u:=by
 intro k;induction k with
 |zero=>
  intro s es u h hu;cases es with
  |nil=>simp only[kH,Option.some.injEq]at hu;rw[<-hu];exact⟨h.1,h.2.1⟩
  |cons p es=>simp[kH]at hu
 |succ k ih=>
  intro s es u h hu;cases es with
  |nil=>simp only[kH,Option.some.injEq]at hu;rw[<-hu];exact⟨h.1,h.2.1⟩
  |cons p es=>
   obtain⟨l,r⟩:=p;rw[kH]at hu;cases hst:yl s l r es with
   |none=>rw[hst]at hu;simp at hu
   |some q=>
    rw[hst]at hu;exact ih q.1 q.2 (zx h hst).1 hu
def Bx(t:T):Prop:=(t.name=[61]/\t.args.length=2/\ ∀u∈t.args,qb u=true)\/(qz t.name=true/\qb t=true)
theorem Bx.rx{t:T}(h:Bx t):Rx' t:=h.elim (λh=>Or.inr ⟨h.1,h.2.2⟩) λh=>Or.inl h.2
theorem Bx.ax{t:T}(h:Bx t):qb t=true\/(t.name=[61]/\t.args.length=2/\ ∀u∈t.args,qb u=true):=h.elim Or.inr λh=>Or.inl h.2
theorem Bx.args{t:T}(h:Bx t):∀u∈t.args,qb u=true:=h.elim (λh=>h.2.2) λh=>qi h.2
theorem jwQ{n:Xb}(h:qz n=true):jr n=false:=by
 cases hv:jr n with
 |false=>rfl
 |true=>rw[jl9 hv]at h;cases h
theorem Bx.nv{t:T}(h:Bx t):jr t.name=false:=h.elim (λh=>by rw[h.1];decide) λh=>jwQ h.1
theorem jxq{t:T}(h:t.args.length=2):t.args=[QA t,jbD t]:=by
 obtain⟨n,us⟩:=t
 match us,h with
 | [a,b],_=>rfl
theorem jap{t:T} :yE t=true↔Bx t/\jH t=true:=by
 unfold yE Bx;by_cases he:t.name=[61]
 .rw [if_pos he];unfold jfo;rw[Bool.and_eq_true,Bool.and_eq_true,Bool.and_eq_true,decide_eq_true_eq];constructor
  .rintro ⟨h1,h2,h3,h4⟩;refine⟨Or.inl ⟨he,h1,λu hu=>?_⟩,h2⟩;rw[jxq h1]at hu;simp only[List.mem_cons,List.not_mem_nil,or_false]at hu;rcases hu with rfl|rfl
   .exact h3
   .exact h4
  .rintro ⟨h|h,h2⟩
   .obtain ⟨_,_,ma,mb⟩:=K3 h.2.1;exact⟨h.2.1,h2,h.2.2 _ ma,h.2.2 _ mb⟩
   .rw [he]at h;exact absurd h.1 (by decide)
 .rw [if_neg he];unfold kV;rw[Bool.and_eq_true,Bool.and_eq_true];constructor
  .rintro ⟨h1,h2,h3⟩;exact⟨Or.inr ⟨h1,h3⟩,h2⟩
  .rintro ⟨h|h,h2⟩
   .exact absurd h.1 he
   .exact ⟨h.1,h2,h.2⟩
theorem Bx.atom{t:T}(h:Bx t):yE t=jH t:=by
 cases hs:jH t with
 |true=>exact jap.2 ⟨h,hs⟩
 |false=>
  cases ha:yE t with
  |false=>rfl
  |true=>rw[(jap.1 ha).2]at hs;cases hs
theorem Bx.tsz{t:T}(h:Bx t):tsz t<=10*nodes t:=by
 rcases h with h|h
 .rw [ze,jU,h.1,h.2.1];have:=jnl h.2.2;simp only[List.length_cons,List.length_nil];omega
 .exact jev t h.2
theorem Bx.tz{t:T}(h:Bx t)(hn:nodes t<=100000):Tz t:=by have:=h.tsz;unfold Tz;omega
theorem Bx.sub{s:ju}(hs:jB s=true){t:T}(h:Bx t):Bx (sub s t):=by
 obtain⟨_,_,hv⟩:=jI hs;have ho:∀q∈s,qb q.2=true:=λq hq=>Qe (hv q hq).2.1;have hn:=h.nv;rcases h with h|h
 .left;rw[je5 hn,jbm hn,List.length_map];refine⟨h.1,h.2.1,λu hu=>?_⟩;obtain⟨a,ha,rfl⟩:=List.mem_map.1 hu;exact jb4 ho a (h.2.2 a ha)
 .right;rw[je5 hn];exact⟨h.1,jb4 ho t h.2⟩
theorem JQ{s:ju}(hs:jB s=true):∀q∈s,nodes q.2<=30:=λq hq=>by
 have:=((jI hs).2.2 q hq).2.1;unfold kV at this;rw[Bool.and_eq_true]at this;exact kT this.1
theorem J0{s:ju}(hs:jB s=true):∀q∈s,qb q.2=true:=λq hq=>Qe ((jI hs).2.2 q hq).2.1
theorem jpe:jB []=true:=by unfold jB;simp[jiG]
mutual
theorem jgq(f:Xb->Xb):∀t:T,nodes (kN f t)<=nodes t
 |.mk n us=>by
  rw[kN];split
  .have:=Zc (.mk n us);show 1+0<=_;omega
  .have:=jeV f us;simp only[nodes];omega
theorem jeV(f:Xb->Xb):∀ts:Xg,jF (Jm f ts)<=jF ts
 | []=>Nat.le_refl _
 |t::ts=>by have:=jgq f t;have:=jeV f ts;simp only[Jm,jF];omega
end
mutual
theorem jt6(f:Xb->Xb):∀t:T,Ko (kN f t)<=Ko t
 |.mk n us=>by
  rw[kN];split
  .rw [Kc (.mk n us)];show 1+0<=_;omega
  .have:=jkb f us;simp only[Ko];omega
theorem jkb(f:Xb->Xb):∀ts:Xg,KO (Jm f ts)<=KO ts
 | []=>Nat.le_refl _
 |t::ts=>by have:=jt6 f t;have:=jkb f ts;simp only[Jm,KO];omega
end
theorem jeU{f:Xb->Xb}{t:T}(h:jr t.name=false):(kN f t).name=t.name:=by rw[jba,h,if_neg Bool.false_ne_true];rfl
theorem jka{f:Xb->Xb}{t:T}(h:jr t.name=false):(kN f t).args=t.args.map (kN f):=by rw[jba,h,if_neg Bool.false_ne_true];rfl
theorem jrZ{f:Xb->Xb}(hf:∀n,jr n=true->jr (f n)=true):∀t:T,qb t=true->qb (kN f t)=true:=by
 refine T.ind λt ih h=>?_;cases hv:jr t.name with
 |true=>rw[jba,hv,if_pos rfl];exact jrx _ (hf _ hv)
 |false=>
  have hk:=h;rw[qj,hv,if_neg Bool.false_ne_true,Bool.and_eq_true,Bool.and_eq_true,decide_eq_true_eq]at h;rw[qj,jeU hv,jka hv,hv,if_neg Bool.false_ne_true,Bool.and_eq_true,Bool.and_eq_true,decide_eq_true_eq,List.length_map,Ze,List.all_eq_true];refine⟨h.1,h.2.1,λu hu=>?_⟩;obtain⟨a,ha,rfl⟩:=List.mem_map.1 hu;exact ih a ha (qi hk a ha)
theorem Bx.ren{f:Xb->Xb}(hf:∀n,jr n=true->jr (f n)=true){t:T}(h:Bx t):Bx (kN f t):=by
 have hn:=h.nv;rcases h with h|h
 .left;rw[jeU hn,jka hn,List.length_map];refine⟨h.1,h.2.1,λu hu=>?_⟩;obtain⟨a,ha,rfl⟩:=List.mem_map.1 hu;exact jrZ hf a (h.2.2 a ha)
 .right;rw[jeU hn];exact⟨h.1,jrZ hf t h.2⟩
theorem jbG:∀d:Nat,d<10->yK (UInt8.ofNat (48+d))=true:=by decide
theorem Z8{u:Nat}(h:u<10):Lib.decDigits u=[UInt8.ofNat (48+u)]:=Lib.decDigits_one h
theorem jdP{u:Nat}(h:¬u<10):Lib.decDigits u=Lib.decDigits (u / 10)++[UInt8.ofNat (48+u % 10)]:=by rw[Lib.decDigits,dif_neg h]
theorem qf:∀(k u:Nat),u<10 ^ (k+1)->(Lib.decDigits u).all yK=true/\(Lib.decDigits u).length<=k+1
 |0,u,h=>by rw[Z8 (by omega)];exact⟨by rw[List.all_cons,jbG u (by omega),List.all_nil];rfl,by simp⟩
 |k+1,u,h=>by
  by_cases hu:u<10
  .rw [Z8 hu];exact⟨by rw[List.all_cons,jbG u hu,List.all_nil];rfl,by simp⟩
  .obtain ⟨h1,h2⟩:=qf k (u / 10) (by rw[Nat.pow_succ]at h;omega)
   rw[jdP hu,List.all_append,h1,List.length_append];exact⟨by rw[List.all_cons,jbG (u % 10) (by omega),List.all_nil];rfl,by simp only[List.length_cons,List.length_nil];omega⟩
theorem jrw{p:UInt8}(hp:upc p=true){i:Nat}(hi:i<1000):jr (Yn p i)=true:=by
 obtain⟨h1,h2⟩:=qf 2 i (by omega);show(upc p && ((Lib.decDigits i).all yK && decide ((Lib.decDigits i).length<=3)))=true;rw[hp,h1,decide_eq_true (by omega)];rfl
theorem juv{l:Xa}{n x:Xb} :x∈vnA l n↔x∈l\/x=n:=by
 unfold vnA;split
 .rename_i h;rw[List.contains_iff_mem]at h;exact⟨Or.inl,λh'=>h'.elim id λe=>e ▸ h⟩
 .simp
theorem jpf{l:Xa}{n:Xb}(h:l.Nodup):(vnA l n).Nodup:=by
 unfold vnA;split
 .exact h
 .rename_i hc;rw[List.contains_iff_mem]at hc;refine List.nodup_append.2 ⟨h,by simp,λa ha b hb=>?_⟩;simp only[List.mem_singleton]at hb;rintro rfl;exact hc (hb ▸ ha)
mutual
theorem jjL:∀(t:T)(l:Xa)(x:Xb),x∈qv l t↔x∈l\/x∈ke t
 |.mk n us,l,x=>by
  rw[qv,ke];split
  .rw [juv];simp
  .exact jjK us l x
theorem jjK:∀(ts:Xg)(l:Xa)(x:Xb),x∈Yo l ts↔x∈l\/x∈z7 ts
 | [],l,x=>by simp[Yo,z7]
 |t::ts,l,x=>by rw[Yo,z7,jjK ts,jjL t,List.mem_append,or_assoc]
end
mutual
theorem jex:∀(t:T){l:Xa},l.Nodup->(qv l t).Nodup
 |.mk n us,l,h=>by
  rw[qv];split
  .exact jpf h
  .exact jew us h
theorem jew:∀(ts:Xg){l:Xa},l.Nodup->(Yo l ts).Nodup
 | [],l,h=>h
 |t::ts,l,h=>by rw[Yo];exact jew ts (jex t h)
end
theorem jer:∀(c:kg)(l:Xa)(x:Xb),x∈c.foldl (λl x=>qv l x.2) l↔x∈l\/ ∃y∈c,x∈ke y.2
 | [],l,x=>by simp
 |y::c,l,x=>by rw[List.foldl_cons,jer c,jjL,or_assoc];simp
theorem jlz{c:kg}{x:Xb} :x∈kh c↔ ∃y∈c,x∈ke y.2:=by unfold kh;rw[jer];simp
theorem jaQ(c:kg):(kh c).Nodup:=by
 have:∀(c:kg)(l:Xa),l.Nodup->(c.foldl (λl x=>qv l x.2) l).Nodup:=by
  intro c;induction c with
  |nil=>intro l h;exact h
  |cons y c ih=>intro l h;exact ih _ (jex y.2 h)
 exact this c [] List.nodup_nil
theorem jlA{c:kg}{x:Xb}(h:x∈kh c):jr x=true:=by
 obtain⟨y,_,hx⟩:=jlz.1 h;exact jsv y.2 hx
def CN(c:kg):Prop:=c.length<=8/\ ∀l∈c,Bx l.2/\nodes l.2<=30
theorem qL{c:kg}(h:CN c):(kh c).length<=240:=by
 have:∀(c:kg)(l:Xa),(∀y∈c,nodes y.2<=30)->(c.foldl (λl x=>qv l x.2) l).length<=l.length+30*c.length:=by
  intro c;induction c with
  |nil=>intro l _;simp
  |cons y c ih=>
   intro l h;have h1:=Y0 y.2 l;have h2:=h y (by simp);have h3:=ih (qv l y.2) λz hz=>h z (by simp[hz]);rw[List.foldl_cons,List.length_cons];omega
 have h2:=this c [] λy hy=>(h.2 y hy).2;have h3:=h.1;rw[List.length_nil]at h2;unfold kh;omega
theorem jnO{p:UInt8}(hp:upc p=true){l:Xa}(hl:l.length<=1000){n:Xb}(hn:jr n=true):jr (kG p l n)=true:=by
 unfold kG;split
 .rename_i i h;have:=(List.findIdx?_eq_some_iff_getElem.1 h).1;exact jrw hp (by omega)
 .exact hn
theorem ji7{α:Type}(c:α->α->Int)(l:List α)(x:α):(ZX c l x).length<=l.length+1:=by
 unfold ZX;split
 .omega
 .have:=congrArg List.length (List.takeWhile_append_dropWhile (p:=λa=>decide (c a x<0)) (l:=l));rw[List.length_append]at this;rw[List.length_append,List.length_cons];omega
theorem jbL{α:Type}(c:α->α->Int)(l:List α):(zi c l).length<=l.length:=by
 have:∀(l m:List α),(l.foldl (ZX c) m).length<=m.length+l.length:=by
  intro l;induction l with
  |nil=>intro m;simp
  |cons x l ih=>
   intro m;have h1:=ji7 c m x;have h2:=ih (ZX c m x);rw[List.foldl_cons,List.length_cons];omega
 have:=this l [];simpa[zi]using this
theorem jbM{l:kg}{x:Lt} :x∈zi cmpL l↔x∈l:=(YY qe l).2 x
theorem jrj{l:kg}(h:Asc cmpL l):zi cmpL l=l:=by
 obtain⟨h1,h2⟩:=YY qe l;exact jht qe h1 h h2
theorem CN.make{l:kg}(hl:l.length<=8)(h:∀x∈l,Bx x.2/\nodes x.2<=30):CN (zi cmpL l):=⟨by have:=jbL cmpL l;omega,λx hx=>h x (jbM.1 hx)⟩
theorem CN.ren{p:UInt8}(hp:upc p=true){c:kg}(h:CN c):∀x∈c.map (λl=>(l.1,kN (kG p (kh c)) l.2)),Bx x.2/\nodes x.2<=30:=by
 intro x hx;obtain⟨l,hl,rfl⟩:=List.mem_map.1 hx;have hn:=qL h;have:=jgq (kG p (kh c)) l.2;have:=(h.2 l hl).2;exact⟨(h.2 l hl).1.ren λn hn=>jnO hp (by omega) hn,by show nodes (kN (kG p (kh c)) l.2)<=30;omega⟩
theorem CN.renC{p:UInt8}(hp:upc p=true){c:kg}(h:CN c):CN (renC p c):=CN.make (by rw[List.length_map];exact h.1) (h.ren hp)
theorem CN.normF:∀(k:Nat){c:kg},CN c->CN (normF k c)
 |0,c,h=>h
 |k+1,c,h=>by
  rw[Go.Proofs.YtkkcepmpbackoaaGreatDoor.normF];split
  .exact h
  .exact CN.normF k (CN.renC (by decide) h)
theorem CN.normC{c:kg}(h:CN c):CN (normC c):=CN.normF 10 h
theorem qp{c:kg}(h:zN c=true):CN c/\Asc cmpL c/\(∀l∈c,yE l.2=true):=by
 unfold zN at h;rw[Bool.and_eq_true,Bool.and_eq_true,List.all_eq_true,decide_eq_true_eq,jiF]at h;exact⟨⟨h.2.2,λl hl=>⟨(jap.1 (h.1 l hl)).1,kT (jap.1 (h.1 l hl)).2⟩⟩,h.2.1,h.1⟩
theorem CN.tz{c:kg}(h:CN c):∀l∈c,Tz l.2:=λl hl=>(h.2 l hl).1.tz (by have:=(h.2 l hl).2;omega)
theorem CN.rx{c:kg}(h:CN c):∀l∈c,Rx' l.2:=λl hl=>(h.2 l hl).1.rx
theorem Rx'.va{t:T}(h:Rx' t)(hv:jr t.name=true):t.args=[]:=h.elim (λh=>jbp h hv) λh=>by rw[h.1]at hv;exact absurd hv (by decide)
def jzp(d:kg):kg:=d.map λl=>(l.1,kN (kG 89 (kh d)) l.2)
def zD(c:kg):Bool:=zN c && qY c
theorem Qv{c:kg}(h:zD c=true):CN c/\Asc cmpL c/\zN c=true/\qY c=true:=by
 unfold zD at h;rw[Bool.and_eq_true]at h;exact⟨(qp h.1).1,(qp h.1).2.1,h.1,h.2⟩
open Classical in
noncomputable def jca(a b:T):Option ju:=if h:∃r k,kH k [] [(a,b)]=some r then h.choose else none
theorem jnG{a b:T}(ha:Exx a)(hb:Exx b):Jt [] [(a,b)]:=⟨jpe,(λ_ h=>(List.not_mem_nil h).elim:IdS []),λp hp=>by rw[List.mem_singleton.1 hp];exact⟨ha,hb⟩⟩
theorem YH{a b:T}(ha:Exx a)(hb:Exx b):∃k,kH k [] [(a,b)]=some (jca a b):=by
 obtain⟨k,r,h⟩:=jmh 13 _ [] [(a,b)] (jnG ha hb) (by simp) (Nat.le_refl _);have hex:∃r k,kH k [] [(a,b)]=some r:=⟨r,k,h⟩;unfold jca;rw[dif_pos hex];exact hex.choose_spec
theorem jik{a b:T}(ha:Exx a)(hb:Exx b){u:ju}(h:jca a b=some u):jB u=true:=by
 obtain⟨k,hk⟩:=YH ha hb;rw[h]at hk;exact(jsr k _ _ (jnG ha hb) hk).1
noncomputable def KM(s:ju)(l:kg):Option kg:=if(l.all λx=>jH (sub s x.2)) && zN (zi cmpL (l.map λx=>(x.1,sub s x.2)))then some (zi cmpL (l.map λx=>(x.1,sub s x.2)))else none
noncomputable def jfx(s:ju)(l:kg):Option kg:=(KM s l).bind λc=>if zD (normC c)then some (normC c)else none
abbrev cz:A:= .agg [.sl 3 []]
def jbO(o:Option kg):Xe:=match o with|some c=>some (.tup [cm c,vb true],[])|none=>some (.tup [cz,vb false],[])
theorem jkd{s:ju}{l:kg}{c:kg}(h:jfx s l=some c):zD c=true:=by
 unfold jfx at h;rw[Option.bind_eq_some_iff]at h;obtain⟨d,_,h⟩:=h;split at h
 .rename_i hn;cases h;exact hn
 .cases h
theorem jan{s:ju}{l:kg}{c:kg}(h:KM s l=some c):zN c=true/\Asc cmpL c:=by
 unfold KM at h;split at h
 .rename_i hn;cases h;rw[Bool.and_eq_true]at hn;exact⟨hn.2,(YY qe _).1⟩
 .cases h
def atI:Xi->T->Option T
 | [],t=>some t
 |i::p,t=>if 0<=i/\i<(t.args.length:Int)then atI p (t.args.getD i.toNat (.mk [] []))else none
def EXB(t:T):Prop:=EX false t/\Bx t
open Go Go.RowKit Go.Proofs.YtkkcepmpbackoaaGreatDoor.Abs Go.Sort
section
variable{α:Type}{c:α->α->Int}
theorem jjV{β γ:Type}(f:β->β->γ)(ys:List β):∀(xs:List β)(i j:Nat)(x y:β),xs[i]? = some x->ys[j]? = some y->(xs.flatMap λx=>ys.map λy=>f x y)[i*ys.length+j]? = some (f x y)
 | [],i,j,x,y,h,_=>by simp at h
 |a::xs,i,j,x,y,h,hy=>by
  have hj:=(List.getElem?_eq_some_iff.1 hy).1;rw[List.flatMap_cons];cases i with
  |zero=>simp at h;subst h;rw[Nat.zero_mul,Nat.zero_add,List.getElem?_append_left (by simpa using hj),List.getElem?_map,hy];rfl
  |succ i=>
   rw[List.getElem?_append_right (by simp[Nat.add_mul];omega)]
   have:(i+1)*ys.length+j-(ys.map λy=>f a y).length=i*ys.length+j:=by simp[Nat.add_mul];omega
   rw[this];exact jjV f ys xs i j x y (by simpa using h) hy
theorem extract_all{β:Type}(e:Array β){n:Nat}(h:e.size=n):e.extract 0 n=e:=by subst h;simp
theorem Law3.swo(h:Law3 c){β:Type}(g:β->α){lt:β->β->Bool}(hl:∀i j,lt i j=decide (c (g i) (g j)<0)):SWO lt:=by
 refine⟨λx=>?_,λx y z h1 h2=>?_,λx y z h1 h2=>?_⟩
 .rw [hl,(h.zero _ _).2 rfl];rfl
 .rw [hl,decide_eq_true_eq]at *;exact h.trans _ _ _ h1 h2
 .rw [hl,decide_eq_false_iff_not]at *;intro h3;have f1:=h.flip (g x) (g y);have f2:=h.flip (g y) (g z);by_cases e1:c (g x) (g y)=0
  .rw [(h.zero _ _).1 e1]at h3;exact h2 h3
  by_cases e2:c (g y) (g z)=0
  .rw [<-(h.zero _ _).1 e2]at h3;exact h1 h3
  have:=h.trans (g z) (g y) (g x) (by omega) (by omega);have f3:=h.flip (g x) (g z);omega
theorem jbf{γ:Type}{c:γ->γ->Int}(hc:Law3 c)(f:α->γ)(enc:α->Xd)(k:Nat)(l:List α)(hl:l.length<4611686018427387904):∃s:List α,s.Perm l/\s.Pairwise (λa b=>¬c (f b) (f a)<0)/\ZS k (l.map enc) (l.flatMap λx=>l.map λy=>c (f x) (f y))=some (.top,[.sl k (s.map enc)]):=by
 cases l with
 |nil=>exact⟨[],List.Perm.refl _,List.Pairwise.nil,rfl⟩
 |cons a l'=>
  generalize hcs:((a::l').flatMap λx=>(a::l').map λy=>c (f x) (f y))=cs;rw[List.map_cons];have hN:(l'.map enc).length+1=(a::l').length:=by simp
  let g:Fin ((l'.map enc).length+1)->α:=λi=>(a::l')[i.val]'(by rw[<-hN];exact i.isLt)
  have hg:∀i:Fin ((l'.map enc).length+1),(a::l')[i.val]? = some (g i):=λi=>List.getElem?_eq_getElem _;have hT:∀i j,ltO (Z5 ((l'.map enc).length+1) cs) i j=decide (c (f (g i)) (f (g j))<0):=λi j=>by
   have:=jjV (λx y=>c (f x) (f y)) (a::l') (a::l') i.val j.val _ _ (hg i) (hg j);rw[hcs,<-hN]at this;unfold ltO Z5;rw[List.getD_eq_getElem?_getD,this];rfl
  have hS:=hc.swo (λi=>f (g i)) hT;have hsz:(l'.map enc).length+1<4611686018427387904:=by rw[hN];exact hl
  generalize hd:(Array.ofFn (n:=(l'.map enc).length+1) id)=d;have hds:d.size=(l'.map enc).length+1:=by rw[<-hd];simp
  obtain⟨hp,hs⟩:=pdq_sorts (ltO (Z5 ((l'.map enc).length+1) cs)) hS d 0 ((l'.map enc).length+1) (Lib.bitLen ((l'.map enc).length+1)) true true (Nat.zero_le _) (by omega) (Or.inl rfl);have hrow:ZS k (enc a::l'.map enc) cs=some (.top,[.sl k ((pdq (ltO (Z5 ((l'.map enc).length+1) cs)) d 0 ((l'.map enc).length+1) (Lib.bitLen ((l'.map enc).length+1)) true true).toList.map λi=>(enc a::l'.map enc).getD i.val [])]):=by
   unfold ZS;simp only;rw[if_pos ⟨hS,hsz⟩,hd]
  rw[hrow];generalize pdq (ltO (Z5 ((l'.map enc).length+1) cs)) d 0 ((l'.map enc).length+1) (Lib.bitLen ((l'.map enc).length+1)) true true=D at *;obtain⟨p1,_,p3⟩:=hp;rw[extract_all D (by omega),extract_all d hds]at p3;refine⟨D.toList.map g,?_,?_,?_⟩
  .have h1:(D.toList.map g).Perm (d.toList.map g):=p3.map g;have h2:d.toList.map g=a::l':=by
    refine List.ext_getElem? λi=>?_;rw[<-hd];by_cases hi:i<(l'.map enc).length+1
    .rw [List.getElem?_map,Array.getElem?_toList,Array.getElem?_eq_getElem (by simpa using hi)];simp only[Array.getElem_ofFn,Option.map_some,id];exact(hg ⟨i,hi⟩).symm
    .rw [List.getElem?_eq_none (by simp at hi⊢;omega),List.getElem?_eq_none (by simp at hi⊢;omega)]
   rw[h2]at h1;exact h1
  .rw [List.pairwise_map];rw[List.pairwise_iff_getElem];intro i j hi hj hij;have hD:D.size=(l'.map enc).length+1:=by omega
   rw[Array.length_toList]at hi hj;have:=hs i j (Nat.zero_le _) hij (by omega);rw[getElem!_pos D i hi,getElem!_pos D j hj,hT,decide_eq_false_iff_not]at this;simpa using this
  .congr 3;rw[List.map_map];refine congrArg (A.sl k) (List.map_congr_left λi _=>?_);rw[<-List.map_cons,List.getD_eq_getElem?_getD,List.getElem?_map,hg i];rfl
end
theorem QB{β:Type}(f:β->FuncId×Xd)(r:β->Int):∀qs:List β,(∀b∈qs,K.pureF (f b).1=true/\G (f b).1 (f b).2=some (vi (r b),[]))->askAll K (MM K) (qs.map f)=some (qs.map λb=>(vi (r b),[]))
 | [],_=>rfl
 |b::qs,h=>by
  have ih:=QB f r qs λb' hb=>h b' (by simp[hb]);obtain⟨h1,h2⟩:=h b (by simp);rw[List.map_cons,List.map_cons];show(if K.pureF (f b).1 then(MM K (.call (f b).1 (f b).2)).bind λo=>(askAll K (MM K) (qs.map f)).bind λos=>some (o::os)else none)=_;have h2:MM K (.call (f b).1 (f b).2)=some (vi (r b),[]):=h2;rw[h1,if_pos rfl,h2,ih];rfl
theorem jbR{β:Type}(r:β->Int):∀qs:List β,Qw (qs.map λb=>(vi (r b),[]))=some (qs.map r)
 | []=>rfl
 |b::qs=>by
  rw[List.map_cons,List.map_cons,Qw,jbR r qs];rfl
theorem jqk{α γ:Type}{c:γ->γ->Int}(hc:Law3 c)(f:α->γ)(enc:α->Xd)(k:Nat)(g:FuncId)(hp:K.pureF g=true)(l:List α)(hl:l.length<4611686018427387904)(h:∀x∈l,∀y∈l,G g [.agg (enc x),.agg (enc y)]=some (vi (c (f x) (f y)),[])):∃s:List α,s.Perm l/\s.Pairwise (λa b=>¬c (f b) (f a)<0)/\extRun K (MM K) (sfE k) [V.row 0,V.fn g []] [.row k (l.map enc)]=some (.top,[.sl k (s.map enc)]):=by
 obtain⟨s,h1,h2,h3⟩:=jbf hc f enc k l hl;refine⟨s,h1,h2,?_⟩;have hq:jgA [V.row 0,V.fn g []] [.row k (l.map enc)]=some ((l.flatMap λx=>l.map λy=>(x,y)).map λq=>(g,[A.agg (enc q.1),A.agg (enc q.2)])):=by
  show some ((l.map enc).flatMap λx=>(l.map enc).map λy=>(g,[A.agg x,A.agg y]++[]))=_;congr 1;rw[List.flatMap_map,List.map_flatMap];refine congrArg (λh=>l.flatMap h) (funext λx=>?_);rw[List.map_map,List.map_map];rfl
 have ha:=QB (λq:α×α=>(g,[A.agg (enc q.1),A.agg (enc q.2)])) (λq=>c (f q.1) (f q.2)) (l.flatMap λx=>l.map λy=>(x,y)) λq hq=>by
  obtain⟨x,hx,hq⟩:=List.mem_flatMap.1 hq;obtain⟨y,hy,rfl⟩:=List.mem_map.1 hq;exact⟨hp,h x hx y hy⟩
 have hc':((l.flatMap λx=>l.map λy=>(x,y)).map λq=>c (f q.1) (f q.2))=l.flatMap λx=>l.map λy=>c (f x) (f y):=by
  rw[List.map_flatMap];refine congrArg (λh=>l.flatMap h) (funext λx=>?_);rw[List.map_map];rfl
 have ho:=jbR (λq:α×α=>c (f q.1) (f q.2)) (l.flatMap λx=>l.map λy=>(x,y));rw[hc']at ho;show(jgA [V.row 0,V.fn g []] [.row k (l.map enc)]).bind _=_;rw[hq,Option.bind_some,ha,Option.bind_some];show(if Nat.beq k k then(Qw _).bind λcs=>ZS k (l.map enc) cs else none)=_;rw[Nat.beq_refl,if_pos rfl,ho];exact h3
theorem jvv:∀d:Nat,d<10->ZD (sv [48,49,50,51,52,53,54,55,56,57]) (some (vi (d:Nat))) (some (vi ((d+1:Nat):Int)))=some (sv [UInt8.ofNat (48+d)])
 |0,_=>rfl|1,_=>rfl|2,_=>rfl|3,_=>rfl|4,_=>rfl|5,_=>rfl|6,_=>rfl|7,_=>rfl|8,_=>rfl|9,_=>rfl
theorem jjo:∀n:Nat,n<=1000000->G 89 [vi (n:Nat)]=some (sv (Lib.decDigits n),[]):=by
 intro n;induction n using Nat.strongRecOn with
 |ind n ih=>
  intro hn;have h0:¬((n:Nat):Int)<0:=by omega
  rw[g89];by_cases h:n<10
  .have h1:((n:Nat):Int)<10:=by omega
   have h2:ck ((n:Int)+1)=some (vi ((n+1:Nat):Int)):=jZ (by omega) (by omega);have h3:=jvv n h;rw[Z8 h];simp only[jg,h0,h1,h2,h3]
  .have h1:¬((n:Nat):Int)<10:=by omega
   have hq:jq .quo false (vi (n:Nat)) (vi 10)=some (vi ((n / 10:Nat):Int)):=by
    show ck (((n:Nat):Int).tdiv 10)=_;rw[Int.tdiv_eq_ediv_of_nonneg (by omega)];exact jZ (by omega) (by omega)
   have hr:jq .rem false (vi (n:Nat)) (vi 10)=some (vi ((n % 10:Nat):Int)):=by
    show some (vi (((n:Nat):Int).tmod 10))=_;rw[Int.tmod_eq_emod_of_nonneg (by omega)];rfl
   have h2:ck (((n % 10:Nat):Int)+1)=some (vi ((n % 10+1:Nat):Int)):=jZ (by omega) (by omega);have h3:=jvv (n % 10) (by omega);have h4:=ih (n / 10) (by omega) (by omega);have hl:(Lib.decDigits (n / 10)).length + [UInt8.ofNat (48+n % 10)].length<=9223372036854775807:=by
    have:=(qf 6 (n / 10) (by omega)).2;simp only[List.length_cons,List.length_nil];omega
   have h5:=Zg false (Lib.decDigits (n / 10)) [UInt8.ofNat (48+n % 10)];rw[if_pos hl]at h5;rw[jdP h];simp only[jg,h0,h1,hq,hr,h2,h3,h4,h5]
theorem jm6(n:Nat)(hn:n<=1000000):G 98 [vi (n:Nat)]=some (sv (Lib.decDigits n),[]):=by
 have:K.ext 98=some jm5:=rfl;rw[jxb this];show(if -9223372036854775808<=((n:Nat):Int)/\((n:Nat):Int)<=9223372036854775807 then some (sv (Lib.itoa (n:Nat)),[])else none)=_;rw[if_pos (by omega)];unfold Lib.itoa;rw[if_neg (by omega),Int.toNat_natCast]
def Ym:Nat->Xa->Bool
 |_,[]=>true
 |i,n::r=>decide (n=Yn 88 i) && Ym (i+1) r
theorem jjG:∀(l:Xa)(i:Nat),Ym i l=decide (l=(List.range' i l.length).map (Yn 88))
 | [],i=>by simp[Ym]
 |n::r,i=>by
  rw[Ym,jjG r,List.length_cons,List.range'_succ,List.map_cons,<-Bool.decide_and];simp only[List.cons.injEq]
theorem jd6(c:kg):qY c=Ym 0 (kh c):=by
 rw[jjG,<-List.range_eq_range'];rfl
theorem jyg(i:Nat)(h:i<=1000000):jq .add false (sv [88]) (sv (Lib.decDigits i))=some (sv (Yn 88 i)):=by
 rw[Zg,if_pos]
 .rfl
 .have:=(qf 6 i (by omega)).2;simp only[List.length_cons,List.length_nil];omega
theorem Ju(c:kg)(h:CN c):G 54 [cm c]=some (vb (qY c),[]):=by
 have hlen:=qL h;have e0:=jlB c (by have:=h.1;omega) h.rx h.tz λl hl=>by have:=(h.2 l hl).2;omega
 rw[jd6,g54];generalize kh c=ns at *;have key:=upto (P:=λi=>jmv (strs ns) (vi (ns.length:Nat)) (vi (i:Nat))=some (vb (Ym i (ns.drop i)),[])) (n:=ns.length) ?_ ?_ 0 (Nat.zero_le _)
 .simp only[Int.natCast_zero,List.drop_zero]at key;simp only[jg,e0,key]
 .rw [ju5,List.drop_length];simp only[jg,Ym]
 .intro i hi ih;have hlt:(i:Int)<((ns.length:Nat):Int):=by omega
  have h5:=jy hi (by show ns.length<=9223372036854775807;omega)
  have e1:=jm6 i (by omega);have e2:=jyg i (by omega);have ld:kU (.elt (cs ns[i]) 0)=some (sv ns[i]):=rfl;rw[ju5,js hi,Ym];by_cases hc:ns[i]=Yn 88 i
  .rw [decide_eq_true hc,Bool.true_and,<-ih];simp only[jg,hlt,jb hi,e1,e2,hc,h5]
  .rw [decide_eq_false hc,Bool.false_and];simp only[jg,hlt,jb hi,ld,e1,e2,hc]
theorem KS(c:kg)(h:CN c):G 46 [cm c]=some (vb (qY c),[]):=by
 have hlen:=qL h;have e0:=jeg c (by have:=h.1;omega) h.tz λl hl=>by have:=(h.2 l hl).2;omega
 rw[jd6,g46];generalize kh c=ns at *;have key:=upto (P:=λi=>jmr (strs ns) (vi (i:Nat))=some (vb (Ym i (ns.drop i)),[])) (n:=ns.length) ?_ ?_ 0 (Nat.zero_le _)
 .simp only[Int.natCast_zero,List.drop_zero]at key;simp only[jg,e0,key]
 .rw [ju0,List.drop_length];simp only[jg,Ym]
 .intro i hi ih;have hlt:(i:Int)<((ns.length:Nat):Int):=by omega
  have h5:=jy hi (by show ns.length<=9223372036854775807;omega)
  have e1:=jjo i (by omega);have e2:=jyg i (by omega);have ld:kU (.elt (cs ns[i]) 0)=some (sv ns[i]):=rfl;rw[ju0,js hi,Ym];by_cases hc:ns[i]=Yn 88 i
  .rw [decide_eq_true hc,Bool.true_and,<-ih];simp only[jg,hlt,jb hi,e1,e2,hc,h5]
  .rw [decide_eq_false hc,Bool.false_and];simp only[jg,hlt,jb hi,ld,e1,e2,hc]
theorem jcu(c:kg)(hl:c.length<=1048576)(hz:∀l∈c,Tz l.2):G 28 [cm c]=some (vb (zD c),[]):=by
 have e1:=K6 c hl hz;unfold zD;rw[g28];cases hv:zN c<;>rw[hv]at e1
 .simp only[jg,e1,Bool.false_and]
 .have e2:=Ju c (qp hv).1;simp only[jg,e1,e2,Bool.true_and]
theorem jjn(c:kg)(hl:c.length<=1048576)(hz:∀l∈c,Tz l.2):G 25 [cm c]=some (vb (zD c),[]):=by
 have e1:=YW c hl hz;unfold zD;rw[g25];cases hv:zN c<;>rw[hv]at e1
 .simp only[jg,e1,Bool.false_and]
 .have e2:=KS c (qp hv).1;simp only[jg,e1,e2,Bool.true_and]
abbrev Nm':=List (Xb×Xb)
abbrev kn(p:Xb×Xb):Xd:=[sv p.1,sv p.2]
def zo:Nm'->Xb->Option Xb
 | [],_=>none
 |p::m,n=>if p.1=n then some p.2 else zo m n
theorem jlv(n:Xb):∀(m:Nm')(k:Nat),∃j,Kz none (sv n) (m.map kn) k=some ((zo m n).map λr=>(j,sv r))
 | [],k=>⟨0,rfl⟩
 |p::m,k=>by
  rw[List.map_cons,zo,Kz,jwb];by_cases h:p.1=n
  .rw [if_pos h,decide_eq_true h.symm];exact⟨k,rfl⟩
  .rw [if_neg h,decide_eq_false (λe=>h e.symm)];exact jlv n m (k+1)
theorem jwB(m:Nm')(n:Xb):jez none true true [sv []] (.mp (m.map kn)) (sv n)=some (match zo m n with|some r=>.tup [sv r,vb true]|none=>.tup [sv [],vb false]):=by
 show((some (m.map kn)).bind λxs=>(Kz none (sv n) xs 0).map (jrh true true [sv []]))=_;obtain⟨j,h⟩:=jlv n m 0;rw[Option.bind_some,h];cases zo m n<;>rfl
theorem jyn{m:Nm'}{n:Xb}(h:zo m n=none)(r:Xb):jrN none (m.map kn) (sv n) (sv r)=some ((m++[(n,r)]).map kn):=by
 obtain⟨j,h2⟩:=jlv n m 0;show(Kz none (sv n) (m.map kn) 0).map _=_;rw[h2,h,List.map_append];rfl
theorem jgc:∀(m:Nm')(p:Xb×Xb)(n:Xb),zo (m++[p]) n=(match zo m n with|some r=>some r|none=>if p.1=n then some p.2 else none)
 | [],p,n=>rfl
 |q::m,p,n=>by
  rw[List.cons_append,zo,zo,jgc m p n];by_cases h:q.1=n
  .rw [if_pos h,if_pos h]
  .rw [if_neg h,if_neg h]
def KB(p:UInt8):Nat->Xa->Nm'
 |_,[]=>[]
 |i,n::r=>(n,Yn p i)::KB p (i+1) r
theorem jem(p:UInt8)(n:Xb):∀(ns:Xa)(k:Nat),zo (KB p k ns) n=(ns.findIdx? λx=>decide (x=n)).map λi=>Yn p (k+i)
 | [],k=>rfl
 |x::ns,k=>by
  rw[KB,zo,List.findIdx?_cons];by_cases h:x=n
  .rw [if_pos h,if_pos (decide_eq_true h)];rfl
  .rw [if_neg h,if_neg (by simp[h]),jem p n ns (k+1),Option.map_map];refine congrArg (λf=>Option.map f _) (funext λi=>?_);show Yn p (k+1+i)=Yn p (k+(i+1));rw[show k+1+i=k+(i+1) by omega]
theorem jk1(p:UInt8)(ns:Xa):(λn=>(zo (KB p 0 ns) n).getD n)=kG p ns:=by
 funext n;rw[jem];unfold kG;cases ns.findIdx? (λx=>decide (x=n))with
 |none=>rfl
 |some i=>show Yn p (0+i)=_;rw[Nat.zero_add]
theorem jjU{p:UInt8} :∀{ns:Xa}{k:Nat},(∀n∈ns,jr n=true)-> ∀q∈KB p k ns,jr q.1=true
 | [],k,_,q,h=>by cases h
 |x::ns,k,hv,q,h=>by
  rw[KB]at h;rcases List.mem_cons.1 h with e|e
  .rw [e];exact hv x (by simp)
  .exact jjU (λn hn=>hv n (by simp[hn])) q e
theorem jyf(p:UInt8)(i:Nat)(h:i<=1000000):jq .add false (sv [p]) (sv (Lib.decDigits i))=some (sv (Yn p i)):=by
 rw[Zg,if_pos]
 .rfl
 .have:=(qf 6 i (by omega)).2;simp only[List.length_cons,List.length_nil];omega
theorem jcN(p:UInt8)(ns:Xa)(hn:ns.Nodup)(hl:ns.length<=1000):G 118 [strs ns,sv [p]]=some (.mp ((KB p 0 ns).map kn),[]):=by
 have key:=upto (P:=λi=>∀m:Nm',(∀n∈ns.drop i,zo m n=none)->jg2 (sv [p]) (strs ns) (vi (ns.length:Nat)) (vi (i:Nat)) (m.map kn)=some (.mp ((m++KB p i (ns.drop i)).map kn),[])) (n:=ns.length) ?_ ?_ 0 (Nat.zero_le _) [] (λn _=>rfl)
 .rw [List.drop_zero]at key;simp only[Int.natCast_zero,List.map_nil,List.nil_append]at key;rw[jzE];simp only[jg,key]
 .intro m _;rw[jqH,List.drop_length,KB,List.append_nil];simp only[jg]
 .intro i hi ih m hm;have hlt:(i:Int)<((ns.length:Nat):Int):=by omega
  have h5:=jy hi (by show ns.length<=9223372036854775807;omega)
  have e1:=jm6 i (by omega);have e2:=jyf p i (by omega);have ld:kU (.elt (cs ns[i]) 0)=some (sv ns[i]):=rfl;have hd:(ns.drop i).Nodup:=hn.sublist (List.drop_sublist i ns);rw[js hi]at hm hd⊢;have pt:=jyn (hm ns[i] (List.mem_cons_self ..)) (Yn p i);have ih:=ih (m++[(ns[i],Yn p i)]) λn hn'=>by
   rw[jgc,hm n (List.mem_cons_of_mem _ hn')];show(if ns[i]=n then _ else none)=none;rw[if_neg];rintro e;exact(List.nodup_cons.1 hd).1 (e ▸ hn')
  rw[List.append_assoc]at ih;rw[jqH,KB];simp only[jg,hlt,jb hi,ld,e1,e2,pt,h5,ih];rfl
theorem jod{m:Nm'}(hm:∀p∈m,jr p.1=true){n:Xb}(h:jr n=false):zo m n=none:=by
 induction m with
 |nil=>rfl
 |cons p m ih=>
  rw[zo,if_neg,ih λq hq=>hm q (by simp[hq])];intro e;rw[<-e,hm p (by simp)]at h;cases h
theorem jlS(m:Nm')(hm:∀p∈m,jr p.1=true):∀t:T,Rx' t->Tz t->G 165 [tm t,.mp (m.map kn)]=some (tm (kN (λn=>(zo m n).getD n) t),[]):=by
 refine T.ind λt ih hk ht=>?_;have hz:=ht;unfold Tz at hz;rw[ze]at hz;have e0:=jwB m t.name;rw[jz7,jba];cases hv:jr t.name with
 |true=>
  have ha:=hk.va hv;rw[if_pos rfl];obtain⟨n,us⟩:=t;have ha:us=[]:=ha;subst ha;have lp:∀x:Xb,jbw (.mp (m.map kn)) (.sl 2 []) (vi 0) (vi 0) (sv []) (sv x) [] []=some (.agg [sv x,.sl 2 []],[]):=λx=>by
   rw[jlp];simp only[jg]
  have e0:jez none true true [sv []] (.mp (m.map kn)) (sv n)=some (match zo m n with|some r=>.tup [sv r,vb true]|none=>.tup [sv [],vb false]):=e0;show Option.bind (QU 2 (.agg [sv n,.sl 2 []])) _=some (A.agg [sv ((zo m n).getD n),.sl 2 []],[]);cases hl:zo m n with
  |none=>
   rw[hl]at e0;have lp:=lp n;simp only[jg,e0,lp,Option.getD_none,Int.natCast_zero]
  |some r=>
   rw[hl]at e0;have lp:=lp r;simp only[jg,e0,lp,Option.getD_some,Int.natCast_zero]
 |false=>
  rw[jod hm hv]at e0;rw[if_neg Bool.false_ne_true];have key:=(upto (P:=λi=>jbw (.mp (m.map kn)) (jS t.args) (vi (t.args.length:Nat)) (vi i) (sv []) (sv t.name) [] (((t.args.map (kN λn=>(zo m n).getD n)).take i).map jm)=some (tm (.mk t.name (t.args.map (kN λn=>(zo m n).getD n))),[])) (n:=t.args.length) ?_ ?_ 0 (Nat.zero_le _))
  .simp only[Int.natCast_zero,List.take_zero,List.map_nil]at key;simp only[jg,e0,key]
  .rw [jlp,List.take_of_length_le (by rw[List.length_map];omega)]
   simp only[jg];rfl
  .intro i hi ih';have hlt:(i:Int)<((t.args.length:Nat):Int):=by omega
   have h5:=jy hi (by show t.args.length<=9223372036854775807;omega)
   have e2:=ih t.args[i] (List.getElem_mem _) (hk.args _ (List.getElem_mem _)) (ht.args _ (List.getElem_mem _));have hf:jO (i+1) 40=true:=jtW (by omega);have hi2:i<(t.args.map (kN λn=>(zo m n).getD n)).length:=by rw[List.length_map];exact hi
   have hl:(((t.args.map (kN λn=>(zo m n).getD n)).take i).map jm).length=i:=by rw[List.length_map,List.length_take,List.length_map];omega
   have ha:j4 (((t.args.map (kN λn=>(zo m n).getD n)).take i).map jm) [[sv (kN (λn=>(zo m n).getD n) t.args[i]).name,jS (kN (λn=>(zo m n).getD n) t.args[i]).args]]=((t.args.map (kN λn=>(zo m n).getD n)).take (i+1)).map jm:=by
    rw[show[sv (kN (λn=>(zo m n).getD n) t.args[i]).name,jS (kN (λn=>(zo m n).getD n) t.args[i]).args]=jm (kN (λn=>(zo m n).getD n) t.args[i]) from(kR _).symm,List.take_add_one,List.getElem?_eq_getElem hi2,List.map_append,List.getElem_map];rfl
   generalize ((t.args.map (kN λn=>(zo m n).getD n)).take i).map jm=R at *;generalize kN (λn=>(zo m n).getD n) t.args[i]=u at *;rw[jlp];simp only[jg,hlt,jb hi,ji,e2,hl,hf,ha,h5,ih']
theorem jkc(p:UInt8)(ns:Xa)(hv:∀n∈ns,jr n=true)(t:T)(hk:Rx' t)(ht:Tz t):G 165 [tm t,.mp ((KB p 0 ns).map kn)]=some (tm (kN (kG p ns) t),[]):=by
 rw[jlS _ (jjU hv) t hk ht,jk1]
theorem jjq(p:UInt8)(ns:Xa)(hn:ns.length<=1000):∀t:T,Tz t->G 166 [tm t,strs ns,sv [p]]=some (tm (kN (kG p ns) t),[]):=by
 refine T.ind λt ih ht=>?_;have hz:=ht;unfold Tz at hz;rw[ze]at hz;have e0:=yc t.name (((kQ t).1 ht.wf).1);rw[jz8,jba];cases hv:jr t.name<;>rw[hv]at e0
 .rw [if_neg Bool.false_ne_true];have key:=(upto (P:=λi=>jhb (strs ns) (sv [p]) (vi i) (sv t.name) (jS t.args) (sv []) (sv t.name) [] (((t.args.map (kN (kG p ns))).take i).map jm)=some (tm (.mk t.name (t.args.map (kN (kG p ns)))),[])) (n:=t.args.length) ?_ ?_ 0 (Nat.zero_le _))
  .simp only[Int.natCast_zero,List.take_zero,List.map_nil]at key;simp only[jg,e0,key]
  .rw [jqY,List.take_of_length_le (by rw[List.length_map];omega)]
   simp only[jg];rfl
  .intro i hi ih';have hlt:(i:Int)<((t.args.length:Nat):Int):=by omega
   have h5:=jy hi (by show t.args.length<=9223372036854775807;omega)
   have e2:=ih t.args[i] (List.getElem_mem _) (ht.args _ (List.getElem_mem _));have hf:jO (i+1) 40=true:=jtW (by omega);have hi2:i<(t.args.map (kN (kG p ns))).length:=by rw[List.length_map];exact hi
   have hl:(((t.args.map (kN (kG p ns))).take i).map jm).length=i:=by rw[List.length_map,List.length_take,List.length_map];omega
   have ha:j4 (((t.args.map (kN (kG p ns))).take i).map jm) [[sv (kN (kG p ns) t.args[i]).name,jS (kN (kG p ns) t.args[i]).args]]=((t.args.map (kN (kG p ns))).take (i+1)).map jm:=by
    rw[show[sv (kN (kG p ns) t.args[i]).name,jS (kN (kG p ns) t.args[i]).args]=jm (kN (kG p ns) t.args[i]) from(kR _).symm,List.take_add_one,List.getElem?_eq_getElem hi2,List.map_append,List.getElem_map];rfl
   generalize ((t.args.map (kN (kG p ns))).take i).map jm=R at *;generalize kN (kG p ns) t.args[i]=u at *;rw[jqY];simp only[jg,hlt,jb hi,ji,e2,hl,hf,ha,h5,ih']
 .rw [if_pos rfl];have key:=(upto (P:=λi=>(∀j,(h:j<i)-> ∀h':j<ns.length,ns[j]≠t.name)->jha (strs ns) (sv [p]) (vi i) (sv t.name) (jS t.args) (sv []) []=some (tm (.mk (kG p ns t.name) []),[])) (n:=ns.length) ?_ ?_ 0 (Nat.zero_le _)) (λj h=>by omega)
  .simp only[Int.natCast_zero]at key;simp only[jg,e0,key]
  .intro hall;have:kG p ns t.name=t.name:=by
    unfold kG;have:ns.findIdx? (λx=>decide (x=t.name))=none:=by
     rw[List.findIdx?_eq_none_iff];intro x hx;obtain⟨j,hj,rfl⟩:=List.mem_iff_getElem.1 hx;simpa using hall j hj hj
    rw[this]
   rw[jqX,this];simp only[jg];rfl
  .intro i hi ih' hall;have hlt:(i:Int)<((ns.length:Nat):Int):=by omega
   have h5:=jy hi (by show ns.length<=9223372036854775807;omega)
   have ld:kU (.elt (cs ns[i]) 0)=some (sv ns[i]):=rfl;rw[jqX];by_cases he:ns[i]=t.name
   .have e1:=jjo i (by omega);have e2:=jyf p i (by omega);have:kG p ns t.name=Yn p i:=by
     unfold kG;have:ns.findIdx? (λx=>decide (x=t.name))=some i:=by
      rw[List.findIdx?_eq_some_iff_getElem];exact⟨hi,by simp[he],λj hj=>by simpa using hall j hj (by omega)⟩
     rw[this]
    rw[this];simp only[jg,hlt,jb hi,he,e1,e2];rfl
   .have ih':=ih' λj hj hj'=>by
     by_cases h:j=i
     .subst h;exact he
     .exact hall j (by omega) hj'
    simp only[jg,hlt,jb hi,ld,he,h5,ih']
theorem jaX{n:Nat}(h:n<=1000000):jO n 48=true:=by
 unfold jO;exact decide_eq_true ⟨by omega,by omega⟩
theorem Kl{α:Type}{f:α->Xd}{xs:List α}{i:Nat}(h:i<xs.length):j4 ((xs.take i).map f) [f xs[i]]=(xs.take (i+1)).map f:=by
 rw[List.take_add_one,List.getElem?_eq_getElem h,List.map_append];rfl
theorem take_len{α:Type}{f:α->Xd}{xs:List α}{i:Nat}(h:i<=xs.length):((xs.take i).map f).length=i:=by rw[List.length_map,List.length_take];omega
noncomputable def eqL(a b:Lt):Bool:=decide (a.1=b.1) && dq a.2 b.2
theorem jax(a b:Lt):eqL a b=true↔a=b:=by
 obtain⟨p,t⟩:=a;obtain⟨q,u⟩:=b;unfold eqL;rw[Bool.and_eq_true,decide_eq_true_eq,Kw,Prod.mk.injEq]
theorem Yz(a b:Lt)(ha:Tz a.2)(hb:Tz b.2):G 164 [ltm a,ltm b]=some (vb (eqL a b),[]):=by
 have e1:=KP a.2 ha.wf b.2 hb.wf;unfold eqL;rw[jz6];by_cases h:a.1=b.1
 .rw [decide_eq_true h,Bool.true_and];simp only[jg,h,e1]
 .rw [decide_eq_false h,Bool.false_and];simp only[jg,h]
noncomputable def cpG:Lt->List Lt->List Lt
 |_,[]=>[]
 |p,b::l=>if eqL b p then cpG b l else b::cpG b l
theorem jiP:∀(l:List Lt)(a:Lt),Ql eqL (a::l)=a::cpG a l
 | [],a=>rfl
 |b::l,a=>by
  rw[Ql,jiP l b,cpG];show(if eqL a b then b::cpG b l else a::b::cpG b l)=_;by_cases h:a=b
  .subst h;rw[if_pos ((jax a a).2 rfl),if_pos ((jax a a).2 rfl)]
  .rw [if_neg (λe=>h ((jax a b).1 e)),if_neg (λe=>h ((jax b a).1 e).symm)]
theorem jkg{α:Type}{f:α->Xd}{xs:List α}{i:Nat}(h:i<xs.length)(n:Nat):y5 (xs.map f) i 0 n=some (.agg ((f xs[i]).take n)):=by unfold y5;simp[h]
theorem jyu{xs:List Lt}{i:Nat}(h:i<xs.length):y5 (xs.map jD) i 0 3=some (ltm xs[i]):=jkg h 3
theorem jym{α:Type}{f:α->Xd}{xs:List α}{i:Nat}(h:i<xs.length):ZB (jA (xs.map f)) (vi (i:Nat))=some i:=by
 rw[jeK,List.length_map];exact zR h
theorem jdQ{α:Type}{R s:List α}{k i:Nat}(h:R.drop k=s.drop k)(hk:k<=i)(hi:i<R.length)(hs:i<s.length):R[i]=s[i]:=by
 have:=congrArg (λl=>l[i-k]?) h;simp only[List.getElem?_drop,show k+(i-k)=i by omega,List.getElem?_eq_getElem hi,List.getElem?_eq_getElem hs]at this;exact Option.some.inj this
theorem ji6(c:kg)(hl:c.length<=1048576)(hz:∀l∈c,Tz l.2):G 114 [cm c]=jbO (if zN c then some c else none):=by
 have e1:=K6 c hl hz;rw[jzD];cases hv:zN c<;>rw[hv]at e1
 .rw [if_neg Bool.false_ne_true];simp only[jg,e1];rfl
 .rw [if_pos rfl];simp only[jg,e1];rfl
noncomputable def sameC(a b:kg):Bool:=dq a b
noncomputable def KC(o:Xd->Xe):Cfg:={ P:=Tryz.prog,D:=tyD jsp,sig:=λf=>if Nat.beq f 163 then some [⟨0,[3],[.cons],[0],.row 1⟩]else none,kp:=jx5 juS,ext:=λf=>if Nat.beq f 164 then some o else none,extv:=λ_=>none,wf:=λf=>Nat.beq f 163 }
noncomputable abbrev GQ(o:Xd->Xe)(args:Xd):Xe:=MM (KC o) (.call 164 args)
theorem gQ(o:Xd->Xe)(args:Xd):GQ o args=o args:=jpC rfl
theorem jxf{o:Xd->Xe}{f:FuncId}{fn:Func}{args:Xj}{objs:List Abs.Obj}(h3:Tryz.prog.funcs[f]? = some fn)(h4:fn.body.isSome=true)(h5:Nat.ble args.length fn.ntmps=true):MM (KC o) (.callv f args objs)=evC (KC o) (MM (KC o)) f (codeOf fn) [] (YD fn args objs) (Jh (KC o) f fn):=jiw rfl h3 (zQ h4) h5
theorem juA{o:Xd->Xe}{f:FuncId}{fn:Func}{p:Xf}{fr:Xj}{objs:List Abs.Obj}{sh:Option Xf}(h3:Tryz.prog.funcs[f]? = some fn)(h4:fn.body.isSome=true):MM (KC o) (.head f p fr objs sh)=evAt (KC o) (MM (KC o)) f (codeOf fn) p [] (St.of fn.ntmps fr objs sh) (Jh (KC o) f fn):=jmE h3 (zQ h4)
noncomputable def CQ(o:Xd->Xe)(r0:Xc):Xe:=MM (KC o) (.callv 163 [V.row 0,V.fn 164 []] [.row 3 r0])
noncomputable def LQ0(o:Xd->Xe)(x0:A)(r0:Xc):Xe:=MM (KC o) (.head 163 [1,1,0,1,0] [V.row 0,V.fn 164 [],V.top,V.top,V.top,V.d x0,V.top,V.top,V.top,V.top,V.top,V.top,V.top,V.top,V.top,V.top,V.top,V.top,V.top,V.top,V.top,V.top,V.top,V.top,V.top,V.top,V.top,V.top,V.top,V.top,V.top,V.top,V.top,V.top,V.top,V.top,V.top,V.top,V.top,V.top,V.top,V.top,V.top,V.top,V.top,V.top,V.top,V.top,V.top,V.top,V.top,V.top,V.top,V.top,V.top,V.top,V.top,V.top,V.top,V.top,V.top,V.top,V.top,V.top,V.top,V.top] [.row 3 r0] (some [0]))
noncomputable def LQ1(o:Xd->Xe)(x0 x1 x2 x3:A)(r0:Xc):Xe:=MM (KC o) (.head 163 [1,1,0,1,0,0,1,0,0,1,0,1,0,1,0] [V.row 0,V.fn 164 [],V.top,V.top,V.top,V.d x0,V.win 0 3 (kE x1) (kE x2),V.d x3,V.top,V.top,V.top,V.top,V.top,V.top,V.top,V.top,V.top,V.top,V.top,V.top,V.top,V.top,V.top,V.top,V.top,V.top,V.top,V.top,V.top,V.top,V.top,V.top,V.top,V.top,V.top,V.top,V.top,V.top,V.top,V.top,V.top,V.top,V.top,V.top,V.top,V.top,V.top,V.top,V.top,V.top,V.top,V.top,V.top,V.top,V.top,V.top,V.top,V.top,V.top,V.top,V.top,V.top,V.top,V.top,V.top,V.top] [.row 3 r0] (some [0]))
theorem cQ(o:Xd->Xe)(r0:Xc):CQ o r0 =
 (jq .lss false (qS r0) (vi 2)).bind λt0=>
 (zF t0).bind λt1=>
 brn t1 (
  some ((A.top,[A.sl 3 r0]))) (
  LQ0 o (vi 1) r0):=
 (jxf Tryz.func163 rfl rfl).trans (by kernel_rfl)
theorem lQ0(o:Xd->Xe)(x0:A)(r0:Xc):LQ0 o x0 r0 =
 (jq .lss false x0 (qS r0)).bind λt2=>
 (zF t2).bind λt3=>
 brn t3 (
  (ZB (jA r0) x0).bind λt4=>
  (y5 r0 t4 0 3).bind λt5=>
  (jq .sub false x0 (vi 1)).bind λt6=>
  (ZB (jA r0) t6).bind λt7=>
  (y5 r0 t7 0 3).bind λt8=>
  ((GQ o [t5,t8]).bind (fin false)).bind λt9=>
  (zF t9).bind λt10=>
  brn t10 (
   (pB (zS r0) (kY r0 0) none).bind λt11=>
   (pB 0 t11 (some x0)).bind λt12=>
   LQ1 o x0 (nA (0+t12)) (nA (j6 t11 t12)) (vi 1) r0) (
   (jq .add false x0 (vi 1)).bind λt13=>
   LQ0 o t13 r0)) (
  some ((A.top,[A.sl 3 r0]))):=
 (juA Tryz.func163 rfl).trans (by kernel_rfl)
theorem lQ1(o:Xd->Xe)(x0 x1 x2 x3:A)(r0:Xc):LQ1 o x0 x1 x2 x3 r0 =
 (jq .lss false x3 (nA (kE x2))).bind λt14=>
 (zF t14).bind λt15=>
 brn t15 (
  (ZB (kE x2) x3).bind λt16=>
  (y5 r0 ((kE x1)+t16) 0 3).bind λt17=>
  (jq .sub false x3 (vi 1)).bind λt18=>
  (ZB (kE x2) t18).bind λt19=>
  (y5 r0 ((kE x1)+t19) 0 3).bind λt20=>
  ((GQ o [t17,t20]).bind (fin false)).bind λt21=>
  (Zl .not t21).bind λt22=>
  (zF t22).bind λt23=>
  brn t23 (
   (ZB (kE x2) x3).bind λt24=>
   (y5 r0 ((kE x1)+t24) 0 3).bind λt25=>
   (ZB (jA r0) x0).bind λt26=>
   (QU 3 t25).bind λt27=>
   (ZY r0 t26).bind λt28=>
   (jq .add false x0 (vi 1)).bind λt29=>
   (jq .add false x3 (vi 1)).bind λt30=>
   LQ1 o t29 (nA (kE x1)) (nA (kE x2)) t30 (yh r0 t26 (zf t28 0 [jc t27 0,jc t27 1,jc t27 2]))) (
   (jq .add false x3 (vi 1)).bind λt31=>
   LQ1 o x0 (nA (kE x1)) (nA (kE x2)) t31 r0)) (
  (pB (zS r0) (kY r0 0) none).bind λt32=>
  (pB 0 t32 (some x0)).bind λt33=>
  (pB (zS (yd r0 (0+t33) (JM (j6 t32 t33) [vb false,sv [],A.sl 2 []]))) (kY (yd r0 (0+t33) (JM (j6 t32 t33) [vb false,sv [],A.sl 2 []])) 0) (some x0)).bind λt34=>
  some ((A.top,[A.sl 3 (List.take (j6 t34 0) (yd r0 (0+t33) (JM (j6 t32 t33) [vb false,sv [],A.sl 2 []])))]))):=
 (juA Tryz.func163 rfl).trans (by kernel_rfl)
abbrev T3:=A×A×A
abbrev Kq(x:T3):Xd:=[x.1,x.2.1,x.2.2]
section
variable{o:Xd->Xe}{q:T3->T3->Bool}{s:List T3}(ho:∀x∈s,∀y∈s,GQ o [.agg (Kq x),.agg (Kq y)]=some (vb (q x y),[]))(hk3:∀x∈s,jQ x.1=true/\jQ x.2.1=true/\jQ x.2.2=true)(hl:s.length<=1000000)
include ho hk3 hl
theorem jv8(k:Nat)(hk:k<s.length):∀j,j<=s.length-k->1<=j-> ∀(w:Nat)(R:List T3),R.length=s.length->R.drop (k+j-1)=s.drop (k+j-1)->w+1<=k+j-> ∀p:T3,(∃h:k+j-1<s.length,s[k+j-1]=p)->
  LQ1 o (vi (w:Nat)) (nA k) (nA (s.length-k)) (vi (j:Nat)) (R.map Kq)=some (.top,[.sl 3 ((R.take w++cpR q p (s.drop (k+j))).map Kq)]):=by
 refine upto ?_ ?_
 .intro _ w R hR hag hw p hp;have hd:s.drop (k+(s.length-k))=[]:=List.drop_eq_nil_of_le (by omega);have hlt:¬((s.length-k:Nat):Int)<((s.length-k:Nat):Int):=by omega
  have hlt':jq .lss false (vi ((s.length-k:Nat):Int)) (nA (s.length-k))=some (vb false):=by
   show some (vb (decide _))=_;rw[decide_eq_false hlt]
  have b1:pB (zS (R.map Kq)) (kY (R.map Kq) 0) none=some R.length:=by
   rw[zU,show kY (R.map Kq) 0=R.length by rw[yk,List.length_map];rfl];exact zd (Nat.le_refl _)
  have b2:pB 0 R.length (some (vi (w:Nat)))=some w:=yO (by omega);have ln:(yd (R.map Kq) (0+w) (JM (j6 R.length w) [vb false,sv [],.sl 2 []])).length=R.length:=by
   rw[ja4];simp[JM,yP];omega
  have b3:pB (zS (yd (R.map Kq) (0+w) (JM (j6 R.length w) [vb false,sv [],.sl 2 []]))) (kY (yd (R.map Kq) (0+w) (JM (j6 R.length w) [vb false,sv [],.sl 2 []])) 0) (some (vi (w:Nat)))=some w:=by
   rw[jt2,yk,ln];exact yO (by omega)
  have tk:List.take (j6 w 0) (yd (R.map Kq) (0+w) (JM (j6 R.length w) [vb false,sv [],.sl 2 []]))=(R.take w).map Kq:=by
   rw[ja4,yP,Nat.sub_zero,Nat.zero_add,List.append_assoc,List.take_append_of_le_length (by rw[List.length_take,List.length_map];omega),List.take_take,Nat.min_self,List.map_take]
  have h1:kE (nA (s.length-k))=s.length-k:=rfl;rw[lQ1,hd,cpR,List.append_nil,h1,hlt'];simp only[Option.bind_some,jaV,YP,b1,b2,b3,tk]
 .intro j hj ih hj1 w R hR hag hw p hp;obtain⟨hp1,hp2⟩:=hp;have hi:k+j<s.length:=by omega
  have hlt':jq .lss false (vi ((j:Nat):Int)) (nA (s.length-k))=some (vb true):=by
   show some (vb (decide (((j:Nat):Int)<((s.length-k:Nat):Int))))=_;rw[decide_eq_true (by omega)]
  have h1:kE (nA (s.length-k))=s.length-k:=rfl;have h2:kE (nA k)=k:=rfl;have x1:ZB (s.length-k) (vi ((j:Nat):Int))=some j:=zR hj;have c1:jq .sub false (vi ((j:Nat):Int)) (vi 1)=some (vi ((j-1:Nat):Int)):=by
   rw[jjO,show((j:Nat):Int)-1=((j-1:Nat):Int) by omega];exact jZ (by omega) (by omega)
  have x2:ZB (s.length-k) (vi ((j-1:Nat):Int))=some (j-1):=zR (by omega);have a1:R[k+j]'(by omega)=s[k+j]:=jdQ hag (by omega) (by omega) hi;have a2:R[k+(j-1)]'(by omega)=p:=by
   rw[<-hp2];have:=jdQ hag (i:=k+(j-1)) (by omega) (by omega) (by omega);rw[this];congr 1;omega
  have r1:y5 (R.map Kq) (k+j) 0 3=some (.agg (Kq s[k+j])):=by rw[jkg (by omega) 3,a1];rfl
  have r2:y5 (R.map Kq) (k+(j-1)) 0 3=some (.agg (Kq p)):=by rw[jkg (by omega) 3,a2];rfl
  have e1:=ho s[k+j] (List.getElem_mem _) p (by rw[<-hp2];exact List.getElem_mem _)
  have h5:jq .add false (vi ((j:Nat):Int)) (vi 1)=some (vi ((j+1:Nat):Int)):=jy (i:=j) (n:=j+1) (by omega) (by omega);have hdr:s.drop (k+j)=s[k+j]::s.drop (k+(j+1)):=js hi;have hag':R.drop (k+(j+1)-1)=s.drop (k+(j+1)-1):=by
   have:=congrArg (List.drop 1) hag;rw[List.drop_drop,List.drop_drop]at this;rwa[show k+j-1+1=k+(j+1)-1 by omega]at this
  have hx:∃h:k+(j+1)-1<s.length,s[k+(j+1)-1]=s[k+j]:=⟨by omega,by congr 1⟩;rw[lQ1,hdr,cpR,h1,h2,hlt'];cases hq:q s[k+j] p<;>rw[hq]at e1
  .rw [if_neg Bool.false_ne_true];have x3:ZB R.length (vi (w:Nat))=some w:=zR (by omega);have rg:ZY (R.map Kq) w=some (Kq (R[w]'(by omega))):=by unfold ZY;simp[show w<R.length by omega]
   have co:∀x y:T3,zf (Kq x) 0 [y.1,y.2.1,y.2.2]=Kq y:=λx y=>rfl;have rs:yh (R.map Kq) w (Kq s[k+j])=(R.set w s[k+j]).map Kq:=by unfold yh;rw[List.map_set]
   have h6:jq .add false (vi ((w:Nat):Int)) (vi 1)=some (vi ((w+1:Nat):Int)):=jy (i:=w) (n:=w+1) (by omega) (by omega);have:=ih (by omega) (w+1) (R.set w s[k+j]) (by rw[List.length_set];exact hR) (by rw[List.drop_set_of_lt (by omega)];exact hag') (by omega) s[k+j] hx;have tk:(R.set w s[k+j]).take (w+1)=R.take w++[s[k+j]]:=by
    rw[List.take_add_one,List.take_set_of_le (Nat.le_refl _),List.getElem?_set_self (by omega)];rfl
   rw[tk,List.append_assoc]at this;obtain⟨o1,o2,o3⟩:=hk3 s[k+j] (List.getElem_mem _);simp only[jg,x1,r1,c1,x2,r2,e1,x3,rg,co,rs,h6,h5,o1,o2,o3];rw[this];rfl
  .rw [if_pos rfl];have:=ih (by omega) w R hR hag' (by omega) s[k+j] hx;simp only[jg,x1,r1,c1,x2,r2,e1,h5];exact this
theorem jv7:∀k,k<=s.length->1<=k-> ∀p:T3,(∃h:k-1<s.length,s[k-1]=p)->LQ0 o (vi (k:Nat)) (s.map Kq)=some (.top,[.sl 3 ((s.take k++cpR q p (s.drop k)).map Kq)]):=by
 refine upto ?_ ?_
 .intro _ p _;rw[lQ0,List.drop_length,cpR,List.append_nil,List.take_length];simp only[jg]
 .intro k hk ih hk1 p hp;obtain⟨hp1,hp2⟩:=hp;have hlt:((k:Nat):Int)<((s.length:Nat):Int):=by omega
  have x1:ZB (jA (s.map Kq)) (vi (k:Nat))=some k:=jym hk;have c1:ck (((k:Nat):Int)-1)=some (vi ((k-1:Nat):Int)):=by
   rw[show((k:Nat):Int)-1=((k-1:Nat):Int) by omega];exact jZ (by omega) (by omega)
  have x2:ZB (jA (s.map Kq)) (vi ((k-1:Nat):Int))=some (k-1):=jym hp1;have r1:y5 (s.map Kq) k 0 3=some (.agg (Kq s[k])):=jkg hk 3;have r2:y5 (s.map Kq) (k-1) 0 3=some (.agg (Kq p)):=by rw[jkg hp1 3,hp2];rfl
  have e1:=ho s[k] (List.getElem_mem _) p (by rw[<-hp2];exact List.getElem_mem _)
  have h5:=jy hk (by show s.length<=9223372036854775807;omega)
  rw[lQ0,js hk,cpR];rw[jeK,List.length_map]at x1 x2;cases hq:q s[k] p<;>rw[hq]at e1
  .have ih:=ih (by omega) s[k] ⟨by omega,by congr 1⟩;rw[List.take_add_one,List.getElem?_eq_getElem hk,List.append_assoc]at ih;rw[if_neg Bool.false_ne_true];simp only[jg,hlt,x1,r1,c1,x2,r2,e1,h5];exact ih
  .have b1:pB (zS (s.map Kq)) (kY (s.map Kq) 0) none=some s.length:=by
    rw[zU,show kY (s.map Kq) 0=s.length by rw[yk,List.length_map];rfl];exact zd (Nat.le_refl _)
   have b2:pB 0 s.length (some (vi (k:Nat)))=some k:=yO (by omega);have:=jv8 ho hk3 hl k hk 1 (by omega) (Nat.le_refl _) k s rfl rfl (Nat.le_refl _) s[k] ⟨by omega,rfl⟩;rw[if_pos rfl];simp only[jg,hlt,x1,r1,c1,x2,r2,e1,b1,b2,yP];exact this
theorem jxJ:CQ o (s.map Kq)=some (.top,[.sl 3 ((cpA q s).map Kq)]):=by
 rw[cQ]
 match s,ho,hk3,hl with
 | [],_,_,_=>simp only[jg];rfl
 | [a],_,_,_=>simp only[jg];rfl
 |a::b::r,ho,hk3,hl=>
  have:=jv7 ho hk3 hl 1 (by simp) (Nat.le_refl _) a ⟨by simp,rfl⟩;have hlt:¬(((a::b::r).length:Nat):Int)<2:=by simp only[List.length_cons];omega
  rw[cpA];generalize hx:a::b::r=x at *;simp only[jg,hlt];rw[<-hx]at this⊢;exact this
end
theorem jsG(o:Xd->Xe):Sane (KC o):=⟨KJ.ty,KJ.mixed,KJ.names,KJ.lex⟩
theorem jnT:Enters Tryz.prog 163:=
 qG Tryz.func163 (KJ.names _ _ Tryz.func163) (zQ rfl)
open Classical in
noncomputable def jtT(s:Xc)(q:Xd->Xd->Bool):Xd->Xe
 | [.agg a,.agg b]=>if a∈s/\b∈s then some (.val (.bool (q a b)),[])else none
 |_=>none
theorem jv2:juz Tryz.prog 163 164 3:=λX raws q hk hok hl hp=>by
 obtain⟨s,rfl⟩:∃s:List T3,raws=s.map Kq:=by
  clear hl hp hok;induction raws with
  |nil=>exact⟨[],rfl⟩
  |cons x r ih=>
   obtain⟨s,rfl⟩:=ih λy hy=>hk y (by simp[hy]);have hx:=hk x (by simp)
   match x,hx with
   | [a,b,c],_=>exact⟨(a,b,c)::s,rfl⟩
 have ho:∀x∈s,∀y∈s,GQ (jtT (s.map Kq) q) [.agg (Kq x),.agg (Kq y)]=some (vb (q (Kq x) (Kq y)),[]):=λx hx y hy=>(gQ _ _).trans <|if_pos ⟨List.mem_map_of_mem hx,List.mem_map_of_mem hy⟩
 have h1:=jxJ (q:=λa b=>q (Kq a) (Kq b)) ho (λx hx=>by
  have:=hok _ (List.mem_map_of_mem hx);simpa[List.all_cons]using this) (by simpa using hl)
 rw[<-jda]at h1;refine jvF (C:=KC (jtT (s.map Kq) q)) (X:=X) (jsG _) (λf x args out hf hx=>?_) (λf x _ _ _ _ _ _ _ hf=>by cases hf) _ _ _ _ _ _ rfl rfl (Or.inl rfl) h1;have hf:(if Nat.beq f 164 then some (jtT (s.map Kq) q)else none)=some x:=hf;split at hf;rotate_left
 .cases hf
 rename_i hb;have hb:=Nat.eq_of_beq_eq_true hb;subst hb;cases hf;unfold jtT at hx;split at hx;rotate_left
 .cases hx
 rename_i a b;split at hx;rotate_left
 .cases hx
 rename_i hm;cases hx;exact hp a hm.1 b hm.2
theorem jvx{α:Type}{p:α->Bool}{l:List α}{k:Nat}(hk:k<=l.length)(h1:∀j,(h:j<k)-> ∀h':j<l.length,p l[j]=true)(h2:(∃h:k<l.length,p l[k]=false)\/k=l.length):l.takeWhile p=l.take k/\l.dropWhile p=l.drop k:=by
 have hp:∀a∈l.take k,p a=true:=λa ha=>by
  obtain⟨j,hj,rfl⟩:=List.mem_iff_getElem.1 ha;rw[List.length_take]at hj;rw[List.getElem_take];exact h1 j (by omega) (by omega)
 have e:=List.takeWhile_append_of_pos (l₂:=l.drop k) hp;have e':=List.dropWhile_append_of_pos (l₂:=l.drop k) hp;rw[List.take_append_drop]at e e';rw[e,e'];rcases h2 with⟨h,h2⟩|h
 .rw [js h,List.takeWhile_cons_of_neg (by simp[h2]),List.dropWhile_cons_of_neg (by simp[h2]),List.append_nil];exact⟨rfl,rfl⟩
 .rw [h,List.drop_length];simp
theorem jm3(u:List Lt)(hl:u.length<=900000)(i:Nat)(hi:i<=u.length)(x:Lt) :
  pB (zS (u.map jD)) (kY (u.map jD) 0) (some (vi (i:Nat)))=some i/\yi (u.map jD) 0 (j6 i 0)=(u.take i).map jD/\jO (u.take i).length 48=true/\pB (zS (u.map jD)) (kY (u.map jD) 0) none=some u.length/\pB 0 u.length (some (vi (i:Nat)))=some i/\yi (u.map jD) i (j6 u.length i)=(u.drop i).map jD/\
  jO ((u.take i).length+1) 48=true/\jO ((j4 ((u.take i).map jD) [jD x]).length+((u.drop i).map jD).length) 48=true/\j4 (j4 ((u.take i).map jD) [jD x]) ((u.drop i).map jD)=(u.take i++x::u.drop i).map jD:=by
 have e1:zS (u.map jD)=u.length:=zU jD u;have e2:kY (u.map jD) 0=u.length:=by rw[yk,List.length_map];rfl
 refine⟨by rw[e1,e2];exact yO hi,by rw[jdg,yP,Nat.sub_zero,List.drop_zero,List.map_take],?_,by rw[e1,e2];exact zd (Nat.le_refl _),yO hi,?_,?_,?_,?_⟩
 .rw [List.length_take];exact jaX (by omega)
 .rw [jdg,yP,<-List.map_drop,List.take_of_length_le (by rw[List.length_map,List.length_drop];omega)]
 .rw [List.length_take];exact jaX (by omega)
 .exact jaX (by unfold j4;rw[List.length_append,List.length_map,List.length_map,List.length_take,List.length_drop];simp only[List.length_cons,List.length_nil];omega)
 .unfold j4;rw[List.map_append,List.append_assoc];rfl
theorem jjr(l:List Lt)(hl:l.length<=1000)(hz:∀x∈l,Tz x.2)(i:Nat)(hi:i<l.length)(u:List Lt)(hu:u.length<=1000)(hzu:∀x∈u,Tz x.2):∀k,k<=u.length->(∀j,(h:j<k)-> ∀h':j<u.length,cmpL u[j] l[i]<0)->
  jg7 (.sl 3 (l.map jD)) (vi (i:Nat)) (vi (k:Nat)) (u.map jD) []=jbv (.sl 3 (l.map jD)) (vi ((i+1:Nat):Int)) ((ZX cmpL u l[i]).map jD) []:=by
 have h5:=jy hi (by show l.length<=9223372036854775807;omega)
 have ld:∀l:Lt,kU (.elt (jD l) 0)=some (vb l.1):=λl=>rfl;have ad:∀(l:Lt)(n:Nat),Jk (.elt (jD l) 0) n=some (.elt (jD l) n):=λl n=>by rw[yN,Nat.zero_add]
 have ld2:∀l:Lt,kr 2 (.elt (jD l) 1)=some (tm l.2):=λl=>rfl;have e2:=jhZ l[i].2 (hz _ (List.getElem_mem _));have hck:ck ((i:Int)+1)=some (vi ((i+1:Nat):Int)):=jZ (by omega) (by omega);refine upto ?_ ?_
 .intro hall;obtain⟨t1,t2⟩:=jvx (p:=λa=>decide (cmpL a l[i]<0)) (Nat.le_refl u.length) (λj h h'=>decide_eq_true (hall j h h')) (Or.inr rfl);obtain⟨k1,k2,k3,k4,k5,k6,k7,k8,k9⟩:=jm3 u (by omega) u.length (Nat.le_refl _) l[i];have hins:ZX cmpL u l[i]=u.take u.length++l[i]::u.drop u.length:=by
   unfold ZX;rw[t1,t2,List.drop_length,if_neg (by simp)]
  rw[hins,jqT];simp only[cev];have hlt:jq .lss false (vi (u.length:Nat)) (qS (u.map jD))=some (vb false):=by
   rw[jh2,List.length_map,jjN,decide_eq_false (by omega)]
  simp only[hlt,Option.bind_some,jjT,jvn,Bool.false_eq_true,if_false,decide_false,jjQ,jaV,YP,jb hi,ad,ld,ld2];simp only[jg,e2];generalize hB:zk _ _ _=B;have hB':B=some (ltm l[i]):=by rw[<-hB];kernel_rfl
  rw[hB'];simp only[jg,k1,k2,k4,k5];rw[if_pos k3,if_pos k7,k6,if_pos k8,hck,Option.bind_some,k9]
 .intro k hk ih hall;have hlt:((k:Nat):Int)<((u.length:Nat):Int):=by omega
  have x1:ZB u.length (vi (k:Nat))=some k:=zR hk;have r1:=jyu hk;have e1:=Qt u[k] l[i] (hzu _ (List.getElem_mem _)) (hz _ (List.getElem_mem _));rw[jqT];by_cases hc:cmpL u[k] l[i]<0
  .have ih:=ih λj h h'=>by
    by_cases hj:j=k
    .subst hj;exact hc
    .exact hall j (by omega) h'
   have hk1:ck ((k:Int)+1)=some (vi ((k+1:Nat):Int)):=jZ (by omega) (by omega);generalize cmpL u[k] l[i]=d at *;simp only[jg,hlt,x1,r1,jb hi,zy,e1,hc,hk1];exact ih
  .obtain ⟨t1,t2⟩:=jvx (p:=λa=>decide (cmpL a l[i]<0)) (Nat.le_of_lt hk) (λj h h'=>decide_eq_true (hall j h h')) (Or.inl ⟨hk,decide_eq_false hc⟩);have hins:ZX cmpL u l[i]=if cmpL u[k] l[i]=0 then u else u.take k++l[i]::u.drop k:=by
    unfold ZX;rw[t1,t2,js hk];by_cases h0:cmpL u[k] l[i]=0
    .rw [if_pos h0];exact if_pos (decide_eq_true h0)
    .rw [if_neg h0];exact if_neg (λe=>h0 (of_decide_eq_true e))
   rw[hins];by_cases h0:cmpL u[k] l[i]=0
   .rw [if_pos h0];rw[h0]at e1;simp only[jg,hlt,x1,r1,jb hi,zy,e1,hck]
   .obtain ⟨k1,k2,k3,k4,k5,k6,k7,k8,k9⟩:=jm3 u (by omega) k (Nat.le_of_lt hk) l[i];rw[if_neg h0];generalize cmpL u[k] l[i]=d at *;simp only[jg,hlt,x1,r1,jb hi,zy,e1,hc,h0,ad,ld,ld2,e2];generalize hB:zk _ _ _=B;have hB':B=some (ltm l[i]):=by rw[<-hB];kernel_rfl
    rw[hB'];simp only[jg,k1,k2,k4,k5];rw[if_pos k3,if_pos k7,k6,if_pos k8,hck,Option.bind_some,k9]
theorem jqs{u:List Lt}(hu:Asc cmpL u)(x:Lt){y:Lt} :y∈ZX cmpL u x↔y∈u\/y=x:=(jd2 qe hu x).2 y
theorem jbJ(l:List Lt)(hl:l.length<=900)(hz:∀x∈l,Tz x.2):G 141 [.sl 3 (l.map jD)]=some (cm (zi cmpL l),[]):=by
 have key:=upto (P:=λi=>∀u:List Lt,Asc cmpL u->u.length<=i->(∀x∈u,Tz x.2)->jbv (.sl 3 (l.map jD)) (vi (i:Nat)) (u.map jD) []=some (cm ((l.drop i).foldl (ZX cmpL) u),[])) (n:=l.length) ?_ ?_ 0 (Nat.zero_le _) [] List.Pairwise.nil (Nat.le_refl _) (λx h=>by cases h)
 .rw [List.drop_zero]at key;simp only[Int.natCast_zero,List.map_nil]at key;rw[jzS,key];rfl
 .intro u _ _ _;rw[jqS,List.drop_length];simp only[jg];rfl
 .intro i hi ih u ha hu hzu;have hlt:(i:Int)<((l.length:Nat):Int):=by omega
  have:=jjr l (by omega) hz i hi u (by omega) hzu 0 (Nat.zero_le _) (λj h=>absurd h (Nat.not_lt_zero _));simp only[Int.natCast_zero]at this;have h2:=ih (ZX cmpL u l[i]) (jd2 qe ha l[i]).1 (by have:=ji7 cmpL u l[i];omega) λx hx=>by
   rcases(jqs ha l[i]).1 hx with h|h
   .exact hzu x h
   .rw [h];exact hz _ (List.getElem_mem _)
  rw[jqS,js hi,List.foldl_cons];simp only[jg,hlt,this,h2]
theorem CN.ren_tz{p:UInt8}(hp:upc p=true){c:kg}(h:CN c):∀x∈c.map (λl=>(l.1,kN (kG p (kh c)) l.2)),Rx' x.2/\Tz x.2:=λx hx=>⟨(h.ren hp x hx).1.rx,(h.ren hp x hx).1.tz (by have:=(h.ren hp x hx).2;omega)⟩
theorem jhO(p:UInt8)(c:kg)(h:CN c)(ns:Xa)(hl:ns.length<=1000)(hr:∀x∈c.map (λl=>(l.1,kN (kG p ns) l.2)),Rx' x.2/\Tz x.2):G 119 [cm c,strs ns,sv [p]]=some (cm (zi cmpL (c.map λl=>(l.1,kN (kG p ns) l.2))),[]):=by
 have h8:=h.1;have e3:=jbJ (c.map λl=>(l.1,kN (kG p ns) l.2)) (by rw[List.length_map];omega) (λx hx=>(hr x hx).2);generalize hd:c.map (λl=>(l.1,kN (kG p ns) l.2))=d at *;have hdl:d.length=c.length:=by rw[<-hd,List.length_map]
 have key:=upto (P:=λi=>jg3 (strs ns) (sv [p]) (vi (i:Nat)) (.sl 3 (c.map jD)) ((d.take i).map jD) []=some (cm (zi cmpL d),[])) (n:=c.length) ?_ ?_ 0 (Nat.zero_le _)
 .simp only[Int.natCast_zero,List.take_zero,List.map_nil]at key;rw[jzF];simp only[jg,key]
 .rw [jqI,<-hdl,List.take_length];have hlt:¬((d.length:Nat):Int)<((c.length:Nat):Int):=by omega
  simp only[jg,hlt,e3]
 .intro i hi ih;have hi2:i<d.length:=by omega
  have hlt:(i:Int)<((c.length:Nat):Int):=by omega
  have h5:=jy hi (by show c.length<=9223372036854775807;omega)
  have e1:=jjq p ns hl c[i].2 (h.tz _ (List.getElem_mem _));have hdi:d[i]=(c[i].1,kN (kG p ns) c[i].2):=by simp only[<-hd,List.getElem_map]
  have ta:=Kl (f:=jD) hi2;have tl:=take_len (f:=jD) (Nat.le_of_lt hi2);have hf:jO (i+1) 48=true:=jaX (by omega);have ld:∀l:Lt,kU (.elt (jD l) 0)=some (vb l.1):=λl=>rfl;have ad:∀(l:Lt)(n:Nat),Jk (.elt (jD l) 0) n=some (.elt (jD l) n):=λl n=>by rw[yN,Nat.zero_add]
  have ld2:∀l:Lt,kr 2 (.elt (jD l) 1)=some (tm l.2):=λl=>rfl;rw[hdi]at ta;generalize (d.take i).map jD=R at *;generalize kN (kG p ns) c[i].2=u at *;rw[jqI];simp only[jg,hlt,jb hi,ad,ld,ld2,e1];generalize hB:zk _ _ _=B;have hB':B=some (ltm (c[i].1,u)):=by rw[<-hB];kernel_rfl
  rw[hB'];have hck:ck ((i:Int)+1)=some (vi ((i+1:Nat):Int)):=jZ (by omega) (by omega);simp only[jg,tl,hf,ta,hck,ih]
theorem jjt(p:UInt8)(hp:upc p=true)(c:kg)(h:CN c):G 119 [cm c,strs (kh c),sv [p]]=some (cm (renC p c),[]):=jhO p c h (kh c) (by have:=qL h;omega) (h.ren_tz hp)
theorem joi(c:kg)(h:CN c):G 88 [cm c]=some (strs (kh c),[]):=jeg c (by have:=h.1;omega) h.tz λl hl=>by have:=(h.2 l hl).2;omega
theorem jeu:∀(k i:Nat),k+i=10-> ∀c:kg,CN c->jmD (vi (i:Nat)) (.sl 3 (c.map jD)) []=some (.tup [cm (normF k c),vb (zN (normF k c))],[])
 |0,i,hk,c,h=>by
  have hi:((i:Nat):Int)=10:=by omega
  have e0:=YW c (by have:=h.1;omega) h.tz
  rw[jvg,normF,hi];simp only[jg,e0]
 |k+1,i,hk,c,h=>by
  have hlt:((i:Nat):Int)<10:=by omega
  have e0:=YW c (by have:=h.1;omega) h.tz
  have e1:=KS c h;rw[jvg,normF];cases hn:qY c<;>rw[hn]at e1
  .have e2:=joi c h;have e4:=jjt 88 (by decide) c h;have hck:ck ((i:Int)+1)=some (vi ((i+1:Nat):Int)):=jZ (by omega) (by omega);have ih:=jeu k (i+1) (by omega) (renC 88 c) (h.renC (by decide));rw[if_neg Bool.false_ne_true];simp only[jg,hlt,e1,e2,e4,hck,ih]
  .rw [if_pos rfl];simp only[jg,hlt,e1,e0]
theorem jjs(c:kg)(h:CN c)(ha:Asc cmpL c):G 94 [cm c]=some (.tup [cm (normC c),vb (zN (normC c))],[]):=by
 have e1:=jbJ c (by have:=h.1;omega) h.tz
 rw[jrj ha]at e1;have e2:=jeu 10 0 rfl c h;simp only[Int.natCast_zero]at e2;rw[g94];simp only[jg,e1,e2];rfl
theorem Jj(s:Xb):kO (sv s)=true:=rfl
theorem Yd(b:Bool):kO (vb b)=true:=rfl
theorem jjb(k:Nat)(xs:Xc):jcv (.sl k xs)=true:=rfl
theorem jo8(ts:Xg)(hl:ts.length<=1048576)(ih:∀t∈ts,jml (tm t)=some (.top,[sv t.name,.sl 66 (t.args.map jm)])):jdn (jS ts)=some (.top,[.sl 66 (ts.map jm)]):=by
 have key:=(upto (P:=λi=>jc4 (jS ts) (vi i) (part jm [sv [],.sl 2 []] ts i)=some (.top,[.sl 66 (ts.map jm)])) (n:=ts.length) ?_ ?_ 0 (Nat.zero_le _))
 .rw [jxs];have hm:=Y1 (b:=40) (n:=ts.length) (by omega) hl;simp only[Int.natCast_zero,<-Y2]at key;simp only[jg,hm,key]
 .rw [jm9,ja1];simp only[jg]
 .intro i hi ih';have h1:=KE (f:=jm) (z:=[sv [],.sl 2 []]) (Nat.le_of_lt hi);have h2:ZB (part jm [sv [],.sl 2 []] ts i).length (vi i)=some i:=zR (by omega);have h4:=ja3 (f:=jm) (z:=[sv [],.sl 2 []]) hi;rw[kR]at h4;have h5:=jy hi (Nat.le_trans hl (by decide));have e1:=ih ts[i] (List.getElem_mem _);rw[jm9];simp only[jg,hi,Int.ofNat_lt,jb hi,ji,e1,List.getElem?_cons_zero,Jj,h2,ja2 hi,jc9,h4,h5,ih']
theorem jsn(t:T)(ht:jdn (jS t.args)=some (.top,[.sl 66 (t.args.map jm)])):jml (tm t)=some (.top,[sv t.name,.sl 66 (t.args.map jm)]):=by
 rw[jxy];simp only[jg,ht]
theorem jut(t:T):tsz t<=1048576->jdn (jS t.args)=some (.top,[.sl 66 (t.args.map jm)]):=by
 refine T.ind (p:=λt=>tsz t<=1048576->jdn (jS t.args)=some (.top,[.sl 66 (t.args.map jm)])) ?_ t;intro t ih h;rw[ze]at h;exact jo8 t.args (by omega) λu hu=>jsn u (ih u hu (by have:=yQ hu;omega))
theorem jsm(t:T)(h:tsz t<=1048576):jpm (sv t.name) (jS t.args)=some (.top,[sv t.name,.sl 66 (t.args.map jm)]):=by
 have e1:=jut t h;rw[jxx];simp only[jg,e1]
theorem jrI(n:Int):QT (.sl 1 [[vy n]])=some (sv [UInt8.ofNat n.toNat]):=rfl
theorem jlH(x:Int):jq .rem false (vi x) (vi 10)=some (vi (x.tmod 10)):=rfl
theorem jgg(x:Int):jq .rem false (vi x) (vi 3)=some (vi (x.tmod 3)):=rfl
theorem jlG(x:Int):jq .quo false (vi x) (vi 10)=ck (x.tdiv 10):=rfl
theorem jtV(k:IntKind)(a:Int):jaW .u8 (.val (.int k a))=some (vy (IntKind.u8.wrap a)):=rfl
theorem jwx(n:Int):jQ (vy n)=true:=rfl
theorem jfv:∀(k:Nat)(out:Xb),out.length+k<=1000000000-> ∃s,jmp (vi (k:Nat)) (sv out)=some (sv s,[]):=by
 intro k;induction k using Nat.strongRecOn with
 |ind k ih=>
  intro out hl;by_cases hk:(0:Int)<(k:Nat)
  .have h1:((k:Nat):Int).tdiv 10=((k / 10:Nat):Int):=by rw[Int.tdiv_eq_ediv_of_nonneg (by omega)];rfl
   have h2:((k:Nat):Int).tmod 10=((k % 10:Nat):Int):=by rw[Int.tmod_eq_emod_of_nonneg (by omega)];rfl
   have c1:ck ((k / 10:Nat):Int)=some (vi ((k / 10:Nat):Int)):=jZ (by omega) (by omega);have c2:ck (48+((k % 10:Nat):Int))=some (vi (48+((k % 10:Nat):Int))):=jZ (by omega) (by omega);generalize hc:UInt8.ofNat (IntKind.u8.wrap (48+((k % 10:Nat):Int))).toNat=c;have e1:jq .add false (sv [c]) (sv out)=some (sv ([c]++out)):=by rw[Zg,if_pos (by simp;omega)]
   obtain⟨s,hs⟩:=ih (k / 10) (by omega) ([c]++out) (by simp;omega)
   refine⟨s,?_⟩;rw[juY];simp only[jg,hk,jlH,h2,c2,jtV,jwx,jrI,hc,e1,jlG,h1,c1,hs]
  .have e1:jq .add false (sv [109]) (sv out)=some (sv ([109]++out)):=by rw[Zg,if_pos (by simp;omega)]
   refine⟨[109]++out,?_⟩;rw[juY];simp only[jg,hk,e1]
theorem jcD(k:Nat)(h:k<=1000000000):∃s,G 41 [vi (k:Nat)]=some (sv s,[]):=by
 rw[g41];by_cases hk:((k:Nat):Int)<=0
 .exact ⟨[109,48],by simp only[jg,hk]⟩
 .obtain ⟨s,hs⟩:=jfv k [] (by simpa using h);exact⟨s,by simp only[jg,hk,hs]⟩
mutual
def mkN:T->Nat
 |.mk _ us=>1+KY us
def KY:Xg->Nat
 | []=>0
 |t::ts=>mkN t+KY ts
end
theorem jlx(t:T):mkN t=1+KY t.args:=by cases t;simp[mkN,T.args]
mutual
theorem jtK:∀t:T,mkN t<=1+tsz t
 |.mk n us=>by
  have:=jdd us;simp only[mkN,tsz];omega
theorem jdd:∀ts:Xg,KY ts<=ts.length+JP ts
 | []=>by simp[KY]
 |t::ts=>by
  have h1:=jtK t;have h2:=jdd ts;simp only[KY,JP,List.length_cons];omega
end
def HL:Nat->Xg->Nat->Prop
 |k,[],k'=>k'=k
 |k,u::us,k'=>∃k1:Nat,G 41 [vi (k:Nat)]=some (sv u.name,[])/\G 60 [jS u.args,vi ((k+1:Nat):Int)]=some (vi (k1:Nat),[])/\k<k1/\HL k1 us k'
theorem jpu:∀(r:Xg)(k k':Nat),HL k r k'->k<=k'
 | [],k,k',h=>by have h:k'=k:=h;omega
 |u::r,k,k',⟨k1,_,_,g3,g4⟩=>by have:=jpu r k1 k' g4;omega
theorem jfY:∀(r:Xg)(M:Xg)(k k':Nat),k'<=100000000->M.length+r.length<=9223372036854775807->k<=k'->HL k r k'->jmy (jS (M++r)) (vi (k:Nat)) (vi (M.length:Nat))=some (vi (k':Nat),[])
 | [],M,k,k',_,_,_,h=>by
  have h:k'=k:=h;subst h;rw[ju9,List.append_nil];simp only[jg]
 |u::r,M,k,k',hk,hl,hkk,⟨k1,g1,g2,g3,g4⟩=>by
  have h1:((M.length:Nat):Int)<(((M++u::r).length:Nat):Int):=jrn M r u;have h2:jz 2 (jS (M++u::r)) (vi (M.length:Nat))=some (.elt (jm u) 0):=jjC (f:=jm) (k:=2) M r u;have hle:k1<=k':=jpu r k1 k' g4;have e1:=jy (i:=k) (n:=k+1) (by omega) (by omega);have h5:=jy (i:=M.length) (n:=(M++u::r).length) (by simp) (by simp;simp at hl;omega);have ih:=jfY r (M++[u]) k1 k' hk (by simp at hl⊢;omega) hle g4;have q:(M++[u]).length=M.length+1:=by simp
  rw[q,List.append_assoc,List.singleton_append]at ih;have ad:Jk (.elt (jm u) 0) 1=some (.elt (jm u) 1):=by rw[yN]
  have ad0:Jk (.elt (jm u) 0) 0=some (.elt (jm u) 0):=by rw[yN]
  have lp:kU (.elt (jm u) 1)=some (jS u.args):=by rw[kR];rfl
  have lp0:kU (.elt (jm u) 0)=some (sv u.name):=by rw[kR];rfl
  have nk:¬((k1:Nat):Int)<0:=by omega
  rw[ju9];simp only[jg,h1,h2,ad,ad0,lp,lp0,g1,e1,g2,nk,h5,ih]
theorem jtt(us:Xg)(k k':Nat)(hk:k'<=100000000)(hl:us.length<=9223372036854775807)(h:HL k us k'):G 60 [jS us,vi (k:Nat)]=some (vi (k':Nat),[]):=by
 have:=jfY us [] k k' hk (by simpa using hl) (jpu us k k' h) h;rw[g60];exact this
theorem Qu:∀(r:Xg)(M:Xc)(k:Nat),k+KY r<=100000000->M.length+r.length<=9223372036854775807->
  (∀t∈r,∀k:Nat,k+KY t.args<=100000000-> ∃us:Xg,jfz (vi (k:Nat)) (t.args.map jm)=some (.top,[vi ((k+KY t.args:Nat):Int),.sl 66 (us.map jm)])/\G 60 [jS us,vi (k:Nat)]=some (vi ((k+KY t.args:Nat):Int),[]))->
  ∃us:Xg,us.length=r.length/\HL k us (k+KY r)/\jc5 (vi (k:Nat)) (vi (M.length:Nat)) (M++r.map jm)=some (.top,[vi ((k+KY r:Nat):Int),.sl 66 (M++us.map jm)])
 | [],M,k,hk,hl,_=>by
  refine⟨[],rfl,rfl,?_⟩;rw[jna,List.map_nil,List.append_nil];simp only[jg,KY,Nat.add_zero]
 |t::r,M,k,hk,hl,ht=>by
  simp only[KY,jlx,List.length_cons]at hk hl;have h1:((M.length:Nat):Int)<(((M++jm t::r.map jm).length:Nat):Int):=by simp;omega
  have h2:=jeW M (r.map jm) (jm t);have h3:=jbd M (r.map jm) (jm t);obtain⟨s,e0⟩:=jcD k (by omega);have h4:=jbe M (r.map jm) (jm t) [sv s,jS t.args];have h5:=jeW M (r.map jm) [sv s,jS t.args];have h6:=jbd M (r.map jm) [sv s,jS t.args];have e1:=jy (i:=k) (n:=k+1) (by omega) (by omega);have e2:=jy (i:=M.length) (n:=M.length+1) (by omega) (by omega);obtain⟨vs,e3,e4⟩:=ht t (by simp) (k+1) (by omega);have h7:=jbe M (r.map jm) [sv s,jS t.args] [sv s,jS vs];obtain⟨us,l1,l2,ih⟩:=Qu r (M++[[sv s,jS vs]]) (k+1+KY t.args) (by omega) (by simp;omega) λu hu=>ht u (by simp[hu]);have q:(M++[[sv s,jS vs]]).length=M.length+1:=by simp
  have q2:M++[[sv s,jS vs]]++r.map jm=M++[sv s,jS vs]::r.map jm:=by simp
  have q3:M++[[sv s,jS vs]]++us.map jm=M++(T.mk s vs::us).map jm:=by rw[List.map_cons,kR (.mk s vs),List.append_assoc];rfl
  have e4:G 60 [jS vs,vi ((k+1:Nat):Int)]=some (vi ((k+1+KY t.args:Nat):Int),[]):=e4;have hHL:HL k (T.mk s vs::us) (k+(1+KY t.args+KY r)):=⟨k+1+KY t.args,e0,e4,by omega,by rw[show k+(1+KY t.args+KY r)=k+1+KY t.args+KY r by omega];exact l2⟩;rw[q,q2,q3,show k+1+KY t.args+KY r=k+(1+KY t.args+KY r) by omega]at ih;have o1:zf (jm t) 0 [sv s]=[sv s,jS t.args]:=by rw[kR];rfl
  have o2:zf [sv s,jS t.args] 1 [jS vs]=[sv s,jS vs]:=rfl;have tv:je9 (jm t) 0 1=true:=by rw[kR];rfl
  refine⟨T.mk s vs::us,by simp[l1],by rw[KY,jlx];exact hHL,?_⟩
  rw[jna,List.map_cons,KY,jlx];simp only[jg,h1,e0,h2,h3,Jj,tv,o1,h4,h5,h6,jjb,e1,e3,List.getElem?_cons_zero,o2,h7,e2,ih]
theorem jrm(t:T):KZ t-> ∀k:Nat,k+KY t.args<=100000000-> ∃us:Xg,jfz (vi (k:Nat)) (t.args.map jm)=some (.top,[vi ((k+KY t.args:Nat):Int),.sl 66 (us.map jm)])/\G 60 [jS us,vi (k:Nat)]=some (vi ((k+KY t.args:Nat):Int),[]):=by
 refine T.ind (p:=λt=>KZ t-> ∀k:Nat,k+KY t.args<=100000000-> ∃us:Xg,jfz (vi (k:Nat)) (t.args.map jm)=some (.top,[vi ((k+KY t.args:Nat):Int),.sl 66 (us.map jm)])/\G 60 [jS us,vi (k:Nat)]=some (vi ((k+KY t.args:Nat):Int),[])) ?_ t;intro t ih hw k hk;obtain⟨_,w2,w3⟩:=(kQ t).1 hw;have w3:=(kK _).1 w3;obtain⟨us,l1,l2,h⟩:=Qu t.args [] k hk (by simpa using w2) λu hu=>ih u hu (w3 u hu);refine⟨us,?_,jtt us k _ hk (by rw[l1];exact w2) l2⟩;rw[jxt];exact h
theorem jfV(s:Xb):yb (sv s)=true:=rfl
theorem jfW(b:Bool):yb (vb b)=true:=rfl
theorem jdN(ts:Xg)(hl:ts.length<=1048576)(ih:∀t∈ts,jfA (tm t)=some (.top,[sv t.name,.sl 66 (t.args.map jm)])):jgR (jS ts)=some (.top,[.sl 66 (ts.map jm)]):=by
 by_cases h0:ts.length=0
 .have:ts=[]:=List.eq_nil_of_length_eq_zero h0;subst this;have hz:(((0:Nat):Int)=0)=True:=by simp
  rw[jpS];simp only[jg,List.map_nil,hz]
 have hn:¬(((ts.length:Nat):Int)=0):=by omega
 have key:=(upto (P:=λi=>Q8 (jS ts) (vi (ts.length:Nat)) (vi i) (part jm [sv [],.sl 2 []] ts i)=some (.top,[.sl 66 (ts.map jm)])) (n:=ts.length) ?_ ?_ 0 (Nat.zero_le _))
 .rw [jpS];have hm:=Y1 (b:=40) (n:=ts.length) (by omega) hl;simp only[Int.natCast_zero,<-Y2]at key;simp only[jg,hn,hm,key]
 .rw [jji,ja1];simp only[jg]
 .intro i hi ih';have h1:=KE (f:=jm) (z:=[sv [],.sl 2 []]) (Nat.le_of_lt hi);have h2:ZB (part jm [sv [],.sl 2 []] ts i).length (vi i)=some i:=zR (by omega);have h4:=ja3 (f:=jm) (z:=[sv [],.sl 2 []]) hi;rw[kR]at h4;have h5:=jy hi (Nat.le_trans hl (by decide));have e1:=ih ts[i] (List.getElem_mem _);rw[jji];simp only[jg,hi,Int.ofNat_lt,jb hi,ji,e1,List.getElem?_cons_zero,Jj,jfV,h2,ja2 hi,jc9,h4,h5,ih']
theorem juI(t:T):tsz t<=1048576->jfA (tm t)=some (.top,[sv t.name,.sl 66 (t.args.map jm)]):=by
 refine T.ind (p:=λt=>tsz t<=1048576->jfA (tm t)=some (.top,[sv t.name,.sl 66 (t.args.map jm)])) ?_ t;intro t ih h;rw[ze]at h;have e:=jdN t.args (by omega) λu hu=>ih u hu (by have:=yQ hu;omega);rw[jxC];simp only[jg,e]
theorem jfO(t:T)(h:Tz t):G 66 [tm t]=some (tm t,[]):=by
 unfold Tz at h;rw[ze]at h;have e:=jdN t.args (by omega) λu hu=>juI u (by have:=yQ hu;omega);rw[g66];simp only[jg,e]
theorem jdM(l:Lt)(h:tsz l.2<=1048576):jgW (vb l.1) (sv l.2.name) (jS l.2.args)=some (.top,[vb l.1,sv l.2.name,.sl 66 (l.2.args.map jm)]):=by
 have e:=juI l.2 h;rw[jvX];simp only[jg,e,List.getElem?_cons_zero,jfV]
end Go.Proofs.YtkkcepmpbackoaaGreatDoor
