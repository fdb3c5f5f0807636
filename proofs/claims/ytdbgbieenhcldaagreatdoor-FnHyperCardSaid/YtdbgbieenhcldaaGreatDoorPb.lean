/- Pb -/
import Derived.Test.YtdbgbieenhcldaaGreatDoorPa
namespace Go.Proofs.YtdbgbieenhcldaaGreatDoor
open Go Go.RowKit Go.Proofs.YtdbgbieenhcldaaGreatDoor.Abs
set_option linter.unusedSimpArgs false
set_option linter.unusedVariables false
set_option maxHeartbeats 1000000
def Rx' (t:T):Prop:=z6 t=true\/(t.name = [61]/\ ∀u∈t.args,z6 u=true)
theorem Rx'.args {t:T} (h:Rx' t):∀u∈t.args,Rx' u:=λu hu=>Or.inl (by
 rcases h with h|h
 ·exact zE h u hu
 ·exact h.2 u hu)
theorem ja9 (ts us:List T) (hl:ts.length<=1048576) (hlen:ts.length=us.length) (ih:∀t∈ts,∀u∈us,G 116 [tm t,tm u]=some (vi (zJ t u),[])) :
  ∀i,i<=ts.length->jgy (jY ts) (jY us) (.fn 116 []) (jY ts) (vi (ts.length:Nat)) (vi (i:Nat))=some (vi (zl (ts.drop i) (us.drop i)),[]):=by
 refine upto ?_ ?_
 ·rw [jqs,List.drop_length,zl];simp only [jd,hlen]
 ·intro i hi ih';have hlt:(i:Int) < ((ts.length:Nat):Int):=by omega
  have hi2:i < us.length:=by omega
  have hge:¬((us.length:Nat):Int)<=(i:Int):=by omega
  have h5:=jr hi (by show ts.length<=9223372036854775807;omega)
  have e1:=ih ts[i] (List.getElem_mem _) us[i] (List.getElem_mem _);rw [jqs,jo hi,jo hi2,zl];by_cases hc:zJ ts[i] us[i]=0
  ·rw [if_neg (λh=>h hc)];rw [hc] at e1;simp only [jd,hlt,ja hi,ja hi2,jl,hge,yN (f:=116) rfl,List.append_nil,e1,h5,ih']
  ·rw [if_pos hc];generalize zJ ts[i] us[i]=c at *;simp only [jd,hlt,ja hi,ja hi2,jl,hge,yN (f:=116) rfl,List.append_nil,e1,hc]
theorem jck:∀a:T,Rx' a->Tz a-> ∀b:T,Rx' b->Tz b->G 116 [tm a,tm b]=some (vi (zJ a b),[]):=by
 refine T.ind λa ih ha za b hb zb=> ?_;have va:=zB a (ha.imp id λh=>h.1);have vb':=zB b (hb.imp id λh=>h.1);have hz:=za;unfold Tz at hz;rw [kO] at hz;have e1:=ZU a.name b.name;have e2:=jbI a.args.length b.args.length;have e3:=jq5 (kz a.name b.name) (kA a.args.length b.args.length);have e4:a.args.length=b.args.length->G 161 [jY a.args,jY b.args,.fn 116 []]=some (vi (zl a.args b.args),[]):=λhlen=>by
  have key:=ja9 a.args b.args (by omega) hlen (λt ht u hu=>ih t ht (ha.args t ht) (za.args t ht) u (hb.args u hu) (zb.args u hu)) 0 (Nat.zero_le _);simp only [Int.natCast_zero,List.drop_zero] at key;rw [jzQ];simp only [jd,key]
 rw [jzj,Ki];unfold cK zU vF;cases h1:jk a.name<;>cases h2:jk b.name<;>rw [h1] at va<;>rw [h2] at vb'
 ·show _=some (vi (if (if kA 1 1≠0 then kA 1 1 else if kz a.name b.name≠0 then kz a.name b.name else kA a.args.length b.args.length)≠0 then (if kA 1 1≠0 then kA 1 1 else if kz a.name b.name≠0 then kz a.name b.name else kA a.args.length b.args.length) else zl a.args b.args),[]);rw [if_neg (show ¬kA 1 1≠0 by decide)];by_cases hz0:(if kz a.name b.name≠0 then kz a.name b.name else kA a.args.length b.args.length)=0
  ·have hlen:a.args.length=b.args.length:=by
    split at hz0
    ·rename_i h;exact absurd hz0 h
    ·exact (ZT.zero _ _).1 hz0
   rw [if_neg (λh=>h hz0)];rw [hz0] at e3;simp only [jd,va,vb',e1,e2,e3,e4 hlen]
  ·rw [if_pos hz0];generalize (if kz a.name b.name≠0 then kz a.name b.name else kA a.args.length b.args.length)=c at *;simp only [jd,va,vb',e1,e2,e3,hz0]
 ·have:(if (if kA 1 0≠0 then kA 1 0 else if kz a.name b.name≠0 then kz a.name b.name else kA a.args.length b.args.length)≠0 then (if kA 1 0≠0 then kA 1 0 else if kz a.name b.name≠0 then kz a.name b.name else kA a.args.length b.args.length) else zl a.args b.args)=1:=by
   rw [if_pos (show kA 1 0≠0 by decide),if_pos (show kA 1 0≠0 by decide)];rfl
  show _=some (vi (if (if kA 1 0≠0 then kA 1 0 else if kz a.name b.name≠0 then kz a.name b.name else kA a.args.length b.args.length)≠0 then (if kA 1 0≠0 then kA 1 0 else if kz a.name b.name≠0 then kz a.name b.name else kA a.args.length b.args.length) else zl a.args b.args),[]);rw [this];simp only [jd,va,vb']
 ·have:(if (if kA 0 1≠0 then kA 0 1 else if kz a.name b.name≠0 then kz a.name b.name else kA a.args.length b.args.length)≠0 then (if kA 0 1≠0 then kA 0 1 else if kz a.name b.name≠0 then kz a.name b.name else kA a.args.length b.args.length) else zl a.args b.args) = -1:=by
   rw [if_pos (show kA 0 1≠0 by decide),if_pos (show kA 0 1≠0 by decide)];rfl
  show _=some (vi (if (if kA 0 1≠0 then kA 0 1 else if kz a.name b.name≠0 then kz a.name b.name else kA a.args.length b.args.length)≠0 then (if kA 0 1≠0 then kA 0 1 else if kz a.name b.name≠0 then kz a.name b.name else kA a.args.length b.args.length) else zl a.args b.args),[]);rw [this];simp only [jd,va,vb']
 ·show _=some (vi (if (if kA 0 0≠0 then kA 0 0 else if kz a.name b.name≠0 then kz a.name b.name else kA a.args.length b.args.length)≠0 then (if kA 0 0≠0 then kA 0 0 else if kz a.name b.name≠0 then kz a.name b.name else kA a.args.length b.args.length) else zl a.args b.args),[]);rw [if_neg (show ¬kA 0 0≠0 by decide)];by_cases hz0:(if kz a.name b.name≠0 then kz a.name b.name else kA a.args.length b.args.length)=0
  ·have hlen:a.args.length=b.args.length:=by
    split at hz0
    ·rename_i h;exact absurd hz0 h
    ·exact (ZT.zero _ _).1 hz0
   rw [if_neg (λh=>h hz0)];rw [hz0] at e3;simp only [jd,va,vb',e1,e2,e3,e4 hlen]
  ·rw [if_pos hz0];generalize (if kz a.name b.name≠0 then kz a.name b.name else kA a.args.length b.args.length)=c at *;simp only [jd,va,vb',e1,e2,e3,hz0]
theorem jnO (x y:List UInt8):G 169 [sv x,sv y]=some (vi (kz x y),[]):=by
 rw [jzU,Zj];cases h1:zF x y<;>cases h2:zF y x<;>simp only [jd,jbl,h1,h2]
theorem jdO (n m:List UInt8) (ts us:List T) (hl:ts.length<=1048576) (hlen:ts.length=us.length) (ih:∀t∈ts,∀u∈us,G 126 [tm t,tm u]=some (vi (zJ t u),[])) :
  ∀i,i<=ts.length->jcW (vi (i:Nat)) (sv n) (jY ts) (sv m) (jY us)=some (vi (zl (ts.drop i) (us.drop i)),[]):=by
 refine upto ?_ ?_
 ·rw [jqe,List.drop_length,zl];simp only [jd]
 ·intro i hi ih';have hlt:(i:Int) < ((ts.length:Nat):Int):=by omega
  have hi2:i < us.length:=by omega
  have h5:=jr hi (by show ts.length<=9223372036854775807;omega)
  have e1:=ih ts[i] (List.getElem_mem _) us[i] (List.getElem_mem _);rw [jqe,jo hi,jo hi2,zl];by_cases hc:zJ ts[i] us[i]=0
  ·rw [if_neg (λh=>h hc)];rw [hc] at e1;simp only [jd,hlt,ja hi,ja hi2,jl,e1,h5,ih']
  ·rw [if_pos hc];generalize zJ ts[i] us[i]=c at *;simp only [jd,hlt,ja hi,ja hi2,jl,e1,hc]
theorem jkF (a b:T):zJ a b=if jk a.name=true/\jk b.name=false then -1 else if jk a.name=false/\jk b.name=true then 1 else if ¬a.name=b.name then kz a.name b.name else if a.args.length < b.args.length then -1 else if b.args.length < a.args.length then 1 else zl a.args b.args:=by
 rw [Ki];unfold cK zU vF;have hn:=Jc.zero a.name b.name;have hzr:kA 1 1=0/\kA 0 0=0/\kA 0 1 = -1/\kA 1 0=1:=by decide
 obtain ⟨z1,z2,z3,z4⟩:=hzr;have hz:kA a.args.length b.args.length=if a.args.length < b.args.length then -1 else if b.args.length < a.args.length then 1 else 0:=rfl;cases h1:jk a.name<;>cases h2:jk b.name<;>simp only [Bool.false_eq_true,if_true,if_false,z1,z2,z3,z4,hz]
 all_goals have hs:=(Jc.zero b.name b.name).2 rfl
 all_goals by_cases e:a.name=b.name
 all_goals by_cases l1:a.args.length < b.args.length
 all_goals by_cases l2:b.args.length < a.args.length
 all_goals first
  | (simp [e,hs,l1,l2];done)
  | (have ne:¬kz a.name b.name=0:=λh=>e (hn.1 h);simp only [ne_eq,e,ne,not_false_eq_true,not_true_eq_false,if_true,if_false,and_true,true_and,and_false,false_and,reduceCtorEq];done)
  | simp [l1,l2]
theorem jhb:∀a:T,Tz a-> ∀b:T,Tz b->G 126 [tm a,tm b]=some (vi (zJ a b),[]):=by
 refine T.ind λa ih za b zb=> ?_;have va:=zt a.name (((kV a).1 za.wf).1);have vb':=zt b.name (((kV b).1 zb.wf).1);have hz:=za;unfold Tz at hz;rw [kO] at hz;have e1:=jnO a.name b.name;have e4:a.args.length=b.args.length->jcW (vi 0) (sv a.name) (jY a.args) (sv b.name) (jY b.args)=some (vi (zl a.args b.args),[]):=λhlen=>by
  have key:=jdO a.name b.name a.args b.args (by omega) hlen (λt ht u hu=>ih t ht (za.args t ht) u (zb.args u hu)) 0 (Nat.zero_le _);simp only [Int.natCast_zero,List.drop_zero] at key;exact key
 rw [jzr,jkF];have main:∀p:Bool,G 100 [sv a.name]=some (vb p,[])->G 100 [sv b.name]=some (vb p,[])->_:=λp _ _=>trivial;clear main;cases h1:jk a.name<;>cases h2:jk b.name<;>rw [h1] at va<;>rw [h2] at vb'
 all_goals by_cases en:a.name=b.name
 all_goals try (exfalso;rw [en,h2] at h1;cases h1;done)
 all_goals by_cases l1:a.args.length < b.args.length
 all_goals by_cases l2:b.args.length < a.args.length
 all_goals have l1':(((a.args.length:Nat):Int) < ((b.args.length:Nat):Int))=(a.args.length < b.args.length):=propext (by omega)
 all_goals have l2':(((b.args.length:Nat):Int) < ((a.args.length:Nat):Int))=(b.args.length < a.args.length):=propext (by omega)
 all_goals first
  | (have e4:=e4 (by omega);rw [en] at e4;simp only [jd,va,vb',e1,en,l1,l2,l1',l2',e4,and_true,true_and,and_false,false_and];done)
  | (simp only [jd,va,vb',e1,en,l1,l2,l1',l2',and_true,true_and,and_false,false_and];done)
  | (simp only [jd,va,vb',e1,en,l1,l2,l1',l2',and_true,true_and,and_false,false_and])
abbrev jC (l:Lt):List A:=[vb l.1,sv l.2.name,.sl 2 (l.2.args.map jz)]
abbrev ltm (l:Lt):A:= .agg [vb l.1,sv l.2.name,.sl 2 (l.2.args.map jz)]
theorem jms (b:Bool):G 54 [vb b]=some (vi (fl b:Nat),[]):=by
 rw [g54];cases b<;>simp only [jd]<;>rfl
theorem JV (a b:Lt) (ha:Rx' a.2) (za:Tz a.2) (hb:Rx' b.2) (zb:Tz b.2):G 71 [ltm a,ltm b]=some (vi (cmpL a b),[]):=by
 have e1:=jck a.2 ha za b.2 hb zb;have e2:=jms a.1;have e3:=jms b.1;have e4:=jbI (fl a.1) (fl b.1);have e5:=jq5 (zJ a.2 b.2) (kA (fl a.1) (fl b.1));have e6:cmpL a b=if zJ a.2 b.2≠0 then zJ a.2 b.2 else kA (fl a.1) (fl b.1):=rfl;rw [g71,e6];generalize (if zJ a.2 b.2≠0 then zJ a.2 b.2 else kA (fl a.1) (fl b.1))=c at *;generalize kA (fl a.1) (fl b.1)=d at *;generalize zJ a.2 b.2=f at *;simp only [jd,e1,e2,e3,e4,e5]
theorem KH (a b:Lt) (za:Tz a.2) (zb:Tz b.2):G 77 [ltm a,ltm b]=some (vi (cmpL a b),[]):=by
 have e1:=jhb a.2 za b.2 zb;have e6:cmpL a b=if zJ a.2 b.2≠0 then zJ a.2 b.2 else kA (fl a.1) (fl b.1):=rfl;rw [g77,e6];by_cases h:zJ a.2 b.2=0
 ·rw [if_neg (λh'=>h' h)];rw [h] at e1;obtain ⟨p,t⟩:=a;obtain ⟨q,u⟩:=b;have d1:kA (fl false) (fl true) = -1:=by decide
  have d2:kA (fl true) (fl false)=1:=by decide
  have d3:kA (fl true) (fl true)=0:=by decide
  have d4:kA (fl false) (fl false)=0:=by decide
  cases p<;>cases q<;>simp only [jd,e1,d1,d2,d3,d4]
 ·rw [if_pos h];generalize zJ a.2 b.2=c at *;simp only [jd,e1,h]
def yC (t:T):Bool:=if t.name = [61] then jeW t else ye t.name && kW t
theorem jfs (t:T) (hw:twf t) (hs:tsz t<=1048576):G 76 [tm t]=some (vb (yC t),[]):=by
 unfold yC;by_cases he:t.name = [61]
 ·rw [if_pos he];exact jdN t hw hs he
 ·have e1:=Z8 t.name ((kV t).1 hw).1;have e2:=YO t hw hs;rw [if_neg he,g76];cases h:ye t.name<;>rw [h] at e1
  ·simp only [jd,he,e1,Bool.false_and]
  ·simp only [jd,he,e1,e2,Bool.true_and]
theorem jdD (t:T) (hw:twf t) (hs:tsz t<=1048576):G 114 [tm t]=some (vb (yC t),[]):=by
 unfold yC;by_cases he:t.name = [61]
 ·rw [if_pos he];exact jco t hw hs he
 ·have e0:=Qk t;rw [decide_eq_false he] at e0;have e1:=jbO t.name ((kV t).1 hw).1;have e2:=Z4 t hw hs;rw [if_neg he,jxE];cases h:ye t.name<;>rw [h] at e1
  ·simp only [jd,e0,e1,Bool.false_and]
  ·simp only [jd,e0,e1,e2,Bool.true_and]
abbrev cm (c:jO):A:= .agg [.sl 3 (c.map jC)]
def zs (c:jO):Bool:=c.all (λl=>yC l.2) && (jid c && decide (c.length<=8))
theorem jmg {t:T} (h:yC t=true):Rx' t:=by
 unfold yC at h;by_cases he:t.name = [61]
 ·rw [if_pos he] at h;unfold jeW at h;rw [Bool.and_eq_true,decide_eq_true_eq,Bool.and_eq_true,Bool.and_eq_true] at h;refine Or.inr ⟨he,λu hu=> ?_⟩;obtain ⟨n,us⟩:=t
  match us,h.1 with
  | [a,b],_=>
   have hu:u ∈ [a,b]:=hu;simp only [List.mem_cons,List.not_mem_nil,or_false] at hu;rcases hu with rfl|rfl
   ·exact h.2.2.1
   ·exact h.2.2.2
 ·rw [if_neg he,Bool.and_eq_true] at h;have h2:=h.2;unfold kW at h2;rw [Bool.and_eq_true] at h2;exact Or.inl h2.2
theorem jaw (l:Lt) (hz:Tz l.2):G 70 [ltm l]=some (vb (yC l.2),[]):=by
 have e:=jdD l.2 hz.wf hz;rw [g70];simp only [jd,e]
def ZI:Option Lt->jO->Bool
 | _,[]=>true
 | none,l::r=>yC l.2 && ZI (some l) r
 | some p,l::r=>yC l.2 && (decide (cmpL p l < 0) && ZI (some l) r)
theorem jf5:∀(p:Lt) (c:jO),ZI (some p) c=(c.all (λl=>yC l.2) && jid (p::c))
 | p,[]=>rfl
 | p,l::r=>by
  rw [ZI,jf5 l r,List.all_cons,jid];cases yC l.2<;>cases decide (cmpL p l < 0)<;>simp
theorem jf4 (c:jO):(ZI none c && decide (c.length<=8))=zs c:=by
 unfold zs;cases c with
 | nil=>rfl
 | cons l r=>rw [ZI,jf5,List.all_cons];cases yC l.2<;>simp [Bool.and_assoc]
theorem zN (l:Lt):jZ 3 (.elt (jC l) 0)=some (ltm l):=rfl
theorem jj9 (c:jO) (hl:c.length<=1048576) (hz:∀l∈c,Tz l.2):∀i,i<=c.length-> ∀p:Option Lt,(p=none↔i=0)->(∀q,p=some q->yC q.2=true/\ ∃h:i - 1 < c.length,c[i - 1]=q)->
  jlR (.sl 3 (c.map jC)) (vi (c.length:Nat)) (vi (i:Nat)) (.sl 3 (c.map jC))=some (vb (ZI p (c.drop i) && decide (c.length<=8)),[]):=by
 refine upto ?_ ?_
 ·intro p _ _;have e:decide (((c.length:Nat):Int)<=8)=decide (c.length<=8):=by congr 1;exact propext (by omega)
  rw [juv,List.drop_length,<-e];have:ZI p []=true:=by cases p<;>rfl
  rw [this];simp only [jd,Bool.true_and]
 ·intro i hi ih p hp hq;have hlt:(i:Int) < ((c.length:Nat):Int):=by omega
  have h5:=jr hi (by show c.length<=9223372036854775807;omega)
  have e1:=jaw c[i] (hz _ (List.getElem_mem hi));have ix:=ja (k:=3) (f:=jC) hi;have e1:G 70 [.agg [vb c[i].1,sv c[i].2.name,jY c[i].2.args]]=some (vb (yC c[i].2),[]):=e1;rw [juv,jo hi];cases ha:yC c[i].2 with
  | false=>
   rw [ha] at e1;have:ZI p (c[i]::c.drop (i+1))=false:=by cases p<;>rw [ZI,ha]<;>rfl
   rw [this];simp only [jd,hlt,ix,zN,e1,Bool.false_and]
  | true=>
   rw [ha] at e1;have ih1:=ih (some c[i]) (by simp) (λq hq=>by cases hq;exact ⟨ha,by simpa using hi,rfl⟩);cases p with
   | none=>
    have h0:i=0:=hp.1 rfl;have hg:¬(0:Int) < (i:Int):=by omega
    rw [ZI,ha,Bool.true_and,<-ih1];simp only [jd,hlt,ix,zN,e1,hg,h5]
   | some q=>
    obtain ⟨hqa,hq1,hq2⟩:=hq q rfl;have hi0:¬i=0:=λh=>by have:=hp.2 h;cases this
    have hg:(0:Int) < (i:Int):=by omega
    have c1:ck ((i:Int) - 1)=some (vi ((i - 1:Nat):Int)):=by rw [show (i:Int) - 1=((i - 1:Nat):Int) by omega,jG (by omega) (by omega)]
    have ix2:=ja (k:=3) (f:=jC) hq1;rw [hq2] at ix2;have hqz:Tz q.2:=by rw [<-hq2];exact hz _ (List.getElem_mem hq1)
    have e2:=JV q c[i] (jmg hqa) hqz (jmg ha) (hz _ (List.getElem_mem hi));have e2:G 71 [.agg [vb q.1,sv q.2.name,jY q.2.args],.agg [vb c[i].1,sv c[i].2.name,jY c[i].2.args]]=some (vi (cmpL q c[i]),[]):=e2;rw [ZI,ha,Bool.true_and];by_cases hc:cmpL q c[i] < 0
    ·have hc':¬(0:Int)<=cmpL q c[i]:=by omega
     rw [decide_eq_true hc,Bool.true_and,<-ih1];generalize cmpL q c[i]=d at *;simp only [jd,hlt,ix,zN,e1,hg,c1,ix2,e2,hc',h5]
    ·have hc':(0:Int)<=cmpL q c[i]:=by omega
     rw [decide_eq_false hc];generalize cmpL q c[i]=d at *;simp only [jd,hlt,ix,zN,e1,hg,c1,ix2,e2,hc',Bool.false_and]
theorem KV (c:jO) (hl:c.length<=1048576) (hz:∀l∈c,Tz l.2):G 28 [cm c]=some (vb (zs c),[]):=by
 have key:=jj9 c hl hz 0 (Nat.zero_le _) none (by simp) (λq h=>by cases h);rw [List.drop_zero,jf4] at key;simp only [Int.natCast_zero] at key;rw [g28];simp only [jd,key]
theorem jka (c:jO) (hl:c.length<=1048576) (hz:∀l∈c,Tz l.2):∀i,i<=c.length-> ∀p:Option Lt,(p=none↔i=0)->(∀q,p=some q-> ∃h:i - 1 < c.length,c[i - 1]=q)->
  jlT (vi (i:Nat)) (.sl 3 (c.map jC))=some (vb (ZI p (c.drop i)),[]):=by
 refine upto ?_ ?_
 ·intro p _ _;rw [jux,List.drop_length];have:ZI p []=true:=by cases p<;>rfl
  rw [this];simp only [jd]
 ·intro i hi ih p hp hq;have hlt:(i:Int) < ((c.length:Nat):Int):=by omega
  have h5:=jr hi (by show c.length<=9223372036854775807;omega)
  have e1:=jfs c[i].2 (hz _ (List.getElem_mem hi)).wf (hz _ (List.getElem_mem hi));have ix:=ja (k:=3) (f:=jC) hi;have ad:yJ (.elt (jC c[i]) 0) 1=some (.elt (jC c[i]) 1):=rfl;have ld:jZ 2 (.elt (jC c[i]) 1)=some (tm c[i].2):=rfl;rw [jux,jo hi];cases ha:yC c[i].2 with
  | false=>
   rw [ha] at e1;have:ZI p (c[i]::c.drop (i+1))=false:=by cases p<;>rw [ZI,ha]<;>rfl
   rw [this];simp only [jd,hlt,ix,ad,ld,e1]
  | true=>
   rw [ha] at e1;have ih1:=ih (some c[i]) (by simp) (λq hq=>by cases hq;exact ⟨by simpa using hi,rfl⟩);cases p with
   | none=>
    have h0:i=0:=hp.1 rfl;have hg:¬(0:Int) < (i:Int):=by omega
    rw [ZI,ha,Bool.true_and,<-ih1];simp only [jd,hlt,ix,ad,ld,e1,hg,h5]
   | some q=>
    obtain ⟨hq1,hq2⟩:=hq q rfl;have hi0:¬i=0:=λh=>by have:=hp.2 h;cases this
    have hg:(0:Int) < (i:Int):=by omega
    have c1:ck ((i:Int) - 1)=some (vi ((i - 1:Nat):Int)):=by rw [show (i:Int) - 1=((i - 1:Nat):Int) by omega,jG (by omega) (by omega)]
    have ix2:=ja (k:=3) (f:=jC) hq1;rw [hq2] at ix2;have hqz:Tz q.2:=by rw [<-hq2];exact hz _ (List.getElem_mem hq1)
    have e2:=KH q c[i] hqz (hz _ (List.getElem_mem hi));rw [ZI,ha,Bool.true_and];by_cases hc:cmpL q c[i] < 0
    ·have hc':¬(0:Int)<=cmpL q c[i]:=by omega
     rw [decide_eq_true hc,Bool.true_and,<-ih1];generalize cmpL q c[i]=d at *;simp only [jd,hlt,ix,ad,ld,zN,e1,hg,c1,ix2,e2,hc',h5]
    ·have hc':(0:Int)<=cmpL q c[i]:=by omega
     rw [decide_eq_false hc];generalize cmpL q c[i]=d at *;simp only [jd,hlt,ix,ad,ld,zN,e1,hg,c1,ix2,e2,hc',Bool.false_and]
theorem KY (c:jO) (hl:c.length<=1048576) (hz:∀l∈c,Tz l.2):G 31 [cm c]=some (vb (zs c),[]):=by
 have key:=jka c hl hz 0 (Nat.zero_le _) none (by simp) (λq h=>by cases h);rw [List.drop_zero] at key;simp only [Int.natCast_zero] at key;rw [g31,<-jf4];by_cases h8:c.length<=8
 ·have h8':¬(8:Int) < ((c.length:Nat):Int):=by omega
  rw [decide_eq_true h8,Bool.and_true];simp only [jd,h8',key]
 ·have h8':(8:Int) < ((c.length:Nat):Int):=by omega
  rw [decide_eq_false h8,Bool.and_false];simp only [jd,h8']
theorem jwL (l:List (List UInt8)) (n:List UInt8):(vnA l n).length<=l.length+1:=by
 unfold vnA;split
 ·omega
 ·simp
theorem jvb {n:Nat} (h:n<=4194304):jB n 16=true:=by
 unfold jB;exact decide_eq_true ⟨by omega,by omega⟩
theorem jaA:∀(t:T) (l:List (List UInt8)),(Jn l t).length<=l.length+nodes t:=by
 refine T.ind λt ih l=> ?_;have hn:=jP t;rw [jhs];split
 ·have:=jwL l t.name;omega
 ·have key:∀us:List T,(∀u∈us,u∈t.args)-> ∀l:List (List UInt8),(Ye l us).length<=l.length+jD us:=by
   intro us;induction us with
   | nil=>intro _ l;simp [Ye,jD]
   | cons u us ih2=>
    intro hu l;have h1:=ih u (hu u (by simp)) l;have h2:=ih2 (λv hv=>hu v (by simp [hv])) (Jn l u);rw [Ye,jD];omega
  have:=key t.args (λ_ h=>h) l;omega
theorem jk6:∀t:T,Tz t-> ∀l:List (List UInt8),l.length+nodes t<=4000000->jgi (tm t) (l.map cs)=some (.top,[.sl 1 ((Jn l t).map cs)]):=by
 refine T.ind λt ih ht l hl=> ?_;have hz:=ht;unfold Tz at hz;rw [kO] at hz;have hn:=jP t;have e0:=zt t.name (((kV t).1 ht.wf).1);have e1:=jmG l t.name (by show l.length<=9223372036854775807;omega);have key:=upto (P:=λi=>∀l:List (List UInt8),l.length+jD (t.args.drop i)<=4000000->QZ (vi (i:Nat)) (sv t.name) (jY t.args) (l.map cs)=some (.top,[.sl 1 ((Ye l (t.args.drop i)).map cs)])) (n:=t.args.length) ?_ ?_ 0 (Nat.zero_le _);rotate_left
 ·intro l _;rw [jdK,List.drop_length];simp only [jd];rfl
 ·intro i hi ihi l hl;have hlt:(i:Int) < ((t.args.length:Nat):Int):=by omega
  have h5:=jr hi (by show t.args.length<=9223372036854775807;omega)
  rw [jo hi,jD] at hl;have q:=ih t.args[i] (List.getElem_mem hi) (ht.args _ (List.getElem_mem hi)) l (by omega);have hln:=jaA t.args[i] l;have q2:=ihi (Jn l t.args[i]) (by omega);rw [jdK,jo hi,Ye];generalize Jn l t.args[i]=l' at *;have hr:hR 1 (A.top,[.sl 1 (l'.map cs)]) 0=some (l'.map cs):=rfl;simp only [jd,hlt,ja hi,jl,q,hr,h5,q2]
 have e2:QY (vi 0) (sv t.name) (jY t.args) (l.map cs)=some (.top,[.sl 1 ((Ye l t.args).map cs)]):=by
  have key:=key l (by rw [List.drop_zero];omega)
  rw [List.drop_zero] at key;have:QY (vi 0) (sv t.name) (jY t.args) (l.map cs)=QZ (vi 0) (sv t.name) (jY t.args) (l.map cs):=by rw [jqh,jdK]
  rw [this];exact key
 rw [jvJ,jhs];cases hv:jk t.name<;>rw [hv] at e0
 ·rw [if_neg Bool.false_ne_true];simp only [jd,e0,e2]
 ·rw [if_pos rfl];unfold vnA;cases hc:l.contains t.name<;>rw [hc] at e1
  ·have f:jB (l.length+1) 16=true:=jvb (by omega);rw [if_neg Bool.false_ne_true,List.map_append];simp only [jd,e0,e1,f];rfl
  ·rw [if_pos rfl];simp only [jd,e0,e1]
theorem jdR (c:jO) (hl:c.length<=1000) (hz:∀l∈c,Tz l.2) (hs:∀l∈c,nodes l.2<=1000):G 80 [cm c]=some (.sl 1 ((j8 c).map cs),[]):=by
 have key:=upto (P:=λi=>∀l:List (List UInt8),l.length<=1000 * i->jh2 (vi (i:Nat)) (.sl 3 (c.map jC)) (l.map cs)=some (.sl 1 (((c.drop i).foldl (λl x=>Jn l x.2) l).map cs),[])) (n:=c.length) ?_ ?_ 0 (Nat.zero_le _)
 ·have key:=key [] (by simp);rw [List.drop_zero] at key;have key:jh2 (vi 0) (.sl 3 (c.map jC)) []=some (.sl 1 ((j8 c).map cs),[]):=key;rw [g80];simp only [jd,key]
 ·intro l _;rw [juS,List.drop_length];simp only [jd];rfl
 ·intro i hi ih l hll;have hlt:(i:Int) < ((c.length:Nat):Int):=by omega
  have h5:=jr hi (by show c.length<=9223372036854775807;omega)
  have ix:=ja (k:=3) (f:=jC) hi;have ad:yJ (.elt (jC c[i]) 0) 1=some (.elt (jC c[i]) 1):=rfl;have ld:jZ 2 (.elt (jC c[i]) 1)=some (tm c[i].2):=rfl;have hn:=hs _ (List.getElem_mem hi);have q:=jk6 c[i].2 (hz _ (List.getElem_mem hi)) l (by omega);have hol:=jaA c[i].2 l;have q2:=ih (Jn l c[i].2) (by omega);rw [juS,jo hi,List.foldl_cons];generalize Jn l c[i].2=l' at *;have hr:hR 1 (A.top,[.sl 1 (l'.map cs)]) 0=some (l'.map cs):=rfl;simp only [jd,hlt,ix,ad,ld,q,hr,h5,q2]
theorem jim:∀t:T,Rx' t->Tz t-> ∀l:List (List UInt8),l.length+nodes t<=4000000->jgh (sv t.name) (jY t.args) (l.map cs)=some (.top,[.sl 1 ((Jn l t).map cs)]):=by
 refine T.ind λt ih hk ht l hl=> ?_;have hz:=ht;unfold Tz at hz;rw [kO] at hz;have hn:=jP t;have e0:=zB t (hk.imp id λh=>h.1);have e1:=Qg l t.name (by show l.length<=9223372036854775807;omega);have key:=upto (P:=λi=>∀l:List (List UInt8),l.length+jD (t.args.drop i)<=4000000->QX (jY t.args) (vi (t.args.length:Nat)) (vi (i:Nat)) (l.map cs)=some (.top,[.sl 1 ((Ye l (t.args.drop i)).map cs)])) (n:=t.args.length) ?_ ?_ 0 (Nat.zero_le _);rotate_left
 ·intro l _;rw [jdJ,List.drop_length];simp only [jd];rfl
 ·intro i hi ihi l hl;have hlt:(i:Int) < ((t.args.length:Nat):Int):=by omega
  have h5:=jr hi (by show t.args.length<=9223372036854775807;omega)
  rw [jo hi,jD] at hl;have q:=ih t.args[i] (List.getElem_mem hi) (hk.args _ (List.getElem_mem hi)) (ht.args _ (List.getElem_mem hi)) l (by omega);have hln:=jaA t.args[i] l;have q2:=ihi (Jn l t.args[i]) (by omega);rw [jdJ,jo hi,Ye];generalize Jn l t.args[i]=l' at *;have hr:hR 1 (A.top,[.sl 1 (l'.map cs)]) 0=some (l'.map cs):=rfl;simp only [jd,hlt,ja hi,jl,q,hr,h5,q2]
 have e2:QW (jY t.args) (vi (t.args.length:Nat)) (vi 0) (l.map cs)=some (.top,[.sl 1 ((Ye l t.args).map cs)]):=by
  have key:=key l (by rw [List.drop_zero];omega)
  rw [List.drop_zero] at key;have:∀n:A,QW (jY t.args) n (vi 0) (l.map cs)=QX (jY t.args) n (vi 0) (l.map cs):=λn=>by rw [jqb,jdJ]
  rw [this];exact key
 rw [jvI,jhs];cases hv:jk t.name<;>rw [hv] at e0
 ·rw [if_neg Bool.false_ne_true];by_cases hl0:((t.args.length:Nat):Int)=0
  ·simp only [jd,hl0,e0];rw [hl0] at e2;exact e2
  ·simp only [jd,hl0,e2]
 ·have ha:t.args = []:=by
   rcases hk with h|h
   ·exact Zb h hv
   ·rw [h.1] at hv;exact absurd hv (by decide)
  have hl0:((t.args.length:Nat):Int)=0:=by rw [ha];rfl
  rw [if_pos rfl];unfold vnA;cases hc:l.contains t.name<;>rw [hc] at e1
  ·have f:jB (l.length+1) 16=true:=jvb (by omega);rw [if_neg Bool.false_ne_true,List.map_append];simp only [jd,hl0,e0,e1,f];rfl
  ·rw [if_pos rfl];simp only [jd,hl0,e0,e1]
theorem jd4 (c:jO) (hl:c.length<=1000) (hk:∀l∈c,Rx' l.2) (hz:∀l∈c,Tz l.2) (hs:∀l∈c,nodes l.2<=1000):G 75 [cm c]=some (.sl 1 ((j8 c).map cs),[]):=by
 have key:=upto (P:=λi=>∀l:List (List UInt8),l.length<=1000 * i->jh1 (.sl 3 (c.map jC)) (vi (c.length:Nat)) (vi (i:Nat)) (l.map cs)=some (.sl 1 (((c.drop i).foldl (λl x=>Jn l x.2) l).map cs),[])) (n:=c.length) ?_ ?_ 0 (Nat.zero_le _)
 ·have key:=key [] (by simp);rw [List.drop_zero] at key;have key:jh1 (.sl 3 (c.map jC)) (vi (c.length:Nat)) (vi 0) []=some (.sl 1 ((j8 c).map cs),[]):=key;rw [g75];simp only [jd,key]
 ·intro l _;rw [juP,List.drop_length];simp only [jd];rfl
 ·intro i hi ih l hll;have hlt:(i:Int) < ((c.length:Nat):Int):=by omega
  have h5:=jr hi (by show c.length<=9223372036854775807;omega)
  have ix:=ja (k:=3) (f:=jC) hi;have hn:=hs _ (List.getElem_mem hi);have q:=jim c[i].2 (hk _ (List.getElem_mem hi)) (hz _ (List.getElem_mem hi)) l (by omega);have hol:=jaA c[i].2 l;have q2:=ih (Jn l c[i].2) (by omega);rw [juP,jo hi,List.foldl_cons];generalize Jn l c[i].2=l' at *;have hr:hR 1 (A.top,[.sl 1 (l'.map cs)]) 0=some (l'.map cs):=rfl;simp only [jd,hlt,ix,zN,q,hr,h5,q2]
abbrev yv:=List (T × T)
def jif:ju->Bool
 | []=>true
 | [_]=>true
 | p::q::s=>zF p.1 q.1 && jif (q::s)
noncomputable def jy (s:ju):Bool:=decide (s.length<=12) && (jif s && s.all λq=>jk q.1 && (kW q.2 && !dq q.2.name q.1))
def ky (s u:ju):ju:=QJ (s.map (λq=>(q.1,sub u q.2))++u.filter λq=>(look s q.1).isNone)
def jg (x y:T):List UInt8 × T:=if jk x.name=false\/(jk y.name=true/\zF x.name y.name=true) then (y.name,x) else (x.name,y)
noncomputable def kX (s:ju) (l r:T) (rest:yv):Option (ju × yv):=
 if jE (sub s l)=false\/jE (sub s r)=false then none
 else if dq (sub s l) (sub s r) then some (s,rest)
 else if jk (sub s l).name=true\/jk (sub s r).name=true then
  (if (jg (sub s l) (sub s r)).1∈jS (jg (sub s l) (sub s r)).2\/jy [jg (sub s l) (sub s r)]=false\/jy (ky s [jg (sub s l) (sub s r)])=false then none else some (ky s [jg (sub s l) (sub s r)],rest))
 else if (sub s l).name=(sub s r).name/\(sub s l).args.length=(sub s r).args.length then some (s,(sub s l).args.zip (sub s r).args++rest) else none
noncomputable def km:Nat->ju->yv->Option (Option ju)
 | _,s,[]=>some (some s)
 | 0,_,_::_=>none
 | k+1,s,p::rest=>(match kX s p.1 p.2 rest with|none=>some none|some q=>km k q.1 q.2)
def Exx (t:T):Prop:=(z6 t=true\/(t.name = [61]/\t.args.length=2/\ ∀u∈t.args,z6 u=true))/\nodes t<=31
def IdS (s:ju):Prop:=∀q∈s,∀x∈jS q.2,look s x=none
def qZ (s:ju) (es:yv):Prop:=jy s=true/\IdS s/\ ∀p∈es,Exx p.1/\Exx p.2
theorem jF {s:ju} (h:jy s=true):s.length<=12/\jif s=true/\ ∀q∈s,jk q.1=true/\kW q.2=true/\q.2.name≠q.1:=by
 unfold jy at h;rw [Bool.and_eq_true,decide_eq_true_eq,Bool.and_eq_true,List.all_eq_true] at h;refine ⟨h.1,h.2.1,λq hq=> ?_⟩;have:=h.2.2 q hq;rw [Bool.and_eq_true,Bool.and_eq_true,Bool.not_eq_true'] at this;exact ⟨this.1,this.2.1,λe=>by rw [e,jak] at this;exact absurd this.2.2 (by decide)⟩
theorem Y3 {t:T} (h:kW t=true):z6 t=true:=by
 unfold kW at h;rw [Bool.and_eq_true] at h;exact h.2
theorem vsv {t:T} (h:jk t.name=true):jS t = [t.name]:=by rw [qu,h,if_pos rfl]
theorem vsf {t:T} (h:jk t.name=false):jS t=zf t.args:=by rw [qu,h,if_neg Bool.false_ne_true]
theorem zQ {x:List UInt8} :∀ {ts:List T},x∈zf ts↔ ∃t∈ts,x∈jS t
 | []=>by simp [zf]
 | t::ts=>by rw [zf,List.mem_append,zQ];simp
theorem Ka {s:ju} (hs:IdS s):∀(w:T) {x:List UInt8},x∈jS (sub s w)->look s x=none:=by
 refine T.ind (p:=λw=>∀ {x:List UInt8},x∈jS (sub s w)->look s x=none) λw ih=> ?_;intro x hx;cases hv:jk w.name with
 | true=>
  rw [qX hv,Ji] at hx;cases hl:look s w.name with
  | some r=>rw [hl] at hx;exact hs _ (Kq hl) x hx
  | none=>
   rw [hl] at hx;have hx:x∈jS (.mk w.name []):=hx;rw [vsv (t:= .mk w.name []) hv,List.mem_singleton] at hx;rw [hx];exact hl
 | false=>
  rw [yB hv,vsf (t:= .mk w.name (w.args.map (sub s))) hv,zQ] at hx;obtain ⟨t,ht,hx⟩:=hx;obtain ⟨a,ha,rfl⟩:=List.mem_map.1 ht;exact ih a ha hx
theorem jf8 {n:List UInt8} {t:T} :∀(w:T) {x:List UInt8},x∈jS (sub [(n,t)] w)->(x∈jS w/\x≠n)\/x∈jS t:=by
 refine T.ind (p:=λw=>∀ {x:List UInt8},x∈jS (sub [(n,t)] w)->(x∈jS w/\x≠n)\/x∈jS t) λw ih=> ?_;intro x hx;cases hv:jk w.name with
 | true=>
  rw [qX hv,Ji] at hx;by_cases hn:n=w.name
  ·have:look [(n,t)] w.name=some t:=by rw [look,if_pos hn]
   rw [this] at hx;exact Or.inr hx
  ·have:look [(n,t)] w.name=none:=by rw [look,if_neg hn,look]
   rw [this] at hx;have hx:x∈jS (.mk w.name []):=hx;rw [vsv (t:= .mk w.name []) hv,List.mem_singleton] at hx;left;rw [vsv hv,hx];exact ⟨by simp [T.name],λe=>hn e.symm⟩
 | false=>
  rw [yB hv,vsf (t:= .mk w.name (w.args.map (sub [(n,t)]))) hv,zQ] at hx;obtain ⟨u,hu,hx⟩:=hx;obtain ⟨a,ha,rfl⟩:=List.mem_map.1 hu;rcases ih a ha hx with ⟨h1,h2⟩|h
  ·left;rw [vsf hv,zQ];exact ⟨⟨a,ha,h1⟩,h2⟩
  ·exact Or.inr h
theorem jbw {s:ju} :∀(w:T),z6 w=true->(∀x∈jS w,look s x=none)->sub s w=w:=by
 refine T.ind λw ih=> ?_;intro hk h;cases hv:jk w.name with
 | true=>
  rw [qX hv,Ji,h w.name (by rw [vsv hv];simp)]
  have ha:=Zb hk hv;show T.mk w.name []=w;rw [<-ha,T.eta]
 | false=>
  rw [yB hv];have:w.args.map (sub s)=w.args:=by
   conv=>rhs;rw [<-List.map_id w.args]
   refine List.map_congr_left λa ha=>ih a ha (zE hk a ha) λx hx=>h x ?_;rw [vsf hv,zQ];exact ⟨a,ha,hx⟩
  rw [this,T.eta]
theorem jep {s:ju} {n:List UInt8} {t:T} {q:List UInt8 × T} :q∈KI s n t↔q∈s\/q=(n,t):=by
 unfold KI;have e:=List.takeWhile_append_dropWhile (p:=λp:List UInt8 × T=>zF p.1 n) (l:=s);constructor
 ·intro h;rcases List.mem_append.1 h with h|h
  ·left;rw [<-e];exact List.mem_append_left _ h
  ·rcases List.mem_cons.1 h with h|h
   ·exact Or.inr h
   ·left;rw [<-e];exact List.mem_append_right _ h
 ·rintro (h|h)
  ·rw [<-e] at h;rcases List.mem_append.1 h with h|h
   ·exact List.mem_append_left _ h
   ·exact List.mem_append_right _ (List.mem_cons_of_mem _ h)
  ·rw [h];exact List.mem_append_right _ (List.mem_cons_self ..)
theorem jrp (s:ju) (n:List UInt8) (t:T):(KI s n t).length=s.length+1:=by
 unfold KI;have e:=congrArg List.length (List.takeWhile_append_dropWhile (p:=λp:List UInt8 × T=>zF p.1 n) (l:=s));rw [List.length_append] at e;rw [List.length_append,List.length_cons];omega
theorem Ks:∀(m s:ju),(∀q∈m,q.2.name≠q.1)->(m.foldl (λs p=>Kf s p.1 p.2) s).length=s.length+m.length/\ ∀q,q∈m.foldl (λs p=>Kf s p.1 p.2) s↔q∈s\/q∈m
 | [],s,_=>⟨rfl,λq=>by simp⟩
 | p::m,s,h=>by
  rw [List.foldl_cons];have e:Kf s p.1 p.2=KI s p.1 p.2:=if_neg (h p (by simp));obtain ⟨h1,h2⟩:=Ks m (Kf s p.1 p.2) λq hq=>h q (by simp [hq]);refine ⟨by rw [h1,e,jrp,List.length_cons];omega,λq=> ?_⟩;rw [h2,e,jep,List.mem_cons,or_assoc]
theorem jdl {s:ju} (hs:jy s=true) (hi:IdS s) {n:List UInt8} {t:T} (hn:jk n=true) (hd:look s n=none) (ht:∀x∈jS t,look s x=none) (ho:n ∉ jS t) (htn:t.name≠n) :
  (ky s [(n,t)]).length=s.length+1/\IdS (ky s [(n,t)])/\(∀q,q∈ky s [(n,t)]↔(∃p∈s,q=(p.1,sub [(n,t)] p.2))\/q=(n,t))/\ ∀q∈s.map (λq=>(q.1,sub [(n,t)] q.2))++[(n,t)],q.2.name≠q.1:=by
 obtain ⟨_,_,hv⟩:=jF hs;have hf:([(n,t)]:ju).filter (λq=>(look s q.1).isNone) = [(n,t)]:=by simp [hd]
 have hname:∀q∈s.map (λq=>(q.1,sub [(n,t)] q.2))++[(n,t)],q.2.name≠q.1:=by
  intro q hq;rcases List.mem_append.1 hq with hq|hq
  ·obtain ⟨p,hp,rfl⟩:=List.mem_map.1 hq;intro e;have e:(sub [(n,t)] p.2).name=p.1:=e;have hx:p.1∈jS (sub [(n,t)] p.2):=by rw [vsv (by rw [e];exact (hv p hp).1),e];simp
   have hk:look s p.1≠none:=λh=>qI.1 h p hp rfl;rcases jf8 _ hx with ⟨h1,_⟩|h1
   ·exact hk (hi p hp _ h1)
   ·exact hk (ht _ h1)
  ·simp only [List.mem_singleton] at hq;rw [hq];exact htn
 obtain ⟨f1,f2⟩:=Ks _ [] hname;have hm:∀q,q∈ky s [(n,t)]↔(∃p∈s,q=(p.1,sub [(n,t)] p.2))\/q=(n,t):=by
  intro q;unfold ky QJ;rw [hf,f2];simp only [List.not_mem_nil,false_or,List.mem_append,List.mem_map,List.mem_singleton];constructor
  ·rintro (⟨p,h1,h2⟩|h)
   ·exact Or.inl ⟨p,h1,h2.symm⟩
   ·exact Or.inr h
  ·rintro (⟨p,h1,h2⟩|h)
   ·exact Or.inl ⟨p,h1,h2.symm⟩
   ·exact Or.inr h
 refine ⟨?_,?_,hm,hname⟩
 ·unfold ky QJ;rw [hf,f1,List.length_append,List.length_map];simp
 ·intro q hq x hx;have hxn:x≠n/\look s x=none:=by
   rcases (hm q).1 hq with ⟨p,hp,rfl⟩|rfl
   ·rcases jf8 _ hx with ⟨h1,h2⟩|h1
    ·exact ⟨h2,hi p hp _ h1⟩
    ·exact ⟨λe=>ho (e ▸ h1),ht _ h1⟩
   ·exact ⟨λe=>ho (e ▸ hx),ht _ hx⟩
  refine qI.2 λp hp e=> ?_;rcases (hm p).1 hp with ⟨p',hp',rfl⟩|rfl
  ·exact qI.1 hxn.2 p' hp' e
  ·exact hxn.1 e.symm
def mz (s:ju):yv->Nat
 | []=>0
 | p::r=>nodes (sub s p.1)+nodes (sub s p.2)+mz s r
theorem jfy (s:ju):∀a b:yv,mz s (a++b)=mz s a+mz s b
 | [],b=>by simp [mz]
 | p::a,b=>by rw [List.cons_append,mz,mz,jfy s a b];omega
theorem jqT {s:ju} :∀(a b:List T),(∀u∈a,sub s u=u)->(∀u∈b,sub s u=u)->mz s (a.zip b)<=jD a+jD b
 | [],_,_,_=>by simp [mz]
 | _::_,[],_,_=>by simp [mz]
 | x::a,y::b,h1,h2=>by
  have:=jqT a b (λu hu=>h1 u (by simp [hu])) (λu hu=>h2 u (by simp [hu]));rw [List.zip_cons_cons,mz,h1 x (by simp),h2 y (by simp)];simp only [jD];omega
theorem Exx.sub {s:ju} (hs:jy s=true) {t:T} (h:Exx t):z6 (sub s t)=true\/((sub s t).name = [61]/\(sub s t).args.length=2/\ ∀u∈(sub s t).args,z6 u=true):=by
 obtain ⟨_,_,hv⟩:=jF hs;have ho:∀q∈s,z6 q.2=true:=λq hq=>(Y3 (hv q hq).2.1);rcases h.1 with h|⟨h1,h2,h3⟩
 ·exact Or.inl (Yx ho t h)
 ·have hvn:jk t.name=false:=by rw [h1];decide
  right;rw [yB hvn];refine ⟨h1,by show (t.args.map _).length=2;rw [List.length_map,h2],λu hu=> ?_⟩;obtain ⟨a,ha,rfl⟩:=List.mem_map.1 hu;exact Yx ho a (h3 a ha)
theorem jV {t:T} (h:jE t=true):nodes t<=30:=by
 simp only [jE,Bool.and_eq_true,decide_eq_true_eq] at h;exact h.1
theorem jmr {t:T} (h:z6 t=true\/(t.name = [61]/\t.args.length=2/\ ∀u∈t.args,z6 u=true)):∀u∈t.args,z6 u=true:=by
 rcases h with h|h
 ·exact zE h
 ·exact h.2.2
theorem j5 {s:ju} {l r:T} {rest:yv} (h:qZ s ((l,r)::rest)) {s':ju} {es:yv} (hst:kX s l r rest=some (s',es)):qZ s' es/\((s'=s/\mz s' es < mz s ((l,r)::rest))\/s'.length=s.length+1):=by
 obtain ⟨hv,hi,he⟩:=h;obtain ⟨el,er⟩:=he (l,r) (by simp);have hrest:∀p∈rest,Exx p.1/\Exx p.2:=λp hp=>he p (by simp [hp]);have xl:=el.sub hv;have xr:=er.sub hv;have nl:=K1 (sub s l);have vl:=λ{x} (hx:x∈jS (sub s l))=>Ka hi l hx;have vr:=λ{x} (hx:x∈jS (sub s r))=>Ka hi r hx;have hmz:mz s ((l,r)::rest)=nodes (sub s l)+nodes (sub s r)+mz s rest:=rfl;unfold kX at hst;split at hst
 ·cases hst
 rename_i hsm;have hs1:jE (sub s l)=true:=by
  cases h:jE (sub s l) with
  | true=>rfl
  | false=>exact absurd (Or.inl h) hsm
 have hs2:jE (sub s r)=true:=by
  cases h:jE (sub s r) with
  | true=>rfl
  | false=>exact absurd (Or.inr h) hsm
 split at hst
 ·cases hst;exact ⟨⟨hv,hi,hrest⟩,Or.inl ⟨rfl,by rw [hmz];omega⟩⟩
 split at hst
 ·rename_i hvar;split at hst
  ·cases hst
  rename_i hno;cases hst;have h1:(jg (sub s l) (sub s r)).1 ∉ jS (jg (sub s l) (sub s r)).2:=λh=>hno (Or.inl h);have h2:jy (ky s [jg (sub s l) (sub s r)])=true:=by
   cases h:jy (ky s [jg (sub s l) (sub s r)]) with
   | true=>rfl
   | false=>exact absurd (Or.inr (Or.inr h)) hno
  have h3:jy [jg (sub s l) (sub s r)]=true:=by
   cases h:jy [jg (sub s l) (sub s r)] with
   | true=>rfl
   | false=>exact absurd (Or.inr (Or.inl h)) hno
  have hb:look s (jg (sub s l) (sub s r)).1=none/\ ∀x∈jS (jg (sub s l) (sub s r)).2,look s x=none:=by
   unfold jg;split
   ·rename_i hc;have hy:jk (sub s r).name=true:=by
     rcases hc with hc|hc
     ·rcases hvar with h|h
      ·rw [hc] at h;cases h
      ·exact h
     ·exact hc.1
    exact ⟨vr (by rw [vsv hy];simp),λx hx=>vl hx⟩
   ·rename_i hc;have hx:jk (sub s l).name=true:=by
     cases h:jk (sub s l).name with
     | true=>rfl
     | false=>exact absurd (Or.inl h) hc
    exact ⟨vl (by rw [vsv hx];simp),λx hx=>vr hx⟩
  obtain ⟨_,_,h4⟩:=jF h3;obtain ⟨k1,_,k3⟩:=h4 _ (List.mem_singleton_self _);generalize jg (sub s l) (sub s r)=p at *;obtain ⟨n,t⟩:=p;obtain ⟨c1,c2,_,_⟩:=jdl hv hi k1 hb.1 hb.2 h1 k3;exact ⟨⟨h2,c2,hrest⟩,Or.inr c1⟩
 ·rename_i hnv;split at hst
  ·rename_i hnm;cases hst;have v1:jk (sub s l).name=false:=by
    cases h:jk (sub s l).name with
    | false=>rfl
    | true=>exact absurd (Or.inl h) hnv
   have v2:jk (sub s r).name=false:=by
    cases h:jk (sub s r).name with
    | false=>rfl
    | true=>exact absurd (Or.inr h) hnv
   have a1:∀u∈(sub s l).args,z6 u=true/\nodes u<=31/\sub s u=u:=λu hu=>by
    have hk:=jmr xl u hu;have:=jbg hu;have:=jV hs1;exact ⟨hk,by omega,jbw u hk λx hx=>vl (by rw [vsf v1,zQ];exact ⟨u,hu,hx⟩)⟩
   have a2:∀u∈(sub s r).args,z6 u=true/\nodes u<=31/\sub s u=u:=λu hu=>by
    have hk:=jmr xr u hu;have:=jbg hu;have:=jV hs2;exact ⟨hk,by omega,jbw u hk λx hx=>vr (by rw [vsf v2,zQ];exact ⟨u,hu,hx⟩)⟩
   refine ⟨⟨hv,hi,λp hp=> ?_⟩,Or.inl ⟨rfl,?_⟩⟩
   ·rcases List.mem_append.1 hp with hp|hp
    ·have hm:=List.of_mem_zip (a:=p.1) (b:=p.2) hp;exact ⟨⟨Or.inl (a1 _ hm.1).1,(a1 _ hm.1).2.1⟩,⟨Or.inl (a2 _ hm.2).1,(a2 _ hm.2).2.1⟩⟩
    ·exact hrest p hp
   ·have:=jqT (s:=s) (sub s l).args (sub s r).args (λu hu=>(a1 u hu).2.2) (λu hu=>(a2 u hu).2.2);have e1:=jP (sub s l);have e2:=jP (sub s r);rw [jfy,hmz];omega
  ·cases hst
theorem jlH:∀(m1 m2:Nat) (s:ju) (es:yv),qZ s es->13 - s.length<=m1->mz s es<=m2-> ∃k res,km k s es=some res:=by
 intro m1;induction m1 with
 | zero=>
  intro m2 s es h h1;have:=(jF h.1).1;omega
 | succ m1 ih1=>
  intro m2;induction m2 with
  | zero=>
   intro s es h _ h2;cases es with
   | nil=>exact ⟨0,_,rfl⟩
   | cons p es=>
    have:=K1 (sub s p.1);simp only [mz] at h2;omega
  | succ m2 ih2=>
   intro s es h h1 h2;cases es with
   | nil=>exact ⟨0,_,rfl⟩
   | cons p es=>
    obtain ⟨l,r⟩:=p;cases hst:kX s l r es with
    | none=>exact ⟨1,none,by rw [km,hst]⟩
    | some q=>
     obtain ⟨s',es'⟩:=q;obtain ⟨hinv,hor⟩:=j5 h hst;have hl:=(jF h.1).1;rcases hor with ⟨e,hlt⟩|e
     ·obtain ⟨k,res,hk⟩:=ih2 s' es' hinv (by rw [e];exact h1) (by omega)
      exact ⟨k+1,res,by rw [km,hst];exact hk⟩
     ·obtain ⟨k,res,hk⟩:=ih1 (mz s' es') s' es' hinv (by omega) (Nat.le_refl _);exact ⟨k+1,res,by rw [km,hst];exact hk⟩
theorem jj1:∀(k:Nat) (s:ju) (es:yv) {u:ju},qZ s es->km k s es=some (some u)->jy u=true/\IdS u:=by
 intro k;induction k with
 | zero=>
  intro s es u h hu;cases es with
  | nil=>simp only [km,Option.some.injEq] at hu;rw [<-hu];exact ⟨h.1,h.2.1⟩
  | cons p es=>simp [km] at hu
 | succ k ih=>
  intro s es u h hu;cases es with
  | nil=>simp only [km,Option.some.injEq] at hu;rw [<-hu];exact ⟨h.1,h.2.1⟩
  | cons p es=>
   obtain ⟨l,r⟩:=p;rw [km] at hu;cases hst:kX s l r es with
   | none=>rw [hst] at hu;simp at hu
   | some q=>
    rw [hst] at hu;exact ih q.1 q.2 (j5 h hst).1 hu
def Bx (t:T):Prop:=(t.name = [61]/\t.args.length=2/\ ∀u∈t.args,z6 u=true)\/(ye t.name=true/\z6 t=true)
theorem Bx.rx {t:T} (h:Bx t):Rx' t:=h.elim (λh=>Or.inr ⟨h.1,h.2.2⟩) λh=>Or.inl h.2
theorem Bx.ax {t:T} (h:Bx t):z6 t=true\/(t.name = [61]/\t.args.length=2/\ ∀u∈t.args,z6 u=true):=h.elim Or.inr λh=>Or.inl h.2
theorem Bx.args {t:T} (h:Bx t):∀u∈t.args,z6 u=true:=h.elim (λh=>h.2.2) λh=>zE h.2
theorem jlC {n:List UInt8} (h:ye n=true):jk n=false:=by
 cases hv:jk n with
 | false=>rfl
 | true=>rw [jlD hv] at h;cases h
theorem Bx.nv {t:T} (h:Bx t):jk t.name=false:=h.elim (λh=>by rw [h.1];decide) λh=>jlC h.1
theorem jxd {t:T} (h:t.args.length=2):t.args = [jgR t,jky t]:=by
 obtain ⟨n,us⟩:=t
 match us,h with
 | [a,b],_=>rfl
theorem jab {t:T} :yC t=true↔Bx t/\jE t=true:=by
 unfold yC Bx;by_cases he:t.name = [61]
 ·rw [if_pos he];unfold jeW;rw [Bool.and_eq_true,Bool.and_eq_true,Bool.and_eq_true,decide_eq_true_eq];constructor
  ·rintro ⟨h1,h2,h3,h4⟩;refine ⟨Or.inl ⟨he,h1,λu hu=> ?_⟩,h2⟩;rw [jxd h1] at hu;simp only [List.mem_cons,List.not_mem_nil,or_false] at hu;rcases hu with rfl|rfl
   ·exact h3
   ·exact h4
  ·rintro ⟨h|h,h2⟩
   ·obtain ⟨_,_,ma,mb⟩:=YI h.2.1;exact ⟨h.2.1,h2,h.2.2 _ ma,h.2.2 _ mb⟩
   ·rw [he] at h;exact absurd h.1 (by decide)
 ·rw [if_neg he];unfold kW;rw [Bool.and_eq_true,Bool.and_eq_true];constructor
  ·rintro ⟨h1,h2,h3⟩;exact ⟨Or.inr ⟨h1,h3⟩,h2⟩
  ·rintro ⟨h|h,h2⟩
   ·exact absurd h.1 he
   ·exact ⟨h.1,h2,h.2⟩
theorem Bx.atom {t:T} (h:Bx t):yC t=jE t:=by
 cases hs:jE t with
 | true=>exact jab.2 ⟨h,hs⟩
 | false=>
  cases ha:yC t with
  | false=>rfl
  | true=>rw [(jab.1 ha).2] at hs;cases hs
theorem Bx.tsz {t:T} (h:Bx t):tsz t<=10 * nodes t:=by
 rcases h with h|h
 ·rw [kO,jP,h.1,h.2.1];have:=jmQ h.2.2;simp only [List.length_cons,List.length_nil];omega
 ·exact jbj t h.2
theorem Bx.tz {t:T} (h:Bx t) (hn:nodes t<=100000):Tz t:=by have:=h.tsz;unfold Tz;omega
theorem Bx.exx {t:T} (h:Bx t) (hn:nodes t<=31):Exx t:=⟨h.ax,hn⟩
theorem Bx.sub {s:ju} (hs:jy s=true) {t:T} (h:Bx t):Bx (sub s t):=by
 obtain ⟨_,_,hv⟩:=jF hs;have ho:∀q∈s,z6 q.2=true:=λq hq=>Y3 (hv q hq).2.1;have hn:=h.nv;rcases h with h|h
 ·left;rw [Yw hn,K6 hn,List.length_map];refine ⟨h.1,h.2.1,λu hu=> ?_⟩;obtain ⟨a,ha,rfl⟩:=List.mem_map.1 hu;exact Yx ho a (h.2.2 a ha)
 ·right;rw [Yw hn];exact ⟨h.1,Yx ho t h.2⟩
theorem JH {s:ju} (hs:jy s=true):∀q∈s,nodes q.2<=30:=λq hq=>by
 have:=((jF hs).2.2 q hq).2.1;unfold kW at this;rw [Bool.and_eq_true] at this;exact jV this.1
theorem qf {s:ju} (hs:jy s=true):∀q∈s,z6 q.2=true:=λq hq=>Y3 ((jF hs).2.2 q hq).2.1
theorem joN:jy []=true:=by unfold jy;simp [jif]
mutual
theorem jfQ (f:List UInt8->List UInt8):∀t:T,nodes (kg f t)<=nodes t
 | .mk n us=>by
  rw [kg];split
  ·have:=K1 (.mk n us);show 1+0<=_;omega
  ·have:=jex f us;simp only [nodes];omega
theorem jex (f:List UInt8->List UInt8):∀ts:List T,jD (Jp f ts)<=jD ts
 | []=>Nat.le_refl _
 | t::ts=>by have:=jfQ f t;have:=jex f ts;simp only [Jp,jD];omega
end
mutual
theorem jtF (f:List UInt8->List UInt8):∀t:T,yI (kg f t)<=yI t
 | .mk n us=>by
  rw [kg];split
  ·rw [JW (.mk n us)];show 1+0<=_;omega
  ·have:=jjz f us;simp only [yI];omega
theorem jjz (f:List UInt8->List UInt8):∀ts:List T,KB (Jp f ts)<=KB ts
 | []=>Nat.le_refl _
 | t::ts=>by have:=jtF f t;have:=jjz f ts;simp only [Jp,KB];omega
end
theorem Yo {f:List UInt8->List UInt8} {t:T} (h:jk t.name=false):(kg f t).name=t.name:=by rw [Kv,h,if_neg Bool.false_ne_true];rfl
theorem K3 {f:List UInt8->List UInt8} {t:T} (h:jk t.name=false):(kg f t).args=t.args.map (kg f):=by rw [Kv,h,if_neg Bool.false_ne_true];rfl
theorem jrt {f:List UInt8->List UInt8} (hf:∀n,jk n=true->jk (f n)=true):∀t:T,z6 t=true->z6 (kg f t)=true:=by
 refine T.ind λt ih h=> ?_;cases hv:jk t.name with
 | true=>rw [Kv,hv,if_pos rfl];exact jq0 _ (hf _ hv)
 | false=>
  have hk:=h;rw [yd,hv,if_neg Bool.false_ne_true,Bool.and_eq_true,Bool.and_eq_true,decide_eq_true_eq] at h;rw [yd,Yo hv,K3 hv,hv,if_neg Bool.false_ne_true,Bool.and_eq_true,Bool.and_eq_true,decide_eq_true_eq,List.length_map,qo,List.all_eq_true];refine ⟨h.1,h.2.1,λu hu=> ?_⟩;obtain ⟨a,ha,rfl⟩:=List.mem_map.1 hu;exact ih a ha (zE hk a ha)
theorem Bx.ren {f:List UInt8->List UInt8} (hf:∀n,jk n=true->jk (f n)=true) {t:T} (h:Bx t):Bx (kg f t):=by
 have hn:=h.nv;rcases h with h|h
 ·left;rw [Yo hn,K3 hn,List.length_map];refine ⟨h.1,h.2.1,λu hu=> ?_⟩;obtain ⟨a,ha,rfl⟩:=List.mem_map.1 hu;exact jrt hf a (h.2.2 a ha)
 ·right;rw [Yo hn];exact ⟨h.1,jrt hf t h.2⟩
theorem jba:∀d:Nat,d < 10->yL (UInt8.ofNat (48+d))=true:=by decide
theorem yj {u:Nat} (h:u < 10):Lib.decDigits u = [UInt8.ofNat (48+u)]:=Lib.decDigits_one h
theorem qF {u:Nat} (h:¬u < 10):Lib.decDigits u=Lib.decDigits (u / 10)++[UInt8.ofNat (48+u % 10)]:=by rw [Lib.decDigits,dif_neg h]
theorem yw:∀(k u:Nat),u < 10 ^ (k+1)->(Lib.decDigits u).all yL=true/\(Lib.decDigits u).length<=k+1
 | 0,u,h=>by rw [yj (by omega)];exact ⟨by rw [List.all_cons,jba u (by omega),List.all_nil];rfl,by simp⟩
 | k+1,u,h=>by
  by_cases hu:u < 10
  ·rw [yj hu];exact ⟨by rw [List.all_cons,jba u hu,List.all_nil];rfl,by simp⟩
  ·obtain ⟨h1,h2⟩:=yw k (u / 10) (by rw [Nat.pow_succ] at h;omega)
   rw [qF hu,List.all_append,h1,List.length_append];exact ⟨by rw [List.all_cons,jba (u % 10) (by omega),List.all_nil];rfl,by simp only [List.length_cons,List.length_nil];omega⟩
theorem jpB:∀a:Nat,a < 10-> ∀b:Nat,b < 10->UInt8.ofNat (48+a)=UInt8.ofNat (48+b)->a=b:=by decide
theorem jmp (a b:Nat) (h1:a < 10) (h2:b < 10) (h:UInt8.ofNat (48+a)=UInt8.ofNat (48+b)):a=b:=jpB a h1 b h2 h
theorem jkK:∀(u v:Nat),Lib.decDigits u=Lib.decDigits v->u=v:=by
 intro u;induction u using Nat.strongRecOn with
 | ind u ih=>
  intro v h;by_cases hu:u < 10<;>by_cases hv:v < 10
  ·rw [yj hu,yj hv] at h;exact jmp u v hu hv (by simpa using h)
  ·have h2:=congrArg List.length h;rw [yj hu,qF hv,List.length_append,Lib.decDigits_length] at h2;have:=Lib.nDigits_pos (v / 10);simp only [List.length_cons,List.length_nil] at h2;omega
  ·have h2:=congrArg List.length h;rw [yj hv,qF hu,List.length_append,Lib.decDigits_length] at h2;have:=Lib.nDigits_pos (u / 10);simp only [List.length_cons,List.length_nil] at h2;omega
  ·rw [qF hu,qF hv] at h;obtain ⟨h1,h2⟩:=List.append_inj' h rfl;have e1:=ih (u / 10) (by omega) (v / 10) h1;have e2:=jmp (u % 10) (v % 10) (by omega) (by omega) (by simpa using h2);omega
theorem jqW {p:UInt8} {i j:Nat} (h:yP p i=yP p j):i=j:=by
 unfold yP at h;exact jkK i j (by simpa using h)
theorem jqX {p:UInt8} (hp:upc p=true) {i:Nat} (hi:i < 1000):jk (yP p i)=true:=by
 obtain ⟨h1,h2⟩:=yw 2 i (by omega);show (upc p && ((Lib.decDigits i).all yL && decide ((Lib.decDigits i).length<=3)))=true;rw [hp,h1,decide_eq_true (by omega)];rfl
theorem jt3 {l:List (List UInt8)} {n x:List UInt8} :x∈vnA l n↔x∈l\/x=n:=by
 unfold vnA;split
 ·rename_i h;rw [List.contains_iff_mem] at h;exact ⟨Or.inl,λh'=>h'.elim id λe=>e ▸ h⟩
 ·simp
theorem joP {l:List (List UInt8)} {n:List UInt8} (h:l.Nodup):(vnA l n).Nodup:=by
 unfold vnA;split
 ·exact h
 ·rename_i hc;rw [List.contains_iff_mem] at hc;refine List.nodup_append.2 ⟨h,by simp,λa ha b hb=> ?_⟩;simp only [List.mem_singleton] at hb;rintro rfl;exact hc (hb ▸ ha)
mutual
theorem ji6:∀(t:T) (l:List (List UInt8)) (x:List UInt8),x∈Jn l t↔x∈l\/x∈jS t
 | .mk n us,l,x=>by
  rw [Jn,jS];split
  ·rw [jt3];simp
  ·exact ji5 us l x
theorem ji5:∀(ts:List T) (l:List (List UInt8)) (x:List UInt8),x∈Ye l ts↔x∈l\/x∈zf ts
 | [],l,x=>by simp [Ye,zf]
 | t::ts,l,x=>by rw [Ye,zf,ji5 ts,ji6 t,List.mem_append,or_assoc]
end
mutual
theorem jec:∀(t:T) {l:List (List UInt8)},l.Nodup->(Jn l t).Nodup
 | .mk n us,l,h=>by
  rw [Jn];split
  ·exact joP h
  ·exact jeb us h
theorem jeb:∀(ts:List T) {l:List (List UInt8)},l.Nodup->(Ye l ts).Nodup
 | [],l,h=>h
 | t::ts,l,h=>by rw [Ye];exact jeb ts (jec t h)
end
theorem jd3:∀(c:jO) (l:List (List UInt8)) (x:List UInt8),x∈c.foldl (λl x=>Jn l x.2) l↔x∈l\/ ∃y∈c,x∈jS y.2
 | [],l,x=>by simp
 | y::c,l,x=>by rw [List.foldl_cons,jd3 c,ji6,or_assoc];simp
theorem QE {c:jO} {x:List UInt8} :x∈j8 c↔ ∃y∈c,x∈jS y.2:=by unfold j8;rw [jd3];simp
theorem Zo (c:jO):(j8 c).Nodup:=by
 have:∀(c:jO) (l:List (List UInt8)),l.Nodup->(c.foldl (λl x=>Jn l x.2) l).Nodup:=by
  intro c;induction c with
  | nil=>intro l h;exact h
  | cons y c ih=>intro l h;exact ih _ (jec y.2 h)
 exact this c [] List.nodup_nil
theorem QF {c:jO} {x:List UInt8} (h:x∈j8 c):jk x=true:=by
 obtain ⟨y,_,hx⟩:=QE.1 h;exact jkb y.2 hx
def CN (c:jO):Prop:=c.length<=8/\ ∀l∈c,Bx l.2/\nodes l.2<=30
theorem yl {c:jO} (h:CN c):(j8 c).length<=240:=by
 have:∀(c:jO) (l:List (List UInt8)),(∀y∈c,nodes y.2<=30)->(c.foldl (λl x=>Jn l x.2) l).length<=l.length+30 * c.length:=by
  intro c;induction c with
  | nil=>intro l _;simp
  | cons y c ih=>
   intro l h;have h1:=jaA y.2 l;have h2:=h y (by simp);have h3:=ih (Jn l y.2) λz hz=>h z (by simp [hz]);rw [List.foldl_cons,List.length_cons];omega
 have h2:=this c [] λy hy=>(h.2 y hy).2;have h3:=h.1;rw [List.length_nil] at h2;unfold j8;omega
theorem jff {p:UInt8} {l:List (List UInt8)} {i:Nat} (hl:l.Nodup) (hi:i < l.length):ku p l l[i]=yP p i:=by
 unfold ku;have:l.findIdx? (λx=>decide (x=l[i]))=some i:=by
  rw [List.findIdx?_eq_some_iff_getElem];refine ⟨hi,by simp,λj hj=> ?_⟩;simp only [decide_eq_true_eq,Bool.not_eq_true',decide_eq_false_iff_not];intro e;exact (List.pairwise_iff_getElem.1 hl) j i (by omega) hi hj e
 rw [this]
theorem ja8 {p:UInt8} (hp:upc p=true) {l:List (List UInt8)} (hl:l.length<=1000) {n:List UInt8} (hn:jk n=true):jk (ku p l n)=true:=by
 unfold ku;split
 ·rename_i i h;have:=(List.findIdx?_eq_some_iff_getElem.1 h).1;exact jqX hp (by omega)
 ·exact hn
theorem jdx {α:Type} (c:α->α->Int) (l:List α) (x:α):(Jm c l x).length<=l.length+1:=by
 unfold Jm;split
 ·omega
 ·have:=congrArg List.length (List.takeWhile_append_dropWhile (p:=λa=>decide (c a x < 0)) (l:=l));rw [List.length_append] at this;rw [List.length_append,List.length_cons];omega
theorem K0 {α:Type} (c:α->α->Int) (l:List α):(zo c l).length<=l.length:=by
 have:∀(l m:List α),(l.foldl (Jm c) m).length<=m.length+l.length:=by
  intro l;induction l with
  | nil=>intro m;simp
  | cons x l ih=>
   intro m;have h1:=jdx c m x;have h2:=ih (Jm c m x);rw [List.foldl_cons,List.length_cons];omega
 have:=this l [];simpa [zo] using this
theorem JL {l:jO} {x:Lt} :x∈zo cmpL l↔x∈l:=(KZ yi l).2 x
theorem jiW {l:jO} (h:Asc cmpL l):zo cmpL l=l:=by
 obtain ⟨h1,h2⟩:=KZ yi l;exact jgU yi h1 h h2
theorem CN.make {l:jO} (hl:l.length<=8) (h:∀x∈l,Bx x.2/\nodes x.2<=30):CN (zo cmpL l):=⟨by have:=K0 cmpL l;omega,λx hx=>h x (JL.1 hx)⟩
theorem CN.ren {p:UInt8} (hp:upc p=true) {c:jO} (h:CN c):∀x∈c.map (λl=>(l.1,kg (ku p (j8 c)) l.2)),Bx x.2/\nodes x.2<=30:=by
 intro x hx;obtain ⟨l,hl,rfl⟩:=List.mem_map.1 hx;have hn:=yl h;have:=jfQ (ku p (j8 c)) l.2;have:=(h.2 l hl).2;exact ⟨(h.2 l hl).1.ren λn hn=>ja8 hp (by omega) hn,by show nodes (kg (ku p (j8 c)) l.2)<=30;omega⟩
theorem CN.renC {p:UInt8} (hp:upc p=true) {c:jO} (h:CN c):CN (renC p c):=CN.make (by rw [List.length_map];exact h.1) (h.ren hp)
theorem CN.normF:∀(k:Nat) {c:jO},CN c->CN (normF k c)
 | 0,c,h=>h
 | k+1,c,h=>by
  rw [Go.Proofs.YtdbgbieenhcldaaGreatDoor.normF];split
  ·exact h
  ·exact CN.normF k (CN.renC (by decide) h)
theorem CN.normC {c:jO} (h:CN c):CN (normC c):=CN.normF 10 h
theorem zP {c:jO} (h:zs c=true):CN c/\Asc cmpL c/\(∀l∈c,yC l.2=true):=by
 unfold zs at h;rw [Bool.and_eq_true,Bool.and_eq_true,List.all_eq_true,decide_eq_true_eq,jie] at h;exact ⟨⟨h.2.2,λl hl=>⟨(jab.1 (h.1 l hl)).1,jV (jab.1 (h.1 l hl)).2⟩⟩,h.2.1,h.1⟩
theorem CN.tz {c:jO} (h:CN c):∀l∈c,Tz l.2:=λl hl=>(h.2 l hl).1.tz (by have:=(h.2 l hl).2;omega)
theorem CN.rx {c:jO} (h:CN c):∀l∈c,Rx' l.2:=λl hl=>(h.2 l hl).1.rx
theorem jfg {f:List UInt8->List UInt8} :∀ {xs bs:List T},(∀u∈xs,∀v∈bs,zJ (kg f u) (kg f v)=zJ u v)->zl (xs.map (kg f)) (bs.map (kg f))=zl xs bs
 | [],_,_=>rfl
 | _::_,[],_=>rfl
 | x::xs,b::bs,h=>by
  rw [List.map_cons,List.map_cons,zl,zl,h x (by simp) b (by simp),jfg λu hu v hv=>h u (by simp [hu]) v (by simp [hv])]
theorem Rx'.va {t:T} (h:Rx' t) (hv:jk t.name=true):t.args = []:=h.elim (λh=>Zb h hv) λh=>by rw [h.1] at hv;exact absurd hv (by decide)
theorem jsu {L:List (List UInt8)} {f:List UInt8->List UInt8} (hf:∀n∈L,jk (f n)=true) (hc:∀n∈L,∀m∈L,kz (f n) (f m)=kz n m):∀a:T,Rx' a->(∀x∈jS a,x∈L)-> ∀b:T,Rx' b->(∀x∈jS b,x∈L)->zJ (kg f a) (kg f b)=zJ a b:=by
 refine T.ind λa ih ra la b rb lb=> ?_;have hk:cK (zU (kg f a)) (zU (kg f b))=cK (zU a) (zU b):=by
  have v1:∀t:T,Rx' t->(∀x∈jS t,x∈L)->jk t.name=true->zU t=(0,(t.name,0))/\zU (kg f t)=(0,(f t.name,0))/\t.name∈L:=λt rt lt hv=>by
   have ha:=rt.va hv;have hm:t.name∈L:=lt _ (by rw [vsv hv];simp);have e1:vF t.name=0:=by unfold vF;rw [hv,if_pos rfl]
   have e2:vF (f t.name)=0:=by unfold vF;rw [hf _ hm,if_pos rfl]
   refine ⟨by unfold zU;rw [e1,ha];rfl,?_,hm⟩
   rw [Kv,hv,if_pos rfl];show (vF (f t.name),(f t.name,0))=_;rw [e2]
  have v2:∀t:T,jk t.name=false->zU (kg f t)=zU t/\(zU t).1=1:=λt hv=>by
   refine ⟨by unfold zU;rw [Yo hv,K3 hv,List.length_map],?_⟩
   show vF t.name=1;unfold vF;rw [hv,if_neg Bool.false_ne_true]
  cases va:jk a.name<;>cases vb:jk b.name
  ·rw [(v2 a va).1,(v2 b vb).1]
  ·obtain ⟨p1,p2,_⟩:=v1 b rb lb vb;obtain ⟨q1,q2⟩:=v2 a va;rw [q1,p1,p2];have e:∀z:Key,z.1=0->cK (zU a) z=1:=λz hz=>by
    have:kA (zU a).1 z.1=1:=by rw [q2,hz];decide
    unfold cK;rw [this,if_pos (by decide)]
   rw [e _ rfl,e _ rfl]
  ·obtain ⟨p1,p2,_⟩:=v1 a ra la va;obtain ⟨q1,q2⟩:=v2 b vb;rw [q1,p1,p2];have e:∀z:Key,z.1=0->cK z (zU b) = -1:=λz hz=>by
    have:kA z.1 (zU b).1 = -1:=by rw [q2,hz];decide
    unfold cK;rw [this,if_pos (by decide)]
   rw [e _ rfl,e _ rfl]
  ·obtain ⟨p1,p2,p3⟩:=v1 a ra la va;obtain ⟨q1,q2,q3⟩:=v1 b rb lb vb;rw [p1,p2,q1,q2];unfold cK;simp only;rw [hc _ p3 _ q3]
 rw [Ki,Ki a b,hk];by_cases h0:cK (zU a) (zU b)=0
 ·rw [if_neg (λh=>h h0),if_neg (λh=>h h0)];cases va:jk a.name with
  | true=>
   have:(kg f a).args = []:=by rw [Kv,va,if_pos rfl];rfl
   rw [this,ra.va va];rfl
  | false=>
   have vb:jk b.name=false:=by rw [<-(jdG ((Zh.zero _ _).1 h0)).1];exact va
   rw [K3 va,K3 vb];exact jfg λu hu v hv=>ih u hu (ra.args u hu) (λx hx=>la x (by rw [vsf va,zQ];exact ⟨u,hu,hx⟩)) v (rb.args v hv) λx hx=>lb x (by rw [vsf vb,zQ];exact ⟨v,hv,hx⟩)
 ·rw [if_pos h0,if_pos h0]
def jW (d:jO):jO:=d.map λl=>(l.1,kg (ku 89 (j8 d)) l.2)
def kj (c:jO):Bool:=zs c && qm c
theorem kM {c:jO} (h:kj c=true):CN c/\Asc cmpL c/\zs c=true/\qm c=true:=by
 unfold kj at h;rw [Bool.and_eq_true] at h;exact ⟨(zP h.1).1,(zP h.1).2.1,h.1,h.2⟩
theorem jnw (p q:UInt8) (x y:List UInt8):kz (p::x) (p::y)=kz (q::x) (q::y):=by
 have e:zF (p::x) (p::y)=zF (q::x) (q::y):=by
  rw [Zz,Zz];congr 1;simp [List.cons_lt_cons_iff]
 unfold kz;rw [e];simp
theorem QH {d:jO} (h:qm d=true) {n:List UInt8} (hn:n∈j8 d):∃i,i < (j8 d).length/\n=yP 88 i/\ku 89 (j8 d) n=yP 89 i:=by
 obtain ⟨i,hi,rfl⟩:=List.mem_iff_getElem.1 hn;unfold qm at h;rw [decide_eq_true_eq] at h;refine ⟨i,hi,?_,jff (Zo d) hi⟩;have:=congrArg (λl=>l[i]?) h;simp only [List.getElem?_eq_getElem hi,List.getElem?_map,List.getElem?_range hi,Option.map_some] at this;exact Option.some.inj this
theorem jns {d:jO} (h:kj d=true):Asc cmpL (jW d):=by
 obtain ⟨hc,ha,_,hn⟩:=kM h;have hl:=yl hc;unfold Asc jW;rw [List.pairwise_map];refine List.Pairwise.imp_of_mem ?_ ha;intro x y hx hy hlt;have e:zJ (kg (ku 89 (j8 d)) x.2) (kg (ku 89 (j8 d)) y.2)=zJ x.2 y.2:=by
  refine jsu (L:=j8 d) (λn hn'=>ja8 (by decide) (by omega) (QF hn')) (λn h1 m h2=> ?_) x.2 (hc.rx x hx) (λz hz=>QE.2 ⟨x,hx,hz⟩) y.2 (hc.rx y hy) (λz hz=>QE.2 ⟨y,hy,hz⟩);obtain ⟨i,_,rfl,e1⟩:=QH hn h1;obtain ⟨j,_,rfl,e2⟩:=QH hn h2;rw [e1,e2];exact jnw _ _ _ _
 show cmpL (x.1,kg (ku 89 (j8 d)) x.2) (y.1,kg (ku 89 (j8 d)) y.2) < 0;unfold cmpL at hlt ⊢;simp only;rw [e];exact hlt
theorem apart_eq {d:jO} (h:kj d=true):renC 89 d=jW d:=jiW (jns h)
theorem jib {d:jO} (h:kj d=true):CN (jW d):=⟨by unfold jW;rw [List.length_map];exact (kM h).1.1,(kM h).1.ren (by decide)⟩
theorem jnu (d:jO):(jW d).length=d.length:=by unfold jW;rw [List.length_map]
open Classical in
noncomputable def J9 (a b:T):Option ju:=if h:∃r k,km k [] [(a,b)]=some r then h.choose else none
theorem jj0 {a b:T} (ha:Exx a) (hb:Exx b):qZ [] [(a,b)]:=⟨joN,(λ_ h=>(List.not_mem_nil h).elim:IdS []),λp hp=>by rw [List.mem_singleton.1 hp];exact ⟨ha,hb⟩⟩
theorem Kx {a b:T} (ha:Exx a) (hb:Exx b):∃k,km k [] [(a,b)]=some (J9 a b):=by
 obtain ⟨k,r,h⟩:=jlH 13 _ [] [(a,b)] (jj0 ha hb) (by simp) (Nat.le_refl _);have hex:∃r k,km k [] [(a,b)]=some r:=⟨r,k,h⟩;unfold J9;rw [dif_pos hex];exact hex.choose_spec
theorem jaQ {a b:T} (ha:Exx a) (hb:Exx b) {u:ju} (h:J9 a b=some u):jy u=true:=by
 obtain ⟨k,hk⟩:=Kx ha hb;rw [h] at hk;exact (jj1 k _ _ (jj0 ha hb) hk).1
noncomputable def JR (s:ju) (l:jO):Option jO:=if (l.all λx=>jE (sub s x.2)) && zs (zo cmpL (l.map λx=>(x.1,sub s x.2))) then some (zo cmpL (l.map λx=>(x.1,sub s x.2))) else none
noncomputable def Yp (s:ju) (l:jO):Option jO:=(JR s l).bind λc=>if kj (normC c) then some (normC c) else none
abbrev cz:A:= .agg [.sl 3 []]
def qy (o:Option jO):Option Out:=match o with|some c=>some (.tup [cm c,vb true],[])|none=>some (.tup [cz,vb false],[])
theorem jb5 {s:ju} {l:jO} {c:jO} (h:Yp s l=some c):kj c=true:=by
 unfold Yp at h;rw [Option.bind_eq_some_iff] at h;obtain ⟨d,_,h⟩:=h;split at h
 ·rename_i hn;cases h;exact hn
 ·cases h
theorem Zg {s:ju} {l:jO} {c:jO} (h:JR s l=some c):zs c=true/\Asc cmpL c:=by
 unfold JR at h;split at h
 ·rename_i hn;cases h;rw [Bool.and_eq_true] at hn;exact ⟨hn.2,(KZ yi _).1⟩
 ·cases h
def atI:List Int->T->Option T
 | [],t=>some t
 | i::p,t=>if 0<=i/\i < (t.args.length:Int) then atI p (t.args.getD i.toNat (.mk [] [])) else none
def EXB (t:T):Prop:=EX false t/\Bx t
open Go Go.RowKit Go.Proofs.YtdbgbieenhcldaaGreatDoor.Abs Go.Sort
section
variable {α:Type} {c:α->α->Int}
theorem jjh {β γ:Type} (f:β->β->γ) (ys:List β):∀(xs:List β) (i j:Nat) (x y:β),xs[i]? = some x->ys[j]? = some y->(xs.flatMap λx=>ys.map λy=>f x y)[i * ys.length+j]? = some (f x y)
 | [],i,j,x,y,h,_=>by simp at h
 | a::xs,i,j,x,y,h,hy=>by
  have hj:=(List.getElem?_eq_some_iff.1 hy).1;rw [List.flatMap_cons];cases i with
  | zero=>simp at h;subst h;rw [Nat.zero_mul,Nat.zero_add,List.getElem?_append_left (by simpa using hj),List.getElem?_map,hy];rfl
  | succ i=>
   rw [List.getElem?_append_right (by simp [Nat.add_mul];omega)]
   have:(i+1) * ys.length+j - (ys.map λy=>f a y).length=i * ys.length+j:=by simp [Nat.add_mul];omega
   rw [this];exact jjh f ys xs i j x y (by simpa using h) hy
theorem extract_all {β:Type} (e:Array β) {n:Nat} (h:e.size=n):e.extract 0 n=e:=by subst h;simp
theorem Law3.swo (h:Law3 c) {β:Type} (g:β->α) {lt:β->β->Bool} (hl:∀i j,lt i j=decide (c (g i) (g j) < 0)):SWO lt:=by
 refine ⟨λx=> ?_,λx y z h1 h2=> ?_,λx y z h1 h2=> ?_⟩
 ·rw [hl,(h.zero _ _).2 rfl];rfl
 ·rw [hl,decide_eq_true_eq] at *;exact h.trans _ _ _ h1 h2
 ·rw [hl,decide_eq_false_iff_not] at *;intro h3;have f1:=h.flip (g x) (g y);have f2:=h.flip (g y) (g z);by_cases e1:c (g x) (g y)=0
  ·rw [(h.zero _ _).1 e1] at h3;exact h2 h3
  by_cases e2:c (g y) (g z)=0
  ·rw [<-(h.zero _ _).1 e2] at h3;exact h1 h3
  have:=h.trans (g z) (g y) (g x) (by omega) (by omega);have f3:=h.flip (g x) (g z);omega
theorem jhB {γ:Type} {c:γ->γ->Int} (hc:Law3 c) (f:α->γ) (enc:α->List A) (k:Nat) (l:List α) (hl:l.length < 4611686018427387904):∃s:List α,s.Perm l/\s.Pairwise (λa b=>¬c (f b) (f a) < 0)/\jeE k (l.map enc) (l.flatMap λx=>l.map λy=>c (f x) (f y))=some (.top,[.sl k (s.map enc)]):=by
 cases l with
 | nil=>exact ⟨[],List.Perm.refl _,List.Pairwise.nil,rfl⟩
 | cons a l'=>
  generalize hcs:((a::l').flatMap λx=>(a::l').map λy=>c (f x) (f y))=cs;rw [List.map_cons];have hN:(l'.map enc).length+1=(a::l').length:=by simp
  let g:Fin ((l'.map enc).length+1)->α:=λi=>(a::l')[i.val]'(by rw [<-hN];exact i.isLt)
  have hg:∀i:Fin ((l'.map enc).length+1),(a::l')[i.val]? = some (g i):=λi=>List.getElem?_eq_getElem _;have hT:∀i j,ltO (jcj ((l'.map enc).length+1) cs) i j=decide (c (f (g i)) (f (g j)) < 0):=λi j=>by
   have:=jjh (λx y=>c (f x) (f y)) (a::l') (a::l') i.val j.val _ _ (hg i) (hg j);rw [hcs,<-hN] at this;unfold ltO jcj;rw [List.getD_eq_getElem?_getD,this];rfl
  have hS:=hc.swo (λi=>f (g i)) hT;have hsz:(l'.map enc).length+1 < 4611686018427387904:=by rw [hN];exact hl
  generalize hd:(Array.ofFn (n:=(l'.map enc).length+1) id)=d;have hds:d.size=(l'.map enc).length+1:=by rw [<-hd];simp
  obtain ⟨hp,hs⟩:=pdq_sorts (ltO (jcj ((l'.map enc).length+1) cs)) hS d 0 ((l'.map enc).length+1) (Lib.bitLen ((l'.map enc).length+1)) true true (Nat.zero_le _) (by omega) (Or.inl rfl);have hrow:jeE k (enc a::l'.map enc) cs=some (.top,[.sl k ((pdq (ltO (jcj ((l'.map enc).length+1) cs)) d 0 ((l'.map enc).length+1) (Lib.bitLen ((l'.map enc).length+1)) true true).toList.map λi=>(enc a::l'.map enc).getD i.val [])]):=by
   unfold jeE;simp only;rw [if_pos ⟨hS,hsz⟩,hd]
  rw [hrow];generalize pdq (ltO (jcj ((l'.map enc).length+1) cs)) d 0 ((l'.map enc).length+1) (Lib.bitLen ((l'.map enc).length+1)) true true=D at *;obtain ⟨p1,_,p3⟩:=hp;rw [extract_all D (by omega),extract_all d hds] at p3;refine ⟨D.toList.map g,?_,?_,?_⟩
  ·have h1:(D.toList.map g).Perm (d.toList.map g):=p3.map g;have h2:d.toList.map g=a::l':=by
    refine List.ext_getElem? λi=> ?_;rw [<-hd];by_cases hi:i < (l'.map enc).length+1
    ·rw [List.getElem?_map,Array.getElem?_toList,Array.getElem?_eq_getElem (by simpa using hi)];simp only [Array.getElem_ofFn,Option.map_some,id];exact (hg ⟨i,hi⟩).symm
    ·rw [List.getElem?_eq_none (by simp at hi ⊢;omega),List.getElem?_eq_none (by simp at hi ⊢;omega)]
   rw [h2] at h1;exact h1
  ·rw [List.pairwise_map];rw [List.pairwise_iff_getElem];intro i j hi hj hij;have hD:D.size=(l'.map enc).length+1:=by omega
   rw [Array.length_toList] at hi hj;have:=hs i j (Nat.zero_le _) hij (by omega);rw [getElem!_pos D i hi,getElem!_pos D j hj,hT,decide_eq_false_iff_not] at this;simpa using this
  ·congr 3;rw [List.map_map];refine congrArg (A.sl k) (List.map_congr_left λi _=> ?_);rw [<-List.map_cons,List.getD_eq_getElem?_getD,List.getElem?_map,hg i];rfl
end
theorem jdf {β:Type} (f:β->FuncId × List A) (r:β->Int):∀qs:List β,(∀b∈qs,K.pureF (f b).1=true/\G (f b).1 (f b).2=some (vi (r b),[]))->askAll K (MM K) (qs.map f)=some (qs.map λb=>(vi (r b),[]))
 | [],_=>rfl
 | b::qs,h=>by
  have ih:=jdf f r qs λb' hb=>h b' (by simp [hb]);obtain ⟨h1,h2⟩:=h b (by simp);rw [List.map_cons,List.map_cons];show (if K.pureF (f b).1 then (MM K (.call (f b).1 (f b).2)).bind λo=>(askAll K (MM K) (qs.map f)).bind λos=>some (o::os) else none)=_;have h2:MM K (.call (f b).1 (f b).2)=some (vi (r b),[]):=h2;rw [h1,if_pos rfl,h2,ih];rfl
theorem jfD {β:Type} (r:β->Int):∀qs:List β,jbZ (qs.map λb=>(vi (r b),[]))=some (qs.map r)
 | []=>rfl
 | b::qs=>by
  rw [List.map_cons,List.map_cons,jbZ,jfD r qs];rfl
theorem jiu {α γ:Type} {c:γ->γ->Int} (hc:Law3 c) (f:α->γ) (enc:α->List A) (k:Nat) (g:FuncId) (hp:K.pureF g=true) (l:List α) (hl:l.length < 4611686018427387904) (h:∀x∈l,∀y∈l,G g [.agg (enc x),.agg (enc y)]=some (vi (c (f x) (f y)),[])):∃s:List α,s.Perm l/\s.Pairwise (λa b=>¬c (f b) (f a) < 0)/\extRun K (MM K) (sfE k) [V.row 0,V.fn g []] [.row k (l.map enc)]=some (.top,[.sl k (s.map enc)]):=by
 obtain ⟨s,h1,h2,h3⟩:=jhB hc f enc k l hl;refine ⟨s,h1,h2,?_⟩;have hq:jjN [V.row 0,V.fn g []] [.row k (l.map enc)]=some ((l.flatMap λx=>l.map λy=>(x,y)).map λq=>(g,[A.agg (enc q.1),A.agg (enc q.2)])):=by
  show some ((l.map enc).flatMap λx=>(l.map enc).map λy=>(g,[A.agg x,A.agg y]++[]))=_;congr 1;rw [List.flatMap_map,List.map_flatMap];refine congrArg (λh=>l.flatMap h) (funext λx=> ?_);rw [List.map_map,List.map_map];rfl
 have ha:=jdf (λq:α × α=>(g,[A.agg (enc q.1),A.agg (enc q.2)])) (λq=>c (f q.1) (f q.2)) (l.flatMap λx=>l.map λy=>(x,y)) λq hq=>by
  obtain ⟨x,hx,hq⟩:=List.mem_flatMap.1 hq;obtain ⟨y,hy,rfl⟩:=List.mem_map.1 hq;exact ⟨hp,h x hx y hy⟩
 have hc':((l.flatMap λx=>l.map λy=>(x,y)).map λq=>c (f q.1) (f q.2))=l.flatMap λx=>l.map λy=>c (f x) (f y):=by
  rw [List.map_flatMap];refine congrArg (λh=>l.flatMap h) (funext λx=> ?_);rw [List.map_map];rfl
 have ho:=jfD (λq:α × α=>c (f q.1) (f q.2)) (l.flatMap λx=>l.map λy=>(x,y));rw [hc'] at ho;show (jjN [V.row 0,V.fn g []] [.row k (l.map enc)]).bind _=_;rw [hq,Option.bind_some,ha,Option.bind_some];show (if Nat.beq k k then (jbZ _).bind λcs=>jeE k (l.map enc) cs else none)=_;rw [Nat.beq_refl,if_pos rfl,ho];exact h3
theorem jvj:∀d:Nat,d < 10->JD (sv [48,49,50,51,52,53,54,55,56,57]) (some (vi (d:Nat))) (some (vi ((d+1:Nat):Int)))=some (sv [UInt8.ofNat (48+d)])
 | 0,_=>rfl|1,_=>rfl|2,_=>rfl|3,_=>rfl|4,_=>rfl|5,_=>rfl|6,_=>rfl|7,_=>rfl|8,_=>rfl|9,_=>rfl
theorem jdM:∀n:Nat,n<=1000000->G 111 [vi (n:Nat)]=some (sv (Lib.decDigits n),[]):=by
 intro n;induction n using Nat.strongRecOn with
 | ind n ih=>
  intro hn;have h0:¬((n:Nat):Int) < 0:=by omega
  rw [jzg];by_cases h:n < 10
  ·have h1:((n:Nat):Int) < 10:=by omega
   have h2:ck ((n:Int)+1)=some (vi ((n+1:Nat):Int)):=jG (by omega) (by omega);have h3:=jvj n h;rw [yj h];simp only [jd,h0,h1,h2,h3]
  ·have h1:¬((n:Nat):Int) < 10:=by omega
   have hq:jp .quo false (vi (n:Nat)) (vi 10)=some (vi ((n / 10:Nat):Int)):=by
    show ck (((n:Nat):Int).tdiv 10)=_;rw [Int.tdiv_eq_ediv_of_nonneg (by omega)];exact jG (by omega) (by omega)
   have hr:jp .rem false (vi (n:Nat)) (vi 10)=some (vi ((n % 10:Nat):Int)):=by
    show some (vi (((n:Nat):Int).tmod 10))=_;rw [Int.tmod_eq_emod_of_nonneg (by omega)];rfl
   have h2:ck (((n % 10:Nat):Int)+1)=some (vi ((n % 10+1:Nat):Int)):=jG (by omega) (by omega);have h3:=jvj (n % 10) (by omega);have h4:=ih (n / 10) (by omega) (by omega);have hl:(Lib.decDigits (n / 10)).length + [UInt8.ofNat (48+n % 10)].length<=9223372036854775807:=by
    have:=(yw 6 (n / 10) (by omega)).2;simp only [List.length_cons,List.length_nil];omega
   have h5:=K2 false (Lib.decDigits (n / 10)) [UInt8.ofNat (48+n % 10)];rw [if_pos hl] at h5;rw [qF h];simp only [jd,h0,h1,hq,hr,h2,h3,h4,h5]
theorem jmD (n:Nat) (hn:n<=1000000):G 118 [vi (n:Nat)]=some (sv (Lib.decDigits n),[]):=by
 have:K.ext 118=some jmC:=rfl;rw [jwZ this];show (if -9223372036854775808<=((n:Nat):Int)/\((n:Nat):Int)<=9223372036854775807 then some (sv (Lib.itoa (n:Nat)),[]) else none)=_;rw [if_pos (by omega)];unfold Lib.itoa;rw [if_neg (by omega),Int.toNat_natCast]
def Yd:Nat->List (List UInt8)->Bool
 | _,[]=>true
 | i,n::r=>decide (n=yP 88 i) && Yd (i+1) r
theorem ji2:∀(l:List (List UInt8)) (i:Nat),Yd i l=decide (l=(List.range' i l.length).map (yP 88))
 | [],i=>by simp [Yd]
 | n::r,i=>by
  rw [Yd,ji2 r,List.length_cons,List.range'_succ,List.map_cons,<-Bool.decide_and];simp only [List.cons.injEq]
theorem jdC (c:jO):qm c=Yd 0 (j8 c):=by
 rw [ji2,<-List.range_eq_range'];rfl
theorem jx2 (i:Nat) (h:i<=1000000):jp .add false (sv [88]) (sv (Lib.decDigits i))=some (sv (yP 88 i)):=by
 rw [K2,if_pos]
 ·rfl
 ·have:=(yw 6 i (by omega)).2;simp only [List.length_cons,List.length_nil];omega
theorem ZF (c:jO) (h:CN c):G 72 [cm c]=some (vb (qm c),[]):=by
 have hlen:=yl h;have e0:=jd4 c (by have:=h.1;omega) h.rx h.tz λl hl=>by have:=(h.2 l hl).2;omega
 rw [jdC,g72];generalize j8 c=ns at *;have key:=upto (P:=λi=>jl2 (strs ns) (vi (ns.length:Nat)) (vi (i:Nat))=some (vb (Yd i (ns.drop i)),[])) (n:=ns.length) ?_ ?_ 0 (Nat.zero_le _)
 ·simp only [Int.natCast_zero,List.drop_zero] at key;simp only [jd,e0,key]
 ·rw [juM,List.drop_length];simp only [jd,Yd]
 ·intro i hi ih;have hlt:(i:Int) < ((ns.length:Nat):Int):=by omega
  have h5:=jr hi (by show ns.length<=9223372036854775807;omega)
  have e1:=jmD i (by omega);have e2:=jx2 i (by omega);have ld:kJ (.elt (cs ns[i]) 0)=some (sv ns[i]):=rfl;rw [juM,jo hi,Yd];by_cases hc:ns[i]=yP 88 i
  ·rw [decide_eq_true hc,Bool.true_and,<-ih];simp only [jd,hlt,ja hi,ld,e1,e2,hc,h5]
  ·rw [decide_eq_false hc,Bool.false_and];simp only [jd,hlt,ja hi,ld,e1,e2,hc]
theorem KG (c:jO) (h:CN c):G 78 [cm c]=some (vb (qm c),[]):=by
 have hlen:=yl h;have e0:=jdR c (by have:=h.1;omega) h.tz λl hl=>by have:=(h.2 l hl).2;omega
 rw [jdC,g78];generalize j8 c=ns at *;have key:=upto (P:=λi=>jl5 (strs ns) (vi (i:Nat))=some (vb (Yd i (ns.drop i)),[])) (n:=ns.length) ?_ ?_ 0 (Nat.zero_le _)
 ·simp only [Int.natCast_zero,List.drop_zero] at key;simp only [jd,e0,key]
 ·rw [juQ,List.drop_length];simp only [jd,Yd]
 ·intro i hi ih;have hlt:(i:Int) < ((ns.length:Nat):Int):=by omega
  have h5:=jr hi (by show ns.length<=9223372036854775807;omega)
  have e1:=jdM i (by omega);have e2:=jx2 i (by omega);have ld:kJ (.elt (cs ns[i]) 0)=some (sv ns[i]):=rfl;rw [juQ,jo hi,Yd];by_cases hc:ns[i]=yP 88 i
  ·rw [decide_eq_true hc,Bool.true_and,<-ih];simp only [jd,hlt,ja hi,ld,e1,e2,hc,h5]
  ·rw [decide_eq_false hc,Bool.false_and];simp only [jd,hlt,ja hi,ld,e1,e2,hc]
theorem Kn (c:jO) (hl:c.length<=1048576) (hz:∀l∈c,Tz l.2):G 35 [cm c]=some (vb (kj c),[]):=by
 have e1:=KV c hl hz;unfold kj;rw [g35];cases hv:zs c<;>rw [hv] at e1
 ·simp only [jd,e1,Bool.false_and]
 ·have e2:=ZF c (zP hv).1;simp only [jd,e1,e2,Bool.true_and]
theorem Z5 (c:jO) (hl:c.length<=1048576) (hz:∀l∈c,Tz l.2):G 43 [cm c]=some (vb (kj c),[]):=by
 have e1:=KY c hl hz;unfold kj;rw [g43];cases hv:zs c<;>rw [hv] at e1
 ·simp only [jd,e1,Bool.false_and]
 ·have e2:=KG c (zP hv).1;simp only [jd,e1,e2,Bool.true_and]
abbrev Nm':=List (List UInt8 × List UInt8)
abbrev kn (p:List UInt8 × List UInt8):List A:=[sv p.1,sv p.2]
def zn:Nm'->List UInt8->Option (List UInt8)
 | [],_=>none
 | p::m,n=>if p.1=n then some p.2 else zn m n
theorem jk8 (n:List UInt8):∀(m:Nm') (k:Nat),∃j,Ya none (sv n) (m.map kn) k=some ((zn m n).map λr=>(j,sv r))
 | [],k=>⟨0,rfl⟩
 | p::m,k=>by
  rw [List.map_cons,zn,Ya,jv4];by_cases h:p.1=n
  ·rw [if_pos h,decide_eq_true h.symm];exact ⟨k,rfl⟩
  ·rw [if_neg h,decide_eq_false (λe=>h e.symm)];exact jk8 n m (k+1)
theorem jwt (m:Nm') (n:List UInt8):jeg none true true [sv []] (.mp (m.map kn)) (sv n)=some (match zn m n with|some r=> .tup [sv r,vb true]|none=> .tup [sv [],vb false]):=by
 show ((some (m.map kn)).bind λxs=>(Ya none (sv n) xs 0).map (jqP true true [sv []]))=_;obtain ⟨j,h⟩:=jk8 n m 0;rw [Option.bind_some,h];cases zn m n<;>rfl
theorem jvd {m:Nm'} {n:List UInt8} (h:zn m n=none) (r:List UInt8):jof none (m.map kn) (sv n) (sv r)=some ((m++[(n,r)]).map kn):=by
 obtain ⟨j,h2⟩:=jk8 n m 0;show (Ya none (sv n) (m.map kn) 0).map _=_;rw [h2,h,List.map_append];rfl
theorem jbd:∀(m:Nm') (p:List UInt8 × List UInt8) (n:List UInt8),zn (m++[p]) n=(match zn m n with|some r=>some r|none=>if p.1=n then some p.2 else none)
 | [],p,n=>rfl
 | q::m,p,n=>by
  rw [List.cons_append,zn,zn,jbd m p n];by_cases h:q.1=n
  ·rw [if_pos h,if_pos h]
  ·rw [if_neg h,if_neg h]
def qC (p:UInt8):Nat->List (List UInt8)->Nm'
 | _,[]=>[]
 | i,n::r=>(n,yP p i)::qC p (i+1) r
theorem jdY (p:UInt8) (n:List UInt8):∀(ns:List (List UInt8)) (k:Nat),zn (qC p k ns) n=(ns.findIdx? λx=>decide (x=n)).map λi=>yP p (k+i)
 | [],k=>rfl
 | x::ns,k=>by
  rw [qC,zn,List.findIdx?_cons];by_cases h:x=n
  ·rw [if_pos h,if_pos (decide_eq_true h)];rfl
  ·rw [if_neg h,if_neg (by simp [h]),jdY p n ns (k+1),Option.map_map];refine congrArg (λf=>Option.map f _) (funext λi=> ?_);show yP p (k+1+i)=yP p (k+(i+1));rw [show k+1+i=k+(i+1) by omega]
theorem jkC (p:UInt8) (ns:List (List UInt8)):(λn=>(zn (qC p 0 ns) n).getD n)=ku p ns:=by
 funext n;rw [jdY];unfold ku;cases ns.findIdx? (λx=>decide (x=n)) with
 | none=>rfl
 | some i=>show yP p (0+i)=_;rw [Nat.zero_add]
theorem jjg {p:UInt8} :∀ {ns:List (List UInt8)} {k:Nat},(∀n∈ns,jk n=true)-> ∀q∈qC p k ns,jk q.1=true
 | [],k,_,q,h=>by cases h
 | x::ns,k,hv,q,h=>by
  rw [qC] at h;rcases List.mem_cons.1 h with e|e
  ·rw [e];exact hv x (by simp)
  ·exact jjg (λn hn=>hv n (by simp [hn])) q e
theorem jwj (p:UInt8) (i:Nat) (h:i<=1000000):jp .add false (sv [p]) (sv (Lib.decDigits i))=some (sv (yP p i)):=by
 rw [K2,if_pos]
 ·rfl
 ·have:=(yw 6 i (by omega)).2;simp only [List.length_cons,List.length_nil];omega
theorem jjB (p:UInt8) (ns:List (List UInt8)) (hn:ns.Nodup) (hl:ns.length<=1000):G 74 [strs ns,sv [p]]=some (.mp ((qC p 0 ns).map kn),[]):=by
 have key:=upto (P:=λi=>∀m:Nm',(∀n∈ns.drop i,zn m n=none)->jl4 (sv [p]) (strs ns) (vi (ns.length:Nat)) (vi (i:Nat)) (m.map kn)=some (.mp ((m++qC p i (ns.drop i)).map kn),[])) (n:=ns.length) ?_ ?_ 0 (Nat.zero_le _) [] (λn _=>rfl)
 ·rw [List.drop_zero] at key;simp only [Int.natCast_zero,List.map_nil,List.nil_append] at key;rw [g74];simp only [jd,key]
 ·intro m _;rw [juO,List.drop_length,qC,List.append_nil];simp only [jd]
 ·intro i hi ih m hm;have hlt:(i:Int) < ((ns.length:Nat):Int):=by omega
  have h5:=jr hi (by show ns.length<=9223372036854775807;omega)
  have e1:=jmD i (by omega);have e2:=jwj p i (by omega);have ld:kJ (.elt (cs ns[i]) 0)=some (sv ns[i]):=rfl;have hd:(ns.drop i).Nodup:=hn.sublist (List.drop_sublist i ns);rw [jo hi] at hm hd ⊢;have pt:=jvd (hm ns[i] (List.mem_cons_self ..)) (yP p i);have ih:=ih (m++[(ns[i],yP p i)]) λn hn'=>by
   rw [jbd,hm n (List.mem_cons_of_mem _ hn')];show (if ns[i]=n then _ else none)=none;rw [if_neg];rintro e;exact (List.nodup_cons.1 hd).1 (e ▸ hn')
  rw [List.append_assoc] at ih;rw [juO,qC];simp only [jd,hlt,ja hi,ld,e1,e2,pt,h5,ih];rfl
theorem jnT {m:Nm'} (hm:∀p∈m,jk p.1=true) {n:List UInt8} (h:jk n=false):zn m n=none:=by
 induction m with
 | nil=>rfl
 | cons p m ih=>
  rw [zn,if_neg,ih λq hq=>hm q (by simp [hq])];intro e;rw [<-e,hm p (by simp)] at h;cases h
theorem jlo (m:Nm') (hm:∀p∈m,jk p.1=true):∀t:T,Rx' t->Tz t->G 119 [tm t,.mp (m.map kn)]=some (tm (kg (λn=>(zn m n).getD n) t),[]):=by
 refine T.ind λt ih hk ht=> ?_;have hz:=ht;unfold Tz at hz;rw [kO] at hz;have e0:=jwt m t.name;rw [jzl,Kv];cases hv:jk t.name with
 | true=>
  have ha:=hk.va hv;rw [if_pos rfl];obtain ⟨n,us⟩:=t;have ha:us = []:=ha;subst ha;have lp:∀x:List UInt8,ja0 (.mp (m.map kn)) (.sl 2 []) (vi 0) (vi 0) (sv []) (sv x) [] []=some (.agg [sv x,.sl 2 []],[]):=λx=>by
   rw [jk1];simp only [jd]
  have e0:jeg none true true [sv []] (.mp (m.map kn)) (sv n)=some (match zn m n with|some r=> .tup [sv r,vb true]|none=> .tup [sv [],vb false]):=e0;show Option.bind (jbm 2 (.agg [sv n,.sl 2 []])) _=some (A.agg [sv ((zn m n).getD n),.sl 2 []],[]);cases hl:zn m n with
  | none=>
   rw [hl] at e0;have lp:=lp n;simp only [jd,e0,lp,Option.getD_none,Int.natCast_zero]
  | some r=>
   rw [hl] at e0;have lp:=lp r;simp only [jd,e0,lp,Option.getD_some,Int.natCast_zero]
 | false=>
  rw [jnT hm hv] at e0;rw [if_neg Bool.false_ne_true];have key:=(upto (P:=λi=>ja0 (.mp (m.map kn)) (jY t.args) (vi (t.args.length:Nat)) (vi i) (sv []) (sv t.name) [] (((t.args.map (kg λn=>(zn m n).getD n)).take i).map jz)=some (tm (.mk t.name (t.args.map (kg λn=>(zn m n).getD n))),[])) (n:=t.args.length) ?_ ?_ 0 (Nat.zero_le _))
  ·simp only [Int.natCast_zero,List.take_zero,List.map_nil] at key;simp only [jd,e0,key]
  ·rw [jk1,List.take_of_length_le (by rw [List.length_map];omega)]
   simp only [jd];rfl
  ·intro i hi ih';have hlt:(i:Int) < ((t.args.length:Nat):Int):=by omega
   have h5:=jr hi (by show t.args.length<=9223372036854775807;omega)
   have e2:=ih t.args[i] (List.getElem_mem _) (hk.args _ (List.getElem_mem _)) (ht.args _ (List.getElem_mem _));have hf:jB (i+1) 40=true:=jlf (by omega);have hi2:i < (t.args.map (kg λn=>(zn m n).getD n)).length:=by rw [List.length_map];exact hi
   have hl:(((t.args.map (kg λn=>(zn m n).getD n)).take i).map jz).length=i:=by rw [List.length_map,List.length_take,List.length_map];omega
   have ha:jL (((t.args.map (kg λn=>(zn m n).getD n)).take i).map jz) [[sv (kg (λn=>(zn m n).getD n) t.args[i]).name,jY (kg (λn=>(zn m n).getD n) t.args[i]).args]]=((t.args.map (kg λn=>(zn m n).getD n)).take (i+1)).map jz:=by
    rw [show [sv (kg (λn=>(zn m n).getD n) t.args[i]).name,jY (kg (λn=>(zn m n).getD n) t.args[i]).args]=jz (kg (λn=>(zn m n).getD n) t.args[i]) from (kK _).symm,List.take_add_one,List.getElem?_eq_getElem hi2,List.map_append,List.getElem_map];rfl
   generalize ((t.args.map (kg λn=>(zn m n).getD n)).take i).map jz=R at *;generalize kg (λn=>(zn m n).getD n) t.args[i]=u at *;rw [jk1];simp only [jd,hlt,ja hi,jl,e2,hl,hf,ha,h5,ih']
theorem jjA (p:UInt8) (ns:List (List UInt8)) (hv:∀n∈ns,jk n=true) (t:T) (hk:Rx' t) (ht:Tz t):G 119 [tm t,.mp ((qC p 0 ns).map kn)]=some (tm (kg (ku p ns) t),[]):=by
 rw [jlo _ (jjg hv) t hk ht,jkC]
theorem jiQ (p:UInt8) (ns:List (List UInt8)) (hn:ns.length<=1000):∀t:T,Tz t->G 127 [tm t,strs ns,sv [p]]=some (tm (kg (ku p ns) t),[]):=by
 refine T.ind λt ih ht=> ?_;have hz:=ht;unfold Tz at hz;rw [kO] at hz;have e0:=zt t.name (((kV t).1 ht.wf).1);rw [jzs,Kv];cases hv:jk t.name<;>rw [hv] at e0
 ·rw [if_neg Bool.false_ne_true];have key:=(upto (P:=λi=>jgq (strs ns) (sv [p]) (vi i) (sv t.name) (jY t.args) (sv []) (sv t.name) [] (((t.args.map (kg (ku p ns))).take i).map jz)=some (tm (.mk t.name (t.args.map (kg (ku p ns)))),[])) (n:=t.args.length) ?_ ?_ 0 (Nat.zero_le _))
  ·simp only [Int.natCast_zero,List.take_zero,List.map_nil] at key;simp only [jd,e0,key]
  ·rw [jqg,List.take_of_length_le (by rw [List.length_map];omega)]
   simp only [jd];rfl
  ·intro i hi ih';have hlt:(i:Int) < ((t.args.length:Nat):Int):=by omega
   have h5:=jr hi (by show t.args.length<=9223372036854775807;omega)
   have e2:=ih t.args[i] (List.getElem_mem _) (ht.args _ (List.getElem_mem _));have hf:jB (i+1) 40=true:=jlf (by omega);have hi2:i < (t.args.map (kg (ku p ns))).length:=by rw [List.length_map];exact hi
   have hl:(((t.args.map (kg (ku p ns))).take i).map jz).length=i:=by rw [List.length_map,List.length_take,List.length_map];omega
   have ha:jL (((t.args.map (kg (ku p ns))).take i).map jz) [[sv (kg (ku p ns) t.args[i]).name,jY (kg (ku p ns) t.args[i]).args]]=((t.args.map (kg (ku p ns))).take (i+1)).map jz:=by
    rw [show [sv (kg (ku p ns) t.args[i]).name,jY (kg (ku p ns) t.args[i]).args]=jz (kg (ku p ns) t.args[i]) from (kK _).symm,List.take_add_one,List.getElem?_eq_getElem hi2,List.map_append,List.getElem_map];rfl
   generalize ((t.args.map (kg (ku p ns))).take i).map jz=R at *;generalize kg (ku p ns) t.args[i]=u at *;rw [jqg];simp only [jd,hlt,ja hi,jl,e2,hl,hf,ha,h5,ih']
 ·rw [if_pos rfl];have key:=(upto (P:=λi=>(∀j,(h:j < i)-> ∀h':j < ns.length,ns[j]≠t.name)->jgp (strs ns) (sv [p]) (vi i) (sv t.name) (jY t.args) (sv []) []=some (tm (.mk (ku p ns t.name) []),[])) (n:=ns.length) ?_ ?_ 0 (Nat.zero_le _)) (λj h=>by omega)
  ·simp only [Int.natCast_zero] at key;simp only [jd,e0,key]
  ·intro hall;have:ku p ns t.name=t.name:=by
    unfold ku;have:ns.findIdx? (λx=>decide (x=t.name))=none:=by
     rw [List.findIdx?_eq_none_iff];intro x hx;obtain ⟨j,hj,rfl⟩:=List.mem_iff_getElem.1 hx;simpa using hall j hj hj
    rw [this]
   rw [jqf,this];simp only [jd];rfl
  ·intro i hi ih' hall;have hlt:(i:Int) < ((ns.length:Nat):Int):=by omega
   have h5:=jr hi (by show ns.length<=9223372036854775807;omega)
   have ld:kJ (.elt (cs ns[i]) 0)=some (sv ns[i]):=rfl;rw [jqf];by_cases he:ns[i]=t.name
   ·have e1:=jdM i (by omega);have e2:=jwj p i (by omega);have:ku p ns t.name=yP p i:=by
     unfold ku;have:ns.findIdx? (λx=>decide (x=t.name))=some i:=by
      rw [List.findIdx?_eq_some_iff_getElem];exact ⟨hi,by simp [he],λj hj=>by simpa using hall j hj (by omega)⟩
     rw [this]
    rw [this];simp only [jd,hlt,ja hi,ld,he,e1,e2];rfl
   ·have ih':=ih' λj hj hj'=>by
     by_cases h:j=i
     ·subst h;exact he
     ·exact hall j (by omega) hj'
    simp only [jd,hlt,ja hi,ld,he,h5,ih']
theorem J0 {n:Nat} (h:n<=1000000):jB n 48=true:=by
 unfold jB;exact decide_eq_true ⟨by omega,by omega⟩
theorem K7 {α:Type} {f:α->List A} {xs:List α} {i:Nat} (h:i < xs.length):jL ((xs.take i).map f) [f xs[i]]=(xs.take (i+1)).map f:=by
 rw [List.take_add_one,List.getElem?_eq_getElem h,List.map_append];rfl
theorem take_len {α:Type} {f:α->List A} {xs:List α} {i:Nat} (h:i<=xs.length):((xs.take i).map f).length=i:=by rw [List.length_map,List.length_take];omega
noncomputable def eqL (a b:Lt):Bool:=decide (a.1=b.1) && dq a.2 b.2
theorem Zk (a b:Lt):eqL a b=true↔a=b:=by
 obtain ⟨p,t⟩:=a;obtain ⟨q,u⟩:=b;unfold eqL;rw [Bool.and_eq_true,decide_eq_true_eq,qk,Prod.mk.injEq]
theorem J8 (a b:Lt) (ha:Tz a.2) (hb:Tz b.2):G 149 [ltm a,ltm b]=some (vb (eqL a b),[]):=by
 have e1:=yO a.2 ha.wf b.2 hb.wf;unfold eqL;rw [jzF];by_cases h:a.1=b.1
 ·rw [decide_eq_true h,Bool.true_and];simp only [jd,h,e1]
 ·rw [decide_eq_false h,Bool.false_and];simp only [jd,h]
theorem ZV (l:Lt) (h:Tz l.2):G 107 [ltm l]=some (ltm l,[]):=by
 have e1:=ZW l.2 h;rw [jzf];simp only [jd,e1];generalize hB:j7 _ _ _=B;have hB':B=some (ltm l):=by rw [<-hB];kernel_rfl
 rw [hB'];simp only [jd]
noncomputable def cpG:Lt->List Lt->List Lt
 | _,[]=>[]
 | p,b::l=>if eqL b p then cpG b l else b::cpG b l
theorem jip:∀(l:List Lt) (a:Lt),jaj eqL (a::l)=a::cpG a l
 | [],a=>rfl
 | b::l,a=>by
  rw [jaj,jip l b,cpG];show (if eqL a b then b::cpG b l else a::b::cpG b l)=_;by_cases h:a=b
  ·subst h;rw [if_pos ((Zk a a).2 rfl),if_pos ((Zk a a).2 rfl)]
  ·rw [if_neg (λe=>h ((Zk a b).1 e)),if_neg (λe=>h ((Zk b a).1 e).symm)]
theorem jve {α:Type} {f:α->List A} {xs:List α} {i:Nat} (h:i < xs.length) (n:Nat):z7 (xs.map f) i 0 n=some (.agg ((f xs[i]).take n)):=by unfold z7;simp [h]
theorem jaI {xs:List Lt} {i:Nat} (h:i < xs.length):z7 (xs.map jC) i 0 3=some (ltm xs[i]):=jve h 3
theorem joc {α:Type} {f:α->List A} {xs:List α} {i:Nat} (h:i < xs.length):Ke (jh (xs.map f)) (vi (i:Nat))=some i:=by
 rw [jeq,List.length_map];exact zi h
theorem jdp {α:Type} {R s:List α} {k i:Nat} (h:R.drop k=s.drop k) (hk:k<=i) (hi:i < R.length) (hs:i < s.length):R[i]=s[i]:=by
 have:=congrArg (λl=>l[i - k]?) h;simp only [List.getElem?_drop,show k+(i - k)=i by omega,List.getElem?_eq_getElem hi,List.getElem?_eq_getElem hs] at this;exact Option.some.inj this
theorem jpw (s:List Lt) (hl:s.length<=1000000) (hz:∀x∈s,Tz x.2) (k:Nat) (hk:k < s.length):∀j,j<=s.length - k->1<=j-> ∀(w:Nat) (R:List Lt),R.length=s.length->R.drop (k+j - 1)=s.drop (k+j - 1)->w+1<=k+j-> ∀p:Lt,(∃h:k+j - 1 < s.length,s[k+j - 1]=p)->
  ZL (vi (w:Nat)) (nA k) (nA (s.length - k)) (vi (j:Nat)) (R.map jC)=some (.top,[.sl 3 ((R.take w++cpG p (s.drop (k+j))).map jC)]):=by
 refine upto ?_ ?_
 ·intro _ w R hR hag hw p hp;have hd:s.drop (k+(s.length - k)) = []:=List.drop_eq_nil_of_le (by omega);have hlt:¬((s.length - k:Nat):Int) < ((s.length - k:Nat):Int):=by omega
  have hlt':jp .lss false (vi ((s.length - k:Nat):Int)) (nA (s.length - k))=some (vb false):=by
   show some (vb (decide _))=_;rw [decide_eq_false hlt]
  have b1:pB (zx (R.map jC)) (kZ (R.map jC) 0) none=some R.length:=by
   rw [zX,show kZ (R.map jC) 0=R.length by rw [yh,List.length_map];rfl];exact zc (Nat.le_refl _)
  have b2:pB 0 R.length (some (vi (w:Nat)))=some w:=yg (by omega);have ln:(z8 (R.map jC) (0+w) (J1 (jT R.length w) [vb false,sv [],.sl 2 []])).length=R.length:=by
   rw [jaD];simp [J1,ya];omega
  have b3:pB (zx (z8 (R.map jC) (0+w) (J1 (jT R.length w) [vb false,sv [],.sl 2 []]))) (kZ (z8 (R.map jC) (0+w) (J1 (jT R.length w) [vb false,sv [],.sl 2 []])) 0) (some (vi (w:Nat)))=some w:=by
   rw [jtD,yh,ln];exact yg (by omega)
  have tk:List.take (jT w 0) (z8 (R.map jC) (0+w) (J1 (jT R.length w) [vb false,sv [],.sl 2 []]))=(R.take w).map jC:=by
   rw [jaD,ya,Nat.sub_zero,Nat.zero_add,List.append_assoc,List.take_append_of_le_length (by rw [List.length_take,List.length_map];omega),List.take_take,Nat.min_self,List.map_take]
  have h1:kU (nA (s.length - k))=s.length - k:=rfl;rw [jiN];simp only [cev];rw [hd,cpG,List.append_nil,h1,hlt'];simp only [Option.bind_some,jaB,YJ,b1,b2,b3,tk]
 ·intro j hj ih hj1 w R hR hag hw p hp;obtain ⟨hp1,hp2⟩:=hp;have hi:k+j < s.length:=by omega
  have hlt':jp .lss false (vi ((j:Nat):Int)) (nA (s.length - k))=some (vb true):=by
   show some (vb (decide (((j:Nat):Int) < ((s.length - k:Nat):Int))))=_;rw [decide_eq_true (by omega)]
  have h1:kU (nA (s.length - k))=s.length - k:=rfl;have h2:kU (nA k)=k:=rfl;have x1:Ke (s.length - k) (vi ((j:Nat):Int))=some j:=zi hj;have c1:jp .sub false (vi ((j:Nat):Int)) (vi 1)=some (vi ((j - 1:Nat):Int)):=by
   rw [ji9,show ((j:Nat):Int) - 1=((j - 1:Nat):Int) by omega];exact jG (by omega) (by omega)
  have x2:Ke (s.length - k) (vi ((j - 1:Nat):Int))=some (j - 1):=zi (by omega);have a1:R[k+j]'(by omega)=s[k+j]:=jdp hag (by omega) (by omega) hi;have a2:R[k+(j - 1)]'(by omega)=p:=by
   rw [<-hp2];have:=jdp hag (i:=k+(j - 1)) (by omega) (by omega) (by omega);rw [this];congr 1;omega
  have r1:z7 (R.map jC) (k+j) 0 3=some (ltm s[k+j]):=by rw [jaI (by omega),a1]
  have r2:z7 (R.map jC) (k+(j - 1)) 0 3=some (ltm p):=by rw [jaI (by omega),a2]
  have zp:Tz p.2:=by rw [<-hp2];exact hz _ (List.getElem_mem _)
  have e1:=J8 s[k+j] p (hz _ (List.getElem_mem _)) zp;have h5:jp .add false (vi ((j:Nat):Int)) (vi 1)=some (vi ((j+1:Nat):Int)):=jr (i:=j) (n:=j+1) (by omega) (by omega);have hdr:s.drop (k+j)=s[k+j]::s.drop (k+(j+1)):=jo hi;have hag':R.drop (k+(j+1) - 1)=s.drop (k+(j+1) - 1):=by
   have:=congrArg (List.drop 1) hag;rw [List.drop_drop,List.drop_drop] at this;rwa [show k+j - 1+1=k+(j+1) - 1 by omega] at this
  have hx:∃h:k+(j+1) - 1 < s.length,s[k+(j+1) - 1]=s[k+j]:=⟨by omega,by congr 1⟩;rw [jiN];simp only [cev];rw [hdr,cpG,h1,h2,hlt'];cases hq:eqL s[k+j] p<;>rw [hq] at e1
  ·rw [if_neg Bool.false_ne_true];have x3:Ke R.length (vi (w:Nat))=some w:=zi (by omega);have rg:je2 (R.map jC) w=some (jC (R[w]'(by omega))):=by unfold je2;simp [show w < R.length by omega]
   have co:∀x y:Lt,Kh (jC x) 0 [vb y.1,sv y.2.name,jY y.2.args]=jC y:=λx y=>rfl;have rs:J2 (R.map jC) w (jC s[k+j])=(R.set w s[k+j]).map jC:=by unfold J2;rw [List.map_set]
   have h6:jp .add false (vi ((w:Nat):Int)) (vi 1)=some (vi ((w+1:Nat):Int)):=jr (i:=w) (n:=w+1) (by omega) (by omega);have:=ih (by omega) (w+1) (R.set w s[k+j]) (by rw [List.length_set];exact hR) (by rw [List.drop_set_of_lt (by omega)];exact hag') (by omega) s[k+j] hx;have tk:(R.set w s[k+j]).take (w+1)=R.take w++[s[k+j]]:=by
    rw [List.take_add_one,List.take_set_of_le (Nat.le_refl _),List.getElem?_set_self (by omega)];rfl
   rw [tk,List.append_assoc] at this;simp only [jd,x1,r1,c1,x2,r2,e1,x3,rg,co,rs,h6,h5];rw [this];rfl
  ·rw [if_pos rfl];have:=ih (by omega) w R hR hag' (by omega) s[k+j] hx;simp only [jd,x1,r1,c1,x2,r2,e1,h5];exact this
theorem jpv (s:List Lt) (hl:s.length<=1000000) (hz:∀x∈s,Tz x.2):∀k,k<=s.length->1<=k-> ∀p:Lt,(∃h:k - 1 < s.length,s[k - 1]=p)->Q1 (vi (k:Nat)) (s.map jC)=some (.top,[.sl 3 ((s.take k++cpG p (s.drop k)).map jC)]):=by
 refine upto ?_ ?_
 ·intro _ p _;rw [jiM,List.drop_length,cpG,List.append_nil,List.take_length];simp only [jd]
 ·intro k hk ih hk1 p hp;obtain ⟨hp1,hp2⟩:=hp;have hlt:((k:Nat):Int) < ((s.length:Nat):Int):=by omega
  have x1:Ke (jh (s.map jC)) (vi (k:Nat))=some k:=joc hk;have c1:ck (((k:Nat):Int) - 1)=some (vi ((k - 1:Nat):Int)):=by
   rw [show ((k:Nat):Int) - 1=((k - 1:Nat):Int) by omega];exact jG (by omega) (by omega)
  have x2:Ke (jh (s.map jC)) (vi ((k - 1:Nat):Int))=some (k - 1):=joc hp1;have r1:=jaI hk;have r2:z7 (s.map jC) (k - 1) 0 3=some (ltm p):=by rw [jaI hp1,hp2]
  have zp:Tz p.2:=by rw [<-hp2];exact hz _ (List.getElem_mem _)
  have e1:=J8 s[k] p (hz _ (List.getElem_mem _)) zp;have h5:=jr hk (by show s.length<=9223372036854775807;omega);rw [jiM,jo hk,cpG];rw [jeq,List.length_map] at x1 x2;cases hq:eqL s[k] p<;>rw [hq] at e1
  ·have ih:=ih (by omega) s[k] ⟨by omega,by congr 1⟩;rw [List.take_add_one,List.getElem?_eq_getElem hk,List.append_assoc] at ih;rw [if_neg Bool.false_ne_true];simp only [jd,hlt,x1,r1,c1,x2,r2,e1,h5];exact ih
  ·have b1:pB (zx (s.map jC)) (kZ (s.map jC) 0) none=some s.length:=by
    rw [zX,show kZ (s.map jC) 0=s.length by rw [yh,List.length_map];rfl];exact zc (Nat.le_refl _)
   have b2:pB 0 s.length (some (vi (k:Nat)))=some k:=yg (by omega);have:=jpw s hl hz k hk 1 (by omega) (Nat.le_refl _) k s rfl rfl (Nat.le_refl _) s[k] ⟨by omega,rfl⟩;rw [if_pos rfl];simp only [jd,hlt,x1,r1,c1,x2,r2,e1,b1,b2,ya];exact this
theorem jkH (s:List Lt) (hl:s.length<=1000000) (hz:∀x∈s,Tz x.2):jkn (s.map jC)=some (.top,[.sl 3 ((jaj eqL s).map jC)]):=by
 rw [jvQ]
 match s,hl,hz with
 | [],_,_=>simp only [jd];rfl
 | [a],_,_=>simp only [jd];rfl
 | a::b::r,hl,hz=>
  have:=jpv (a::b::r) hl hz 1 (by simp) (Nat.le_refl _) a ⟨by simp,rfl⟩;rw [jip];have hlt:¬(((a::b::r).length:Nat):Int) < 2:=by simp only [List.length_cons];omega
  generalize hx:a::b::r=x at *;simp only [jd,hlt];rw [<-hx] at this ⊢;exact this
theorem joy (l:List Lt) (hl:l.length<=1000000) (hk:∀x∈l,Rx' x.2) (hz:∀x∈l,Tz x.2):∃s:List Lt,s.Perm l/\s.Pairwise (λa b=>¬cmpL b a < 0)/\jkm (l.map jC)=some (.top,[.sl 3 (s.map jC)]):=by
 obtain ⟨s,h1,h2,h3⟩:=jiu yi id jC 3 71 rfl l (by omega) λx hx y hy=>JV x y (hk x hx) (hz x hx) (hk y hy) (hz y hy);exact ⟨s,h1,h2,by rw [jvP];exact h3⟩
theorem jbH (l:List Lt) (hl:l.length<=1000000) (hk:∀x∈l,Rx' x.2) (hz:∀x∈l,Tz x.2):G 120 [.sl 3 (l.map jC)]=some (cm (zo cmpL l),[]):=by
 obtain ⟨s,h1,h2,h3⟩:=joy l hl hk hz;have h4:=jkH s (by rw [h1.length_eq];exact hl) λx hx=>hz x (h1.mem_iff.1 hx);rw [jtm yi Zk h2 λx=>h1.mem_iff] at h4;have key:=upto (P:=λi=>jgn (.sl 3 (l.map jC)) (vi (l.length:Nat)) (vi (i:Nat)) [] ((l.take i).map jC)=some (cm (zo cmpL l),[])) (n:=l.length) ?_ ?_ 0 (Nat.zero_le _)
 ·simp only [Int.natCast_zero,List.take_zero,List.map_nil] at key;rw [jzm];simp only [jd,key]
 ·have r1:∀s:List Lt,hR 3 (A.top,[.sl 3 (s.map jC)]) 0=some (s.map jC):=λs=>rfl;rw [jqa,List.take_length];simp only [jd,h3,r1,h4]
 ·intro i hi ih;have hlt:(i:Int) < ((l.length:Nat):Int):=by omega
  have h5:=jr hi (by show l.length<=9223372036854775807;omega)
  have e1:=ZV l[i] (hz _ (List.getElem_mem _));have ta:=K7 (f:=jC) hi;have tl:=take_len (f:=jC) (Nat.le_of_lt hi);have hf:jB (i+1) 48=true:=J0 (by omega);generalize (l.take i).map jC=R at *;rw [jqa];simp only [jd,hlt,ja hi,zN,e1,tl,hf,ta,h5,ih]
theorem jeU (l:jO) (hl:l.length<=1000000) (hz:∀x∈l,Tz x.2):G 59 [cm l]=some (cm l,[]):=by
 have key:=upto (P:=λi=>jl1 (.sl 3 (l.map jC)) (vi (l.length:Nat)) (vi (i:Nat)) [] ((l.take i).map jC)=some (cm l,[])) (n:=l.length) ?_ ?_ 0 (Nat.zero_le _)
 ·simp only [Int.natCast_zero,List.take_zero,List.map_nil] at key;rw [g59];simp only [jd,key]
 ·rw [juL,List.take_length];simp only [jd]
 ·intro i hi ih;have hlt:(i:Int) < ((l.length:Nat):Int):=by omega
  have h5:=jr hi (by show l.length<=9223372036854775807;omega)
  have e1:=ZV l[i] (hz _ (List.getElem_mem _));have ta:=K7 (f:=jC) hi;have tl:=take_len (f:=jC) (Nat.le_of_lt hi);have hf:jB (i+1) 48=true:=J0 (by omega);generalize (l.take i).map jC=R at *;rw [juL];simp only [jd,hlt,ja hi,zN,e1,tl,hf,ta,h5,ih]
theorem jiD (c:jO) (hl:c.length<=1048576) (hz:∀l∈c,Tz l.2):G 29 [cm c]=qy (if zs c then some c else none):=by
 have e1:=KV c hl hz;rw [g29];cases hv:zs c<;>rw [hv] at e1
 ·rw [if_neg Bool.false_ne_true];simp only [jd,e1];rfl
 ·rw [if_pos rfl];simp only [jd,e1];rfl
noncomputable def sameC (a b:jO):Bool:=dq a b
theorem jpN (a b:Lt):dq a b=eqL a b:=by
 cases h:eqL a b with
 | true=>exact qk.2 ((Zk a b).1 h)
 | false=>exact jdo.2 λe=>by rw [(Zk a b).2 e] at h;cases h
theorem je4 (a b:jO) (hl:a.length<=1048576) (ha:∀l∈a,Tz l.2) (hb:∀l∈b,Tz l.2):G 93 [cm a,cm b]=some (vb (dq a b),[]):=by
 rw [g93];have key:G 148 [.sl 3 (a.map jC),.sl 3 (b.map jC),.fn 149 []]=some (vb (dq a b),[]):=by
  rw [jzE];by_cases hlen:a.length=b.length
  ·have key:=upto (P:=λi=>jgv (.sl 3 (b.map jC)) (.fn 149 []) (.sl 3 (a.map jC)) (vi (a.length:Nat)) (vi (i:Nat))=some (vb (dq (a.drop i) (b.drop i)),[])) (n:=a.length) ?_ ?_ 0 (Nat.zero_le _)
   ·simp only [Int.natCast_zero,List.drop_zero] at key;rw [hlen] at key;simp only [jd,hlen,key]
   ·rw [jqp,List.drop_length,List.drop_eq_nil_of_le (by omega),jak];simp only [jd]
   ·intro i hi ih;have hi2:i < b.length:=by omega
    have hlt:(i:Int) < ((a.length:Nat):Int):=by omega
    have h5:=jr hi (by show a.length<=9223372036854775807;omega)
    have e1:=J8 a[i] b[i] (ha _ (List.getElem_mem _)) (hb _ (List.getElem_mem _));have hp:K.pureF 149=true:=rfl;have cc:DX.run K (MM K) (.callc (.fn 149 []) [ltm a[i],ltm b[i]] false)=some (vb (eqL a[i] b[i])):=by
     rw [yN hp,List.append_nil,e1];rfl
    rw [jqp,jo hi,jo hi2,jcC,jpN];cases hq:eqL a[i] b[i]<;>rw [hq] at cc
    ·rw [Bool.false_and];simp only [jd,hlt,ja hi,ja hi2,zN,cc]
    ·rw [Bool.true_and];simp only [jd,hlt,ja hi,ja hi2,zN,cc,h5,ih]
  ·have hne:¬((a.length:Nat):Int)=((b.length:Nat):Int):=by omega
   rw [jgY hlen];simp only [jd,hne]
 simp only [jd,key]
theorem jnQ (a b:jO) (hl:a.length<=1048576) (ha:∀l∈a,Tz l.2) (hb:∀l∈b,Tz l.2):G 99 [cm a,cm b]=some (vb (dq a b),[]):=by
 rw [g99];by_cases hlen:a.length=b.length
 ·have key:=upto (P:=λi=>jmb (vi (i:Nat)) (.sl 3 (a.map jC)) (.sl 3 (b.map jC))=some (vb (dq (a.drop i) (b.drop i)),[])) (n:=a.length) ?_ ?_ 0 (Nat.zero_le _)
  ·simp only [Int.natCast_zero,List.drop_zero] at key;simp only [jd,hlen,key]
  ·rw [ju4,List.drop_length,List.drop_eq_nil_of_le (by omega),jak];simp only [jd]
  ·intro i hi ih;have hi2:i < b.length:=by omega
   have hlt:(i:Int) < ((a.length:Nat):Int):=by omega
   have h5:=jr hi (by show a.length<=9223372036854775807;omega)
   have e1:=KX a[i].2 (ha _ (List.getElem_mem _)).wf b[i].2 (hb _ (List.getElem_mem _)).wf;have ld:∀l:Lt,kJ (.elt (jC l) 0)=some (vb l.1):=λl=>rfl;have ad:∀(l:Lt) (n:Nat),yJ (.elt (jC l) 0) n=some (.elt (jC l) n):=λl n=>by rw [yQ,Nat.zero_add]
   have ld2:∀l:Lt,jZ 2 (.elt (jC l) 1)=some (tm l.2):=λl=>rfl;rw [ju4,jo hi,jo hi2,jcC,jpN,eqL];by_cases hs:a[i].1=b[i].1
   ·rw [decide_eq_true hs,Bool.true_and];cases hq:dq a[i].2 b[i].2<;>rw [hq] at e1
    ·rw [Bool.false_and];simp only [jd,hlt,ja hi,ja hi2,ad,ld,ld2,hs,e1]
    ·rw [Bool.true_and];simp only [jd,hlt,ja hi,ja hi2,ad,ld,ld2,hs,e1,h5,ih]
   ·rw [decide_eq_false hs,Bool.false_and,Bool.false_and];simp only [jd,hlt,ja hi,ja hi2,ad,ld,hs]
 ·have hne:¬((a.length:Nat):Int)=((b.length:Nat):Int):=by omega
  rw [jgY hlen];simp only [jd,hne]
theorem jnd {α:Type} {p:α->Bool} {l:List α} {k:Nat} (hk:k<=l.length) (h1:∀j,(h:j < k)-> ∀h':j < l.length,p l[j]=true) (h2:(∃h:k < l.length,p l[k]=false)\/k=l.length):l.takeWhile p=l.take k/\l.dropWhile p=l.drop k:=by
 have hp:∀a∈l.take k,p a=true:=λa ha=>by
  obtain ⟨j,hj,rfl⟩:=List.mem_iff_getElem.1 ha;rw [List.length_take] at hj;rw [List.getElem_take];exact h1 j (by omega) (by omega)
 have e:=List.takeWhile_append_of_pos (l₂:=l.drop k) hp;have e':=List.dropWhile_append_of_pos (l₂:=l.drop k) hp;rw [List.take_append_drop] at e e';rw [e,e'];rcases h2 with ⟨h,h2⟩|h
 ·rw [jo h,List.takeWhile_cons_of_neg (by simp [h2]),List.dropWhile_cons_of_neg (by simp [h2]),List.append_nil];exact ⟨rfl,rfl⟩
 ·rw [h,List.drop_length];simp
theorem jcE (u:List Lt) (hl:u.length<=900000) (i:Nat) (hi:i<=u.length) (x:Lt) :
  pB (zx (u.map jC)) (kZ (u.map jC) 0) (some (vi (i:Nat)))=some i/\zC (u.map jC) 0 (jT i 0)=(u.take i).map jC/\jB (u.take i).length 48=true/\pB (zx (u.map jC)) (kZ (u.map jC) 0) none=some u.length/\pB 0 u.length (some (vi (i:Nat)))=some i/\zC (u.map jC) i (jT u.length i)=(u.drop i).map jC/\
  jB ((u.take i).length+1) 48=true/\jB ((jL ((u.take i).map jC) [jC x]).length+((u.drop i).map jC).length) 48=true/\jL (jL ((u.take i).map jC) [jC x]) ((u.drop i).map jC)=(u.take i++x::u.drop i).map jC:=by
 have e1:zx (u.map jC)=u.length:=zX jC u;have e2:kZ (u.map jC) 0=u.length:=by rw [yh,List.length_map];rfl
 refine ⟨by rw [e1,e2];exact yg hi,by rw [jcK,ya,Nat.sub_zero,List.drop_zero,List.map_take],?_,by rw [e1,e2];exact zc (Nat.le_refl _),yg hi,?_,?_,?_,?_⟩
 ·rw [List.length_take];exact J0 (by omega)
 ·rw [jcK,ya,<-List.map_drop,List.take_of_length_le (by rw [List.length_map,List.length_drop];omega)]
 ·rw [List.length_take];exact J0 (by omega)
 ·exact J0 (by unfold jL;rw [List.length_append,List.length_map,List.length_map,List.length_take,List.length_drop];simp only [List.length_cons,List.length_nil];omega)
 ·unfold jL;rw [List.map_append,List.append_assoc];rfl
theorem jiR (l:List Lt) (hl:l.length<=1000) (hz:∀x∈l,Tz x.2) (i:Nat) (hi:i < l.length) (u:List Lt) (hu:u.length<=1000) (hzu:∀x∈u,Tz x.2):∀k,k<=u.length->(∀j,(h:j < k)-> ∀h':j < u.length,cmpL u[j] l[i] < 0)->
  jl0 (.sl 3 (l.map jC)) (vi (i:Nat)) (vi (k:Nat)) (u.map jC) []=je7 (.sl 3 (l.map jC)) (vi ((i+1:Nat):Int)) ((Jm cmpL u l[i]).map jC) []:=by
 have h5:=jr hi (by show l.length<=9223372036854775807;omega)
 have ld:∀l:Lt,kJ (.elt (jC l) 0)=some (vb l.1):=λl=>rfl;have ad:∀(l:Lt) (n:Nat),yJ (.elt (jC l) 0) n=some (.elt (jC l) n):=λl n=>by rw [yQ,Nat.zero_add]
 have ld2:∀l:Lt,jZ 2 (.elt (jC l) 1)=some (tm l.2):=λl=>rfl;have e2:=QI l[i].2 (hz _ (List.getElem_mem _));have hck:ck ((i:Int)+1)=some (vi ((i+1:Nat):Int)):=jG (by omega) (by omega);refine upto ?_ ?_
 ·intro hall;obtain ⟨t1,t2⟩:=jnd (p:=λa=>decide (cmpL a l[i] < 0)) (Nat.le_refl u.length) (λj h h'=>decide_eq_true (hall j h h')) (Or.inr rfl);obtain ⟨k1,k2,k3,k4,k5,k6,k7,k8,k9⟩:=jcE u (by omega) u.length (Nat.le_refl _) l[i];have hins:Jm cmpL u l[i]=u.take u.length++l[i]::u.drop u.length:=by
   unfold Jm;rw [t1,t2,List.drop_length,if_neg (by simp)]
  rw [hins,juK];simp only [cev];have hlt:jp .lss false (vi (u.length:Nat)) (zv (u.map jC))=some (vb false):=by
   rw [Kt,List.length_map,ji8,decide_eq_false (by omega)]
  simp only [hlt,Option.bind_some,jjf,jvc,Bool.false_eq_true,if_false,decide_false,decide_true,jjc,jaB,YJ,jdg,ja hi,ad,ld,ld2,jiv];simp only [jd,hlt,ja hi,ad,ld,ld2,e2];generalize hB:j7 _ _ _=B;have hB':B=some (ltm l[i]):=by rw [<-hB];kernel_rfl
  rw [hB'];simp only [jd,k1,k2,k4,k5];rw [if_pos k3,if_pos k7,k6,if_pos k8,hck,Option.bind_some,k9]
 ·intro k hk ih hall;have hlt:((k:Nat):Int) < ((u.length:Nat):Int):=by omega
  have x1:Ke u.length (vi (k:Nat))=some k:=zi hk;have r1:=jaI hk;have e1:=KH u[k] l[i] (hzu _ (List.getElem_mem _)) (hz _ (List.getElem_mem _));rw [juK];by_cases hc:cmpL u[k] l[i] < 0
  ·have ih:=ih λj h h'=>by
    by_cases hj:j=k
    ·subst hj;exact hc
    ·exact hall j (by omega) h'
   have hk1:ck ((k:Int)+1)=some (vi ((k+1:Nat):Int)):=jG (by omega) (by omega);generalize cmpL u[k] l[i]=d at *;simp only [jd,hlt,x1,r1,ja hi,zN,e1,hc,hk1];exact ih
  ·obtain ⟨t1,t2⟩:=jnd (p:=λa=>decide (cmpL a l[i] < 0)) (Nat.le_of_lt hk) (λj h h'=>decide_eq_true (hall j h h')) (Or.inl ⟨hk,decide_eq_false hc⟩);have hins:Jm cmpL u l[i]=if cmpL u[k] l[i]=0 then u else u.take k++l[i]::u.drop k:=by
    unfold Jm;rw [t1,t2,jo hk];by_cases h0:cmpL u[k] l[i]=0
    ·rw [if_pos h0];exact if_pos (decide_eq_true h0)
    ·rw [if_neg h0];exact if_neg (λe=>h0 (of_decide_eq_true e))
   rw [hins];by_cases h0:cmpL u[k] l[i]=0
   ·rw [if_pos h0];rw [h0] at e1;simp only [jd,hlt,x1,r1,ja hi,zN,e1,hck]
   ·obtain ⟨k1,k2,k3,k4,k5,k6,k7,k8,k9⟩:=jcE u (by omega) k (Nat.le_of_lt hk) l[i];rw [if_neg h0];generalize cmpL u[k] l[i]=d at *;simp only [jd,hlt,x1,r1,ja hi,zN,e1,hc,h0,ad,ld,ld2,e2];generalize hB:j7 _ _ _=B;have hB':B=some (ltm l[i]):=by rw [<-hB];kernel_rfl
    rw [hB'];simp only [jd,k1,k2,k4,k5];rw [if_pos k3,if_pos k7,k6,if_pos k8,hck,Option.bind_some,k9]
theorem jiE {u:List Lt} (hu:Asc cmpL u) (x:Lt) {y:Lt} :y∈Jm cmpL u x↔y∈u\/y=x:=(jav yi hu x).2 y
theorem YQ (l:List Lt) (hl:l.length<=900) (hz:∀x∈l,Tz x.2):G 53 [.sl 3 (l.map jC)]=some (cm (zo cmpL l),[]):=by
 have key:=upto (P:=λi=>∀u:List Lt,Asc cmpL u->u.length<=i->(∀x∈u,Tz x.2)->je7 (.sl 3 (l.map jC)) (vi (i:Nat)) (u.map jC) []=some (cm ((l.drop i).foldl (Jm cmpL) u),[])) (n:=l.length) ?_ ?_ 0 (Nat.zero_le _) [] List.Pairwise.nil (Nat.le_refl _) (λx h=>by cases h)
 ·rw [List.drop_zero] at key;simp only [Int.natCast_zero,List.map_nil] at key;rw [g53,key];rfl
 ·intro u _ _ _;rw [juJ,List.drop_length];simp only [jd];rfl
 ·intro i hi ih u ha hu hzu;have hlt:(i:Int) < ((l.length:Nat):Int):=by omega
  have:=jiR l (by omega) hz i hi u (by omega) hzu 0 (Nat.zero_le _) (λj h=>absurd h (Nat.not_lt_zero _));simp only [Int.natCast_zero] at this;have h2:=ih (Jm cmpL u l[i]) (jav yi ha l[i]).1 (by have:=jdx cmpL u l[i];omega) λx hx=>by
   rcases (jiE ha l[i]).1 hx with h|h
   ·exact hzu x h
   ·rw [h];exact hz _ (List.getElem_mem _)
  rw [juJ,jo hi,List.foldl_cons];simp only [jd,hlt,this,h2]
theorem CN.ren_tz {p:UInt8} (hp:upc p=true) {c:jO} (h:CN c):∀x∈c.map (λl=>(l.1,kg (ku p (j8 c)) l.2)),Rx' x.2/\Tz x.2:=λx hx=>⟨(h.ren hp x hx).1.rx,(h.ren hp x hx).1.tz (by have:=(h.ren hp x hx).2;omega)⟩
theorem Qo (p:UInt8) (c:jO) (h:CN c) (ns:List (List UInt8)) (hn:∀n∈ns,jk n=true) (hr:∀x∈c.map (λl=>(l.1,kg (ku p ns) l.2)),Rx' x.2/\Tz x.2):G 73 [cm c,.mp ((qC p 0 ns).map kn)]=some (cm (zo cmpL (c.map λl=>(l.1,kg (ku p ns) l.2))),[]):=by
 have h8:=h.1;have e3:=jbH (c.map λl=>(l.1,kg (ku p ns) l.2)) (by rw [List.length_map];omega) (λx hx=>(hr x hx).1) λx hx=>(hr x hx).2;generalize hd:c.map (λl=>(l.1,kg (ku p ns) l.2))=d at *;have hdl:d.length=c.length:=by rw [<-hd,List.length_map]
 have key:=upto (P:=λi=>jl3 (.mp ((qC p 0 ns).map kn)) (.sl 3 (c.map jC)) (vi (c.length:Nat)) (vi (i:Nat)) ((d.take i).map jC) []=some (cm (zo cmpL d),[])) (n:=c.length) ?_ ?_ 0 (Nat.zero_le _)
 ·simp only [Int.natCast_zero,List.take_zero,List.map_nil] at key;rw [g73];simp only [jd,key]
 ·rw [juN,<-hdl,List.take_length];simp only [jd,e3]
 ·intro i hi ih;have hi2:i < d.length:=by omega
  have hlt:(i:Int) < ((c.length:Nat):Int):=by omega
  have h5:=jr hi (by show c.length<=9223372036854775807;omega)
  have e1:=jjA p ns hn c[i].2 (h.rx _ (List.getElem_mem _)) (h.tz _ (List.getElem_mem _));have hdi:d[i]=(c[i].1,kg (ku p ns) c[i].2):=by simp only [<-hd,List.getElem_map]
  have ta:=K7 (f:=jC) hi2;have tl:=take_len (f:=jC) (Nat.le_of_lt hi2);have hf:jB (i+1) 48=true:=J0 (by omega);rw [hdi] at ta;generalize (d.take i).map jC=R at *;generalize kg (ku p ns) c[i].2=u at *;rw [juN];simp only [jd,hlt,ja hi,zN,e1];generalize hB:j7 _ _ _=B;have hB':B=some (ltm (c[i].1,u)):=by rw [<-hB];kernel_rfl
  rw [hB'];have hck:ck ((i:Int)+1)=some (vi ((i+1:Nat):Int)):=jG (by omega) (by omega);simp only [jd,tl,hf,ta,hck,ih]
theorem jhg (p:UInt8) (c:jO) (h:CN c) (ns:List (List UInt8)) (hl:ns.length<=1000) (hr:∀x∈c.map (λl=>(l.1,kg (ku p ns) l.2)),Rx' x.2/\Tz x.2):G 79 [cm c,strs ns,sv [p]]=some (cm (zo cmpL (c.map λl=>(l.1,kg (ku p ns) l.2))),[]):=by
 have h8:=h.1;have e3:=YQ (c.map λl=>(l.1,kg (ku p ns) l.2)) (by rw [List.length_map];omega) (λx hx=>(hr x hx).2);generalize hd:c.map (λl=>(l.1,kg (ku p ns) l.2))=d at *;have hdl:d.length=c.length:=by rw [<-hd,List.length_map]
 have key:=upto (P:=λi=>jl6 (strs ns) (sv [p]) (vi (i:Nat)) (.sl 3 (c.map jC)) ((d.take i).map jC) []=some (cm (zo cmpL d),[])) (n:=c.length) ?_ ?_ 0 (Nat.zero_le _)
 ·simp only [Int.natCast_zero,List.take_zero,List.map_nil] at key;rw [g79];simp only [jd,key]
 ·rw [juR,<-hdl,List.take_length];have hlt:¬((d.length:Nat):Int) < ((c.length:Nat):Int):=by omega
  simp only [jd,hlt,e3]
 ·intro i hi ih;have hi2:i < d.length:=by omega
  have hlt:(i:Int) < ((c.length:Nat):Int):=by omega
  have h5:=jr hi (by show c.length<=9223372036854775807;omega)
  have e1:=jiQ p ns hl c[i].2 (h.tz _ (List.getElem_mem _));have hdi:d[i]=(c[i].1,kg (ku p ns) c[i].2):=by simp only [<-hd,List.getElem_map]
  have ta:=K7 (f:=jC) hi2;have tl:=take_len (f:=jC) (Nat.le_of_lt hi2);have hf:jB (i+1) 48=true:=J0 (by omega);have ld:∀l:Lt,kJ (.elt (jC l) 0)=some (vb l.1):=λl=>rfl;have ad:∀(l:Lt) (n:Nat),yJ (.elt (jC l) 0) n=some (.elt (jC l) n):=λl n=>by rw [yQ,Nat.zero_add]
  have ld2:∀l:Lt,jZ 2 (.elt (jC l) 1)=some (tm l.2):=λl=>rfl;rw [hdi] at ta;generalize (d.take i).map jC=R at *;generalize kg (ku p ns) c[i].2=u at *;rw [juR];simp only [jd,hlt,ja hi,ad,ld,ld2,e1];generalize hB:j7 _ _ _=B;have hB':B=some (ltm (c[i].1,u)):=by rw [<-hB];kernel_rfl
  rw [hB'];have hck:ck ((i:Int)+1)=some (vi ((i+1:Nat):Int)):=jG (by omega) (by omega);simp only [jd,tl,hf,ta,hck,ih]
theorem jbt (p:UInt8) (hp:upc p=true) (c:jO) (h:CN c):G 73 [cm c,.mp ((qC p 0 (j8 c)).map kn)]=some (cm (renC p c),[]):=Qo p c h (j8 c) (λn=>QF) (h.ren_tz hp)
theorem jbS (p:UInt8) (hp:upc p=true) (c:jO) (h:CN c):G 79 [cm c,strs (j8 c),sv [p]]=some (cm (renC p c),[]):=jhg p c h (j8 c) (by have:=yl h;omega) (h.ren_tz hp)
theorem jfz (c:jO) (h:CN c):G 75 [cm c]=some (strs (j8 c),[]):=jd4 c (by have:=h.1;omega) h.rx h.tz λl hl=>by have:=(h.2 l hl).2;omega
theorem jfA (c:jO) (h:CN c):G 80 [cm c]=some (strs (j8 c),[]):=jdR c (by have:=h.1;omega) h.tz λl hl=>by have:=(h.2 l hl).2;omega
theorem jd7:∀(k i:Nat),k+i=10-> ∀c:jO,CN c->jlS (vi (i:Nat)) (.sl 3 (c.map jC)) []=some (cm (normF k c),[])
 | 0,i,hk,c,h=>by
  have hi:((i:Nat):Int)=10:=by omega
  rw [juw,normF,hi];simp only [jd]
 | k+1,i,hk,c,h=>by
  have hlt:((i:Nat):Int) < 10:=by omega
  have e1:=ZF c h;rw [juw,normF];cases hn:qm c<;>rw [hn] at e1
  ·have hl:=yl h;have e2:=jfz c h;have e3:=jjB 88 (j8 c) (Zo c) (by omega);have e4:=jbt 88 (by decide) c h;have hck:ck ((i:Int)+1)=some (vi ((i+1:Nat):Int)):=jG (by omega) (by omega);have ih:=jd7 k (i+1) (by omega) (renC 88 c) (h.renC (by decide));rw [if_neg Bool.false_ne_true];simp only [jd,hlt,e1,e2,e3,e4,hck,ih]
  ·rw [if_pos rfl];simp only [jd,hlt,e1]
theorem jhn (c:jO) (h:CN c):G 30 [cm c]=some (cm (normC c),[]):=by
 have e1:=jeU c (by have:=h.1;omega) h.tz
 have e2:=jd7 10 0 rfl c h;simp only [Int.natCast_zero] at e2;rw [g30];simp only [jd,e1,e2];rfl
theorem jd8:∀(k i:Nat),k+i=10-> ∀c:jO,CN c->jlU (vi (i:Nat)) (.sl 3 (c.map jC)) []=some (.tup [cm (normF k c),vb (zs (normF k c))],[])
 | 0,i,hk,c,h=>by
  have hi:((i:Nat):Int)=10:=by omega
  have e0:=KY c (by have:=h.1;omega) h.tz
  rw [juy,normF,hi];simp only [jd,e0]
 | k+1,i,hk,c,h=>by
  have hlt:((i:Nat):Int) < 10:=by omega
  have e0:=KY c (by have:=h.1;omega) h.tz
  have e1:=KG c h;rw [juy,normF];cases hn:qm c<;>rw [hn] at e1
  ·have e2:=jfA c h;have e4:=jbS 88 (by decide) c h;have hck:ck ((i:Int)+1)=some (vi ((i+1:Nat):Int)):=jG (by omega) (by omega);have ih:=jd8 k (i+1) (by omega) (renC 88 c) (h.renC (by decide));rw [if_neg Bool.false_ne_true];simp only [jd,hlt,e1,e2,e4,hck,ih]
  ·rw [if_pos rfl];simp only [jd,hlt,e1,e0]
theorem jbR (c:jO) (h:CN c) (ha:Asc cmpL c):G 32 [cm c]=some (.tup [cm (normC c),vb (zs (normC c))],[]):=by
 have e1:=YQ c (by have:=h.1;omega) h.tz
 rw [jiW ha] at e1;have e2:=jd8 10 0 rfl c h;simp only [Int.natCast_zero] at e2;rw [g32];simp only [jd,e1,e2];rfl
end Go.Proofs.YtdbgbieenhcldaaGreatDoor
