/- Pb -/
import Derived.Test.YtdbgbieenhcldaaGreatDoorPa
namespace Go.Proofs.YtdbgbieenhcldaaGreatDoor
open Go Go.RowKit Go.Proofs.YtdbgbieenhcldaaGreatDoor.Abs
set_option linter.unusedSimpArgs false
set_option linter.unusedVariables false
set_option maxHeartbeats 1000000
def Rx' (t:T):Prop:=zO t=true\/(t.name = [61]/\ ∀u∈t.args,zO u=true)
theorem Rx'.args {t:T} (h:Rx' t):∀u∈t.args,Rx' u:=λu hu=>Or.inl (by
 rcases h with h|h
 ·exact zH h u hu
 ·exact h.2 u hu)
theorem Q2 (ts us:List T) (hl:ts.length<=1048576) (hlen:ts.length=us.length) (ih:∀t∈ts,∀u∈us,G 116 [tm t,tm u]=some (vi (kE t u),[])) :
  ∀i,i<=ts.length->jfe (kr ts) (kr us) (.fn 116 []) (kr ts) (vi (ts.length:Nat)) (vi (i:Nat))=some (vi (kx (ts.drop i) (us.drop i)),[]):=by
 refine upto ?_ ?_
 ·rw [jo6,List.drop_length,kx];simp only [jf,hlen]
 ·intro i hi ih';have hlt:(i:Int) < ((ts.length:Nat):Int):=by omega
  have hi2:i < us.length:=by omega
  have hge:¬((us.length:Nat):Int)<=(i:Int):=by omega
  have h5:=jv hi (by show ts.length<=9223372036854775807;omega)
  have e1:=ih ts[i] (List.getElem_mem _) us[i] (List.getElem_mem _);rw [jo6,jl hi,jl hi2,kx];by_cases hc:kE ts[i] us[i]=0
  ·rw [if_neg (λh=>h hc)];rw [hc] at e1;simp only [jf,hlt,jb hi,jb hi2,jk,hge,JZ (f:=116) rfl,List.append_nil,e1,h5,ih']
  ·rw [if_pos hc];generalize kE ts[i] us[i]=c at *;simp only [jf,hlt,jb hi,jb hi2,jk,hge,JZ (f:=116) rfl,List.append_nil,e1,hc]
theorem jbf:∀a:T,Rx' a->Tz a-> ∀b:T,Rx' b->Tz b->G 116 [tm a,tm b]=some (vi (kE a b),[]):=by
 refine T.ind λa ih ha za b hb zb=> ?_;have va:=Q6 a (ha.imp id λh=>h.1);have vb':=Q6 b (hb.imp id λh=>h.1);have hz:=za;unfold Tz at hz;rw [j4] at hz;have e1:=jaI a.name b.name;have e2:=jaH a.args.length b.args.length;have e3:=jpy (jT a.name b.name) (jV a.args.length b.args.length);have e4:a.args.length=b.args.length->G 161 [kr a.args,kr b.args,.fn 116 []]=some (vi (kx a.args b.args),[]):=λhlen=>by
  have key:=Q2 a.args b.args (by omega) hlen (λt ht u hu=>ih t ht (ha.args t ht) (za.args t ht) u (hb.args u hu) (zb.args u hu)) 0 (Nat.zero_le _);simp only [Int.natCast_zero,List.drop_zero] at key;rw [jxF];simp only [jf,key]
 rw [jxg,qE];unfold cK kU vF;cases h1:jh a.name<;>cases h2:jh b.name<;>rw [h1] at va<;>rw [h2] at vb'
 ·show _=some (vi (if (if jV 1 1≠0 then jV 1 1 else if jT a.name b.name≠0 then jT a.name b.name else jV a.args.length b.args.length)≠0 then (if jV 1 1≠0 then jV 1 1 else if jT a.name b.name≠0 then jT a.name b.name else jV a.args.length b.args.length) else kx a.args b.args),[]);rw [if_neg (show ¬jV 1 1≠0 by decide)];by_cases hz0:(if jT a.name b.name≠0 then jT a.name b.name else jV a.args.length b.args.length)=0
  ·have hlen:a.args.length=b.args.length:=by
    split at hz0
    ·rename_i h;exact absurd hz0 h
    ·exact (KZ.zero _ _).1 hz0
   rw [if_neg (λh=>h hz0)];rw [hz0] at e3;simp only [jf,va,vb',e1,e2,e3,e4 hlen]
  ·rw [if_pos hz0];generalize (if jT a.name b.name≠0 then jT a.name b.name else jV a.args.length b.args.length)=c at *;simp only [jf,va,vb',e1,e2,e3,hz0]
 ·have:(if (if jV 1 0≠0 then jV 1 0 else if jT a.name b.name≠0 then jT a.name b.name else jV a.args.length b.args.length)≠0 then (if jV 1 0≠0 then jV 1 0 else if jT a.name b.name≠0 then jT a.name b.name else jV a.args.length b.args.length) else kx a.args b.args)=1:=by
   rw [if_pos (show jV 1 0≠0 by decide),if_pos (show jV 1 0≠0 by decide)];rfl
  show _=some (vi (if (if jV 1 0≠0 then jV 1 0 else if jT a.name b.name≠0 then jT a.name b.name else jV a.args.length b.args.length)≠0 then (if jV 1 0≠0 then jV 1 0 else if jT a.name b.name≠0 then jT a.name b.name else jV a.args.length b.args.length) else kx a.args b.args),[]);rw [this];simp only [jf,va,vb']
 ·have:(if (if jV 0 1≠0 then jV 0 1 else if jT a.name b.name≠0 then jT a.name b.name else jV a.args.length b.args.length)≠0 then (if jV 0 1≠0 then jV 0 1 else if jT a.name b.name≠0 then jT a.name b.name else jV a.args.length b.args.length) else kx a.args b.args) = -1:=by
   rw [if_pos (show jV 0 1≠0 by decide),if_pos (show jV 0 1≠0 by decide)];rfl
  show _=some (vi (if (if jV 0 1≠0 then jV 0 1 else if jT a.name b.name≠0 then jT a.name b.name else jV a.args.length b.args.length)≠0 then (if jV 0 1≠0 then jV 0 1 else if jT a.name b.name≠0 then jT a.name b.name else jV a.args.length b.args.length) else kx a.args b.args),[]);rw [this];simp only [jf,va,vb']
 ·show _=some (vi (if (if jV 0 0≠0 then jV 0 0 else if jT a.name b.name≠0 then jT a.name b.name else jV a.args.length b.args.length)≠0 then (if jV 0 0≠0 then jV 0 0 else if jT a.name b.name≠0 then jT a.name b.name else jV a.args.length b.args.length) else kx a.args b.args),[]);rw [if_neg (show ¬jV 0 0≠0 by decide)];by_cases hz0:(if jT a.name b.name≠0 then jT a.name b.name else jV a.args.length b.args.length)=0
  ·have hlen:a.args.length=b.args.length:=by
    split at hz0
    ·rename_i h;exact absurd hz0 h
    ·exact (KZ.zero _ _).1 hz0
   rw [if_neg (λh=>h hz0)];rw [hz0] at e3;simp only [jf,va,vb',e1,e2,e3,e4 hlen]
  ·rw [if_pos hz0];generalize (if jT a.name b.name≠0 then jT a.name b.name else jV a.args.length b.args.length)=c at *;simp only [jf,va,vb',e1,e2,e3,hz0]
theorem jmC (x y:List UInt8):G 169 [sv x,sv y]=some (vi (jT x y),[]):=by
 rw [jxJ,Kh];cases h1:yk x y<;>cases h2:yk y x<;>simp only [jf,jeu,h1,h2]
theorem jcH (n m:List UInt8) (ts us:List T) (hl:ts.length<=1048576) (hlen:ts.length=us.length) (ih:∀t∈ts,∀u∈us,G 126 [tm t,tm u]=some (vi (kE t u),[])) :
  ∀i,i<=ts.length->jbW (vi (i:Nat)) (sv n) (kr ts) (sv m) (kr us)=some (vi (kx (ts.drop i) (us.drop i)),[]):=by
 refine upto ?_ ?_
 ·rw [joY,List.drop_length,kx];simp only [jf]
 ·intro i hi ih';have hlt:(i:Int) < ((ts.length:Nat):Int):=by omega
  have hi2:i < us.length:=by omega
  have h5:=jv hi (by show ts.length<=9223372036854775807;omega)
  have e1:=ih ts[i] (List.getElem_mem _) us[i] (List.getElem_mem _);rw [joY,jl hi,jl hi2,kx];by_cases hc:kE ts[i] us[i]=0
  ·rw [if_neg (λh=>h hc)];rw [hc] at e1;simp only [jf,hlt,jb hi,jb hi2,jk,e1,h5,ih']
  ·rw [if_pos hc];generalize kE ts[i] us[i]=c at *;simp only [jf,hlt,jb hi,jb hi2,jk,e1,hc]
theorem jjt (a b:T):kE a b=if jh a.name=true/\jh b.name=false then -1 else if jh a.name=false/\jh b.name=true then 1 else if ¬a.name=b.name then jT a.name b.name else if a.args.length < b.args.length then -1 else if b.args.length < a.args.length then 1 else kx a.args b.args:=by
 rw [qE];unfold cK kU vF;have hn:=zv.zero a.name b.name;have hzr:jV 1 1=0/\jV 0 0=0/\jV 0 1 = -1/\jV 1 0=1:=by decide
 obtain ⟨z1,z2,z3,z4⟩:=hzr;have hz:jV a.args.length b.args.length=if a.args.length < b.args.length then -1 else if b.args.length < a.args.length then 1 else 0:=rfl;cases h1:jh a.name<;>cases h2:jh b.name<;>simp only [Bool.false_eq_true,if_true,if_false,z1,z2,z3,z4,hz]
 all_goals have hs:=(zv.zero b.name b.name).2 rfl
 all_goals by_cases e:a.name=b.name
 all_goals by_cases l1:a.args.length < b.args.length
 all_goals by_cases l2:b.args.length < a.args.length
 all_goals first
  | (simp [e,hs,l1,l2];done)
  | (have ne:¬jT a.name b.name=0:=λh=>e (hn.1 h);simp only [ne_eq,e,ne,not_false_eq_true,not_true_eq_false,if_true,if_false,and_true,true_and,and_false,false_and,reduceCtorEq];done)
  | simp [l1,l2]
theorem jfN:∀a:T,Tz a-> ∀b:T,Tz b->G 126 [tm a,tm b]=some (vi (kE a b),[]):=by
 refine T.ind λa ih za b zb=> ?_;have va:=J6 a.name (((zs a).1 za.wf).1);have vb':=J6 b.name (((zs b).1 zb.wf).1);have hz:=za;unfold Tz at hz;rw [j4] at hz;have e1:=jmC a.name b.name;have e4:a.args.length=b.args.length->jbW (vi 0) (sv a.name) (kr a.args) (sv b.name) (kr b.args)=some (vi (kx a.args b.args),[]):=λhlen=>by
  have key:=jcH a.name b.name a.args b.args (by omega) hlen (λt ht u hu=>ih t ht (za.args t ht) u (zb.args u hu)) 0 (Nat.zero_le _);simp only [Int.natCast_zero,List.drop_zero] at key;exact key
 rw [jxo,jjt];have main:∀p:Bool,G 100 [sv a.name]=some (vb p,[])->G 100 [sv b.name]=some (vb p,[])->_:=λp _ _=>trivial;clear main;cases h1:jh a.name<;>cases h2:jh b.name<;>rw [h1] at va<;>rw [h2] at vb'
 all_goals by_cases en:a.name=b.name
 all_goals try (exfalso;rw [en,h2] at h1;cases h1;done)
 all_goals by_cases l1:a.args.length < b.args.length
 all_goals by_cases l2:b.args.length < a.args.length
 all_goals have l1':(((a.args.length:Nat):Int) < ((b.args.length:Nat):Int))=(a.args.length < b.args.length):=propext (by omega)
 all_goals have l2':(((b.args.length:Nat):Int) < ((a.args.length:Nat):Int))=(b.args.length < a.args.length):=propext (by omega)
 all_goals first
  | (have e4:=e4 (by omega);rw [en] at e4;simp only [jf,va,vb',e1,en,l1,l2,l1',l2',e4,and_true,true_and,and_false,false_and];done)
  | (simp only [jf,va,vb',e1,en,l1,l2,l1',l2',and_true,true_and,and_false,false_and];done)
  | (simp only [jf,va,vb',e1,en,l1,l2,l1',l2',and_true,true_and,and_false,false_and])
abbrev jC (l:Lt):List A:=[vb l.1,sv l.2.name,.sl 2 (l.2.args.map jy)]
abbrev ltm (l:Lt):A:= .agg [vb l.1,sv l.2.name,.sl 2 (l.2.args.map jy)]
theorem jlg (b:Bool):G 54 [vb b]=some (vi (fl b:Nat),[]):=by
 rw [g54];cases b<;>simp only [jf]<;>rfl
theorem Jd (a b:Lt) (ha:Rx' a.2) (za:Tz a.2) (hb:Rx' b.2) (zb:Tz b.2):G 71 [ltm a,ltm b]=some (vi (cmpL a b),[]):=by
 have e1:=jbf a.2 ha za b.2 hb zb;have e2:=jlg a.1;have e3:=jlg b.1;have e4:=jaH (fl a.1) (fl b.1);have e5:=jpy (kE a.2 b.2) (jV (fl a.1) (fl b.1));have e6:cmpL a b=if kE a.2 b.2≠0 then kE a.2 b.2 else jV (fl a.1) (fl b.1):=rfl;rw [g71,e6];generalize (if kE a.2 b.2≠0 then kE a.2 b.2 else jV (fl a.1) (fl b.1))=c at *;generalize jV (fl a.1) (fl b.1)=d at *;generalize kE a.2 b.2=f at *;simp only [jf,e1,e2,e3,e4,e5]
theorem JI (a b:Lt) (za:Tz a.2) (zb:Tz b.2):G 77 [ltm a,ltm b]=some (vi (cmpL a b),[]):=by
 have e1:=jfN a.2 za b.2 zb;have e6:cmpL a b=if kE a.2 b.2≠0 then kE a.2 b.2 else jV (fl a.1) (fl b.1):=rfl;rw [g77,e6];by_cases h:kE a.2 b.2=0
 ·rw [if_neg (λh'=>h' h)];rw [h] at e1;obtain ⟨p,t⟩:=a;obtain ⟨q,u⟩:=b;have d1:jV (fl false) (fl true) = -1:=by decide
  have d2:jV (fl true) (fl false)=1:=by decide
  have d3:jV (fl true) (fl true)=0:=by decide
  have d4:jV (fl false) (fl false)=0:=by decide
  cases p<;>cases q<;>simp only [jf,e1,d1,d2,d3,d4]
 ·rw [if_pos h];generalize kE a.2 b.2=c at *;simp only [jf,e1,h]
def z6 (t:T):Bool:=if t.name = [61] then jhb t else zZ t.name && kQ t
theorem jmA (t:T) (hw:twf t) (hs:tsz t<=1048576):G 76 [tm t]=some (vb (z6 t),[]):=by
 unfold z6;by_cases he:t.name = [61]
 ·rw [if_pos he];exact jjQ t hw hs he
 ·have e1:=jaQ t.name ((zs t).1 hw).1;have e2:=jmB t hw hs;rw [if_neg he,g76];cases h:zZ t.name<;>rw [h] at e1
  ·simp only [jf,he,e1,Bool.false_and]
  ·simp only [jf,he,e1,e2,Bool.true_and]
theorem jcw (t:T) (hw:twf t) (hs:tsz t<=1048576):G 114 [tm t]=some (vb (z6 t),[]):=by
 unfold z6;by_cases he:t.name = [61]
 ·rw [if_pos he];exact jbi t hw hs he
 ·have e0:=Z4 t;rw [decide_eq_false he] at e0;have e1:=jaO t.name ((zs t).1 hw).1;have e2:=K6 t hw hs;rw [if_neg he,jvE];cases h:zZ t.name<;>rw [h] at e1
  ·simp only [jf,e0,e1,Bool.false_and]
  ·simp only [jf,e0,e1,e2,Bool.true_and]
abbrev cm (c:jK):A:= .agg [.sl 3 (c.map jC)]
def kC (c:jK):Bool:=c.all (λl=>z6 l.2) && (jgT c && decide (c.length<=8))
theorem jk4 {t:T} (h:z6 t=true):Rx' t:=by
 unfold z6 at h;by_cases he:t.name = [61]
 ·rw [if_pos he] at h;unfold jhb at h;rw [Bool.and_eq_true,decide_eq_true_eq,Bool.and_eq_true,Bool.and_eq_true] at h;refine Or.inr ⟨he,λu hu=> ?_⟩;obtain ⟨n,us⟩:=t
  match us,h.1 with
  | [a,b],_=>
   have hu:u ∈ [a,b]:=hu;simp only [List.mem_cons,List.not_mem_nil,or_false] at hu;rcases hu with rfl|rfl
   ·exact h.2.2.1
   ·exact h.2.2.2
 ·rw [if_neg he,Bool.and_eq_true] at h;have h2:=h.2;unfold kQ at h2;rw [Bool.and_eq_true] at h2;exact Or.inl h2.2
theorem Qn (l:Lt) (hz:Tz l.2):G 70 [ltm l]=some (vb (z6 l.2),[]):=by
 have e:=jcw l.2 hz.wf hz;rw [g70];simp only [jf,e]
def KQ:Option Lt->jK->Bool
 | _,[]=>true
 | none,l::r=>z6 l.2 && KQ (some l) r
 | some p,l::r=>z6 l.2 && (decide (cmpL p l < 0) && KQ (some l) r)
theorem jeR:∀(p:Lt) (c:jK),KQ (some p) c=(c.all (λl=>z6 l.2) && jgT (p::c))
 | p,[]=>rfl
 | p,l::r=>by
  rw [KQ,jeR l r,List.all_cons,jgT];cases z6 l.2<;>cases decide (cmpL p l < 0)<;>simp
theorem jeQ (c:jK):(KQ none c && decide (c.length<=8))=kC c:=by
 unfold kC;cases c with
 | nil=>rfl
 | cons l r=>rw [KQ,jeR,List.all_cons];cases z6 l.2<;>simp [Bool.and_assoc]
theorem zU (l:Lt):jP 3 (.elt (jC l) 0)=some (ltm l):=rfl
theorem jiY (c:jK) (hl:c.length<=1048576) (hz:∀l∈c,Tz l.2):∀i,i<=c.length-> ∀p:Option Lt,(p=none↔i=0)->(∀q,p=some q->z6 q.2=true/\ ∃h:i - 1 < c.length,c[i - 1]=q)->
  jkJ (.sl 3 (c.map jC)) (vi (c.length:Nat)) (vi (i:Nat)) (.sl 3 (c.map jC))=some (vb (KQ p (c.drop i) && decide (c.length<=8)),[]):=by
 refine upto ?_ ?_
 ·intro p _ _;have e:decide (((c.length:Nat):Int)<=8)=decide (c.length<=8):=by congr 1;exact propext (by omega)
  rw [jsG,List.drop_length,<-e];have:KQ p []=true:=by cases p<;>rfl
  rw [this];simp only [jf,Bool.true_and]
 ·intro i hi ih p hp hq;have hlt:(i:Int) < ((c.length:Nat):Int):=by omega
  have h5:=jv hi (by show c.length<=9223372036854775807;omega)
  have e1:=Qn c[i] (hz _ (List.getElem_mem hi));have ix:=jb (k:=3) (f:=jC) hi;have e1:G 70 [.agg [vb c[i].1,sv c[i].2.name,kr c[i].2.args]]=some (vb (z6 c[i].2),[]):=e1;rw [jsG,jl hi];cases ha:z6 c[i].2 with
  | false=>
   rw [ha] at e1;have:KQ p (c[i]::c.drop (i+1))=false:=by cases p<;>rw [KQ,ha]<;>rfl
   rw [this];simp only [jf,hlt,ix,zU,e1,Bool.false_and]
  | true=>
   rw [ha] at e1;have ih1:=ih (some c[i]) (by simp) (λq hq=>by cases hq;exact ⟨ha,by simpa using hi,rfl⟩);cases p with
   | none=>
    have h0:i=0:=hp.1 rfl;have hg:¬(0:Int) < (i:Int):=by omega
    rw [KQ,ha,Bool.true_and,<-ih1];simp only [jf,hlt,ix,zU,e1,hg,h5]
   | some q=>
    obtain ⟨hqa,hq1,hq2⟩:=hq q rfl;have hi0:¬i=0:=λh=>by have:=hp.2 h;cases this
    have hg:(0:Int) < (i:Int):=by omega
    have c1:ck ((i:Int) - 1)=some (vi ((i - 1:Nat):Int)):=by rw [show (i:Int) - 1=((i - 1:Nat):Int) by omega,jH (by omega) (by omega)]
    have ix2:=jb (k:=3) (f:=jC) hq1;rw [hq2] at ix2;have hqz:Tz q.2:=by rw [<-hq2];exact hz _ (List.getElem_mem hq1)
    have e2:=Jd q c[i] (jk4 hqa) hqz (jk4 ha) (hz _ (List.getElem_mem hi));have e2:G 71 [.agg [vb q.1,sv q.2.name,kr q.2.args],.agg [vb c[i].1,sv c[i].2.name,kr c[i].2.args]]=some (vi (cmpL q c[i]),[]):=e2;rw [KQ,ha,Bool.true_and];by_cases hc:cmpL q c[i] < 0
    ·have hc':¬(0:Int)<=cmpL q c[i]:=by omega
     rw [decide_eq_true hc,Bool.true_and,<-ih1];generalize cmpL q c[i]=d at *;simp only [jf,hlt,ix,zU,e1,hg,c1,ix2,e2,hc',h5]
    ·have hc':(0:Int)<=cmpL q c[i]:=by omega
     rw [decide_eq_false hc];generalize cmpL q c[i]=d at *;simp only [jf,hlt,ix,zU,e1,hg,c1,ix2,e2,hc',Bool.false_and]
theorem kY (c:jK) (hl:c.length<=1048576) (hz:∀l∈c,Tz l.2):G 28 [cm c]=some (vb (kC c),[]):=by
 have key:=jiY c hl hz 0 (Nat.zero_le _) none (by simp) (λq h=>by cases h);rw [List.drop_zero,jeQ] at key;simp only [Int.natCast_zero] at key;rw [g28];simp only [jf,key]
theorem jiZ (c:jK) (hl:c.length<=1048576) (hz:∀l∈c,Tz l.2):∀i,i<=c.length-> ∀p:Option Lt,(p=none↔i=0)->(∀q,p=some q-> ∃h:i - 1 < c.length,c[i - 1]=q)->
  jkL (vi (i:Nat)) (.sl 3 (c.map jC))=some (vb (KQ p (c.drop i)),[]):=by
 refine upto ?_ ?_
 ·intro p _ _;rw [jsI,List.drop_length];have:KQ p []=true:=by cases p<;>rfl
  rw [this];simp only [jf]
 ·intro i hi ih p hp hq;have hlt:(i:Int) < ((c.length:Nat):Int):=by omega
  have h5:=jv hi (by show c.length<=9223372036854775807;omega)
  have e1:=jmA c[i].2 (hz _ (List.getElem_mem hi)).wf (hz _ (List.getElem_mem hi));have ix:=jb (k:=3) (f:=jC) hi;have ad:qL (.elt (jC c[i]) 0) 1=some (.elt (jC c[i]) 1):=rfl;have ld:jP 2 (.elt (jC c[i]) 1)=some (tm c[i].2):=rfl;rw [jsI,jl hi];cases ha:z6 c[i].2 with
  | false=>
   rw [ha] at e1;have:KQ p (c[i]::c.drop (i+1))=false:=by cases p<;>rw [KQ,ha]<;>rfl
   rw [this];simp only [jf,hlt,ix,ad,ld,e1]
  | true=>
   rw [ha] at e1;have ih1:=ih (some c[i]) (by simp) (λq hq=>by cases hq;exact ⟨by simpa using hi,rfl⟩);cases p with
   | none=>
    have h0:i=0:=hp.1 rfl;have hg:¬(0:Int) < (i:Int):=by omega
    rw [KQ,ha,Bool.true_and,<-ih1];simp only [jf,hlt,ix,ad,ld,e1,hg,h5]
   | some q=>
    obtain ⟨hq1,hq2⟩:=hq q rfl;have hi0:¬i=0:=λh=>by have:=hp.2 h;cases this
    have hg:(0:Int) < (i:Int):=by omega
    have c1:ck ((i:Int) - 1)=some (vi ((i - 1:Nat):Int)):=by rw [show (i:Int) - 1=((i - 1:Nat):Int) by omega,jH (by omega) (by omega)]
    have ix2:=jb (k:=3) (f:=jC) hq1;rw [hq2] at ix2;have hqz:Tz q.2:=by rw [<-hq2];exact hz _ (List.getElem_mem hq1)
    have e2:=JI q c[i] hqz (hz _ (List.getElem_mem hi));rw [KQ,ha,Bool.true_and];by_cases hc:cmpL q c[i] < 0
    ·have hc':¬(0:Int)<=cmpL q c[i]:=by omega
     rw [decide_eq_true hc,Bool.true_and,<-ih1];generalize cmpL q c[i]=d at *;simp only [jf,hlt,ix,ad,ld,zU,e1,hg,c1,ix2,e2,hc',h5]
    ·have hc':(0:Int)<=cmpL q c[i]:=by omega
     rw [decide_eq_false hc];generalize cmpL q c[i]=d at *;simp only [jf,hlt,ix,ad,ld,zU,e1,hg,c1,ix2,e2,hc',Bool.false_and]
theorem J7 (c:jK) (hl:c.length<=1048576) (hz:∀l∈c,Tz l.2):G 31 [cm c]=some (vb (kC c),[]):=by
 have key:=jiZ c hl hz 0 (Nat.zero_le _) none (by simp) (λq h=>by cases h);rw [List.drop_zero] at key;simp only [Int.natCast_zero] at key;rw [g31,<-jeQ];by_cases h8:c.length<=8
 ·have h8':¬(8:Int) < ((c.length:Nat):Int):=by omega
  rw [decide_eq_true h8,Bool.and_true];simp only [jf,h8',key]
 ·have h8':(8:Int) < ((c.length:Nat):Int):=by omega
  rw [decide_eq_false h8,Bool.and_false];simp only [jf,h8']
theorem juH (l:List (List UInt8)) (n:List UInt8):(Kd l n).length<=l.length+1:=by
 unfold Kd;split
 ·omega
 ·simp
theorem js9 {n:Nat} (h:n<=4194304):jO n 16=true:=by
 unfold jO;exact decide_eq_true ⟨by omega,by omega⟩
theorem Qv:∀(t:T) (l:List (List UInt8)),(yt l t).length<=l.length+nodes t:=by
 refine T.ind λt ih l=> ?_;have hn:=jN t;rw [jf7];split
 ·have:=juH l t.name;omega
 ·have key:∀us:List T,(∀u∈us,u∈t.args)-> ∀l:List (List UInt8),(Ko l us).length<=l.length+jA us:=by
   intro us;induction us with
   | nil=>intro _ l;simp [Ko,jA]
   | cons u us ih2=>
    intro hu l;have h1:=ih u (hu u (by simp)) l;have h2:=ih2 (λv hv=>hu v (by simp [hv])) (yt l u);rw [Ko,jA];omega
  have:=key t.args (λ_ h=>h) l;omega
theorem jjU:∀t:T,Tz t-> ∀l:List (List UInt8),l.length+nodes t<=4000000->je2 (tm t) (l.map cs)=some (.top,[.sl 1 ((yt l t).map cs)]):=by
 refine T.ind λt ih ht l hl=> ?_;have hz:=ht;unfold Tz at hz;rw [j4] at hz;have hn:=jN t;have e0:=J6 t.name (((zs t).1 ht.wf).1);have e1:=jrE l t.name (by show l.length<=9223372036854775807;omega);have key:=upto (P:=λi=>∀l:List (List UInt8),l.length+jA (t.args.drop i)<=4000000->YS (vi (i:Nat)) (sv t.name) (kr t.args) (l.map cs)=some (.top,[.sl 1 ((Ko l (t.args.drop i)).map cs)])) (n:=t.args.length) ?_ ?_ 0 (Nat.zero_le _);rotate_left
 ·intro l _;rw [jcE,List.drop_length];simp only [jf];rfl
 ·intro i hi ihi l hl;have hlt:(i:Int) < ((t.args.length:Nat):Int):=by omega
  have h5:=jv hi (by show t.args.length<=9223372036854775807;omega)
  rw [jl hi,jA] at hl;have q:=ih t.args[i] (List.getElem_mem hi) (ht.args _ (List.getElem_mem hi)) l (by omega);have hln:=Qv t.args[i] l;have q2:=ihi (yt l t.args[i]) (by omega);rw [jcE,jl hi,Ko];generalize yt l t.args[i]=l' at *;have hr:hR 1 (A.top,[.sl 1 (l'.map cs)]) 0=some (l'.map cs):=rfl;simp only [jf,hlt,jb hi,jk,q,hr,h5,q2]
 have e2:YR (vi 0) (sv t.name) (kr t.args) (l.map cs)=some (.top,[.sl 1 ((Ko l t.args).map cs)]):=by
  have key:=key l (by rw [List.drop_zero];omega)
  rw [List.drop_zero] at key;have:YR (vi 0) (sv t.name) (kr t.args) (l.map cs)=YS (vi 0) (sv t.name) (kr t.args) (l.map cs):=by rw [jo1,jcE]
  rw [this];exact key
 rw [jtH,jf7];cases hv:jh t.name<;>rw [hv] at e0
 ·rw [if_neg Bool.false_ne_true];simp only [jf,e0,e2]
 ·rw [if_pos rfl];unfold Kd;cases hc:l.contains t.name<;>rw [hc] at e1
  ·have f:jO (l.length+1) 16=true:=js9 (by omega);rw [if_neg Bool.false_ne_true,List.map_append];simp only [jf,e0,e1,f];rfl
  ·rw [if_pos rfl];simp only [jf,e0,e1]
theorem jcJ (c:jK) (hl:c.length<=1000) (hz:∀l∈c,Tz l.2) (hs:∀l∈c,nodes l.2<=1000):G 80 [cm c]=some (.sl 1 ((ji c).map cs),[]):=by
 have key:=upto (P:=λi=>∀l:List (List UInt8),l.length<=1000 * i->jgH (vi (i:Nat)) (.sl 3 (c.map jC)) (l.map cs)=some (.sl 1 (((c.drop i).foldl (λl x=>yt l x.2) l).map cs),[])) (n:=c.length) ?_ ?_ 0 (Nat.zero_le _)
 ·have key:=key [] (by simp);rw [List.drop_zero] at key;have key:jgH (vi 0) (.sl 3 (c.map jC)) []=some (.sl 1 ((ji c).map cs),[]):=key;rw [g80];simp only [jf,key]
 ·intro l _;rw [js0,List.drop_length];simp only [jf];rfl
 ·intro i hi ih l hll;have hlt:(i:Int) < ((c.length:Nat):Int):=by omega
  have h5:=jv hi (by show c.length<=9223372036854775807;omega)
  have ix:=jb (k:=3) (f:=jC) hi;have ad:qL (.elt (jC c[i]) 0) 1=some (.elt (jC c[i]) 1):=rfl;have ld:jP 2 (.elt (jC c[i]) 1)=some (tm c[i].2):=rfl;have hn:=hs _ (List.getElem_mem hi);have q:=jjU c[i].2 (hz _ (List.getElem_mem hi)) l (by omega);have hol:=Qv c[i].2 l;have q2:=ih (yt l c[i].2) (by omega);rw [js0,jl hi,List.foldl_cons];generalize yt l c[i].2=l' at *;have hr:hR 1 (A.top,[.sl 1 (l'.map cs)]) 0=some (l'.map cs):=rfl;simp only [jf,hlt,ix,ad,ld,q,hr,h5,q2]
theorem jg3:∀t:T,Rx' t->Tz t-> ∀l:List (List UInt8),l.length+nodes t<=4000000->je1 (sv t.name) (kr t.args) (l.map cs)=some (.top,[.sl 1 ((yt l t).map cs)]):=by
 refine T.ind λt ih hk ht l hl=> ?_;have hz:=ht;unfold Tz at hz;rw [j4] at hz;have hn:=jN t;have e0:=Q6 t (hk.imp id λh=>h.1);have e1:=ZY l t.name (by show l.length<=9223372036854775807;omega);have key:=upto (P:=λi=>∀l:List (List UInt8),l.length+jA (t.args.drop i)<=4000000->YQ (kr t.args) (vi (t.args.length:Nat)) (vi (i:Nat)) (l.map cs)=some (.top,[.sl 1 ((Ko l (t.args.drop i)).map cs)])) (n:=t.args.length) ?_ ?_ 0 (Nat.zero_le _);rotate_left
 ·intro l _;rw [jcD,List.drop_length];simp only [jf];rfl
 ·intro i hi ihi l hl;have hlt:(i:Int) < ((t.args.length:Nat):Int):=by omega
  have h5:=jv hi (by show t.args.length<=9223372036854775807;omega)
  rw [jl hi,jA] at hl;have q:=ih t.args[i] (List.getElem_mem hi) (hk.args _ (List.getElem_mem hi)) (ht.args _ (List.getElem_mem hi)) l (by omega);have hln:=Qv t.args[i] l;have q2:=ihi (yt l t.args[i]) (by omega);rw [jcD,jl hi,Ko];generalize yt l t.args[i]=l' at *;have hr:hR 1 (A.top,[.sl 1 (l'.map cs)]) 0=some (l'.map cs):=rfl;simp only [jf,hlt,jb hi,jk,q,hr,h5,q2]
 have e2:YP (kr t.args) (vi (t.args.length:Nat)) (vi 0) (l.map cs)=some (.top,[.sl 1 ((Ko l t.args).map cs)]):=by
  have key:=key l (by rw [List.drop_zero];omega)
  rw [List.drop_zero] at key;have:∀n:A,YP (kr t.args) n (vi 0) (l.map cs)=YQ (kr t.args) n (vi 0) (l.map cs):=λn=>by rw [joV,jcD]
  rw [this];exact key
 rw [jtG,jf7];cases hv:jh t.name<;>rw [hv] at e0
 ·rw [if_neg Bool.false_ne_true];by_cases hl0:((t.args.length:Nat):Int)=0
  ·simp only [jf,hl0,e0];rw [hl0] at e2;exact e2
  ·simp only [jf,hl0,e2]
 ·have ha:t.args = []:=by
   rcases hk with h|h
   ·exact Zs h hv
   ·rw [h.1] at hv;exact absurd hv (by decide)
  have hl0:((t.args.length:Nat):Int)=0:=by rw [ha];rfl
  rw [if_pos rfl];unfold Kd;cases hc:l.contains t.name<;>rw [hc] at e1
  ·have f:jO (l.length+1) 16=true:=js9 (by omega);rw [if_neg Bool.false_ne_true,List.map_append];simp only [jf,hl0,e0,e1,f];rfl
  ·rw [if_pos rfl];simp only [jf,hl0,e0,e1]
theorem jcW (c:jK) (hl:c.length<=1000) (hk:∀l∈c,Rx' l.2) (hz:∀l∈c,Tz l.2) (hs:∀l∈c,nodes l.2<=1000):G 75 [cm c]=some (.sl 1 ((ji c).map cs),[]):=by
 have key:=upto (P:=λi=>∀l:List (List UInt8),l.length<=1000 * i->jgG (.sl 3 (c.map jC)) (vi (c.length:Nat)) (vi (i:Nat)) (l.map cs)=some (.sl 1 (((c.drop i).foldl (λl x=>yt l x.2) l).map cs),[])) (n:=c.length) ?_ ?_ 0 (Nat.zero_le _)
 ·have key:=key [] (by simp);rw [List.drop_zero] at key;have key:jgG (.sl 3 (c.map jC)) (vi (c.length:Nat)) (vi 0) []=some (.sl 1 ((ji c).map cs),[]):=key;rw [g75];simp only [jf,key]
 ·intro l _;rw [jsX,List.drop_length];simp only [jf];rfl
 ·intro i hi ih l hll;have hlt:(i:Int) < ((c.length:Nat):Int):=by omega
  have h5:=jv hi (by show c.length<=9223372036854775807;omega)
  have ix:=jb (k:=3) (f:=jC) hi;have hn:=hs _ (List.getElem_mem hi);have q:=jg3 c[i].2 (hk _ (List.getElem_mem hi)) (hz _ (List.getElem_mem hi)) l (by omega);have hol:=Qv c[i].2 l;have q2:=ih (yt l c[i].2) (by omega);rw [jsX,jl hi,List.foldl_cons];generalize yt l c[i].2=l' at *;have hr:hR 1 (A.top,[.sl 1 (l'.map cs)]) 0=some (l'.map cs):=rfl;simp only [jf,hlt,ix,zU,q,hr,h5,q2]
abbrev Eqs:=List (T × T)
def jji:jz->Bool
 | []=>true
 | [_]=>true
 | p::q::s=>yk p.1 q.1 && jji (q::s)
noncomputable def zt (s:jz):Bool:=decide (s.length<=12) && (jji s && s.all λq=>jh q.1 && (kQ q.2 && !dq q.2.name q.1))
def jsy (s u:jz):jz:=zj (s.map (λq=>(q.1,sub u q.2))++u.filter λq=>(look s q.1).isNone)
def jgW (x y:T):List UInt8 × T:=if jh x.name=false\/(jh y.name=true/\yk x.name y.name=true) then (y.name,x) else (x.name,y)
noncomputable def jwd (s:jz) (l r:T) (rest:Eqs):Option (jz × Eqs):=
 if kG (sub s l)=false\/kG (sub s r)=false then none
 else if dq (sub s l) (sub s r) then some (s,rest)
 else if jh (sub s l).name=true\/jh (sub s r).name=true then
  (if (jgW (sub s l) (sub s r)).1∈kP (jgW (sub s l) (sub s r)).2\/zt [jgW (sub s l) (sub s r)]=false\/zt (jsy s [jgW (sub s l) (sub s r)])=false then none else some (jsy s [jgW (sub s l) (sub s r)],rest))
 else if (sub s l).name=(sub s r).name/\(sub s l).args.length=(sub s r).args.length then some (s,(sub s l).args.zip (sub s r).args++rest) else none
noncomputable def jtk:Nat->jz->Eqs->Option (Option jz)
 | _,s,[]=>some (some s)
 | 0,_,_::_=>none
 | k+1,s,p::rest=>(match jwd s p.1 p.2 rest with|none=>some none|some q=>jtk k q.1 q.2)
def Exx (t:T):Prop:=(zO t=true\/(t.name = [61]/\t.args.length=2/\ ∀u∈t.args,zO u=true))/\nodes t<=31
def IdS (s:jz):Prop:=∀q∈s,∀x∈kP q.2,look s x=none
def jy0 (s:jz) (es:Eqs):Prop:=zt s=true/\IdS s/\ ∀p∈es,Exx p.1/\Exx p.2
theorem qQ {s:jz} (h:zt s=true):s.length<=12/\jji s=true/\ ∀q∈s,jh q.1=true/\kQ q.2=true/\q.2.name≠q.1:=by
 unfold zt at h;rw [Bool.and_eq_true,decide_eq_true_eq,Bool.and_eq_true,List.all_eq_true] at h;refine ⟨h.1,h.2.1,λq hq=> ?_⟩;have:=h.2.2 q hq;rw [Bool.and_eq_true,Bool.and_eq_true,Bool.not_eq_true'] at this;exact ⟨this.1,this.2.1,λe=>by rw [e,ZC] at this;exact absurd this.2.2 (by decide)⟩
theorem jax {t:T} (h:kQ t=true):zO t=true:=by
 unfold kQ at h;rw [Bool.and_eq_true] at h;exact h.2
theorem vsv {t:T} (h:jh t.name=true):kP t = [t.name]:=by rw [kS,h,if_pos rfl]
theorem vsf {t:T} (h:jh t.name=false):kP t=j8 t.args:=by rw [kS,h,if_neg Bool.false_ne_true]
theorem yx {x:List UInt8} :∀ {ts:List T},x∈j8 ts↔ ∃t∈ts,x∈kP t
 | []=>by simp [j8]
 | t::ts=>by rw [j8,List.mem_append,yx];simp
theorem jdi {s:jz} {n:List UInt8} {t:T} {q:List UInt8 × T} :q∈Qw s n t↔q∈s\/q=(n,t):=by
 unfold Qw;have e:=List.takeWhile_append_dropWhile (p:=λp:List UInt8 × T=>yk p.1 n) (l:=s);constructor
 ·intro h;rcases List.mem_append.1 h with h|h
  ·left;rw [<-e];exact List.mem_append_left _ h
  ·rcases List.mem_cons.1 h with h|h
   ·exact Or.inr h
   ·left;rw [<-e];exact List.mem_append_right _ h
 ·rintro (h|h)
  ·rw [<-e] at h;rcases List.mem_append.1 h with h|h
   ·exact List.mem_append_left _ h
   ·exact List.mem_append_right _ (List.mem_cons_of_mem _ h)
  ·rw [h];exact List.mem_append_right _ (List.mem_cons_self ..)
theorem jpX (s:jz) (n:List UInt8) (t:T):(Qw s n t).length=s.length+1:=by
 unfold Qw;have e:=congrArg List.length (List.takeWhile_append_dropWhile (p:=λp:List UInt8 × T=>yk p.1 n) (l:=s));rw [List.length_append] at e;rw [List.length_append,List.length_cons];omega
theorem yB:∀(m s:jz),(∀q∈m,q.2.name≠q.1)->(m.foldl (λs p=>jij s p.1 p.2) s).length=s.length+m.length/\ ∀q,q∈m.foldl (λs p=>jij s p.1 p.2) s↔q∈s\/q∈m
 | [],s,_=>⟨rfl,λq=>by simp⟩
 | p::m,s,h=>by
  rw [List.foldl_cons];have e:jij s p.1 p.2=Qw s p.1 p.2:=if_neg (h p (by simp));obtain ⟨h1,h2⟩:=yB m (jij s p.1 p.2) λq hq=>h q (by simp [hq]);refine ⟨by rw [h1,e,jpX,List.length_cons];omega,λq=> ?_⟩;rw [h2,e,jdi,List.mem_cons,or_assoc]
def mz (s:jz):Eqs->Nat
 | []=>0
 | p::r=>nodes (sub s p.1)+nodes (sub s p.2)+mz s r
theorem Exx.sub {s:jz} (hs:zt s=true) {t:T} (h:Exx t):zO (sub s t)=true\/((sub s t).name = [61]/\(sub s t).args.length=2/\ ∀u∈(sub s t).args,zO u=true):=by
 obtain ⟨_,_,hv⟩:=qQ hs;have ho:∀q∈s,zO q.2=true:=λq hq=>(jax (hv q hq).2.1);rcases h.1 with h|⟨h1,h2,h3⟩
 ·exact Or.inl (jau ho t h)
 ·have hvn:jh t.name=false:=by rw [h1];decide
  right;rw [QI hvn];refine ⟨h1,by show (t.args.map _).length=2;rw [List.length_map,h2],λu hu=> ?_⟩;obtain ⟨a,ha,rfl⟩:=List.mem_map.1 hu;exact jau ho a (h3 a ha)
theorem ja4 {t:T} (h:kG t=true):nodes t<=30:=by
 simp only [kG,Bool.and_eq_true,decide_eq_true_eq] at h;exact h.1
def Bx (t:T):Prop:=(t.name = [61]/\t.args.length=2/\ ∀u∈t.args,zO u=true)\/(zZ t.name=true/\zO t=true)
theorem Bx.rx {t:T} (h:Bx t):Rx' t:=h.elim (λh=>Or.inr ⟨h.1,h.2.2⟩) λh=>Or.inl h.2
theorem Bx.ax {t:T} (h:Bx t):zO t=true\/(t.name = [61]/\t.args.length=2/\ ∀u∈t.args,zO u=true):=h.elim Or.inr λh=>Or.inl h.2
theorem Bx.args {t:T} (h:Bx t):∀u∈t.args,zO u=true:=h.elim (λh=>h.2.2) λh=>zH h.2
theorem YA {n:List UInt8} (h:zZ n=true):jh n=false:=by
 cases hv:jh n with
 | false=>rfl
 | true=>rw [jkt hv] at h;cases h
theorem Bx.nv {t:T} (h:Bx t):jh t.name=false:=h.elim (λh=>by rw [h.1];decide) λh=>YA h.1
theorem jvh {t:T} (h:t.args.length=2):t.args = [jft t,jjh t]:=by
 obtain ⟨n,us⟩:=t
 match us,h with
 | [a,b],_=>rfl
theorem qZ {t:T} :z6 t=true↔Bx t/\kG t=true:=by
 unfold z6 Bx;by_cases he:t.name = [61]
 ·rw [if_pos he];unfold jhb;rw [Bool.and_eq_true,Bool.and_eq_true,Bool.and_eq_true,decide_eq_true_eq];constructor
  ·rintro ⟨h1,h2,h3,h4⟩;refine ⟨Or.inl ⟨he,h1,λu hu=> ?_⟩,h2⟩;rw [jvh h1] at hu;simp only [List.mem_cons,List.not_mem_nil,or_false] at hu;rcases hu with rfl|rfl
   ·exact h3
   ·exact h4
  ·rintro ⟨h|h,h2⟩
   ·obtain ⟨_,_,ma,mb⟩:=QZ h.2.1;exact ⟨h.2.1,h2,h.2.2 _ ma,h.2.2 _ mb⟩
   ·rw [he] at h;exact absurd h.1 (by decide)
 ·rw [if_neg he];unfold kQ;rw [Bool.and_eq_true,Bool.and_eq_true];constructor
  ·rintro ⟨h1,h2,h3⟩;exact ⟨Or.inr ⟨h1,h3⟩,h2⟩
  ·rintro ⟨h|h,h2⟩
   ·exact absurd h.1 he
   ·exact ⟨h.1,h2,h.2⟩
theorem Bx.atom {t:T} (h:Bx t):z6 t=kG t:=by
 cases hs:kG t with
 | true=>exact qZ.2 ⟨h,hs⟩
 | false=>
  cases ha:z6 t with
  | false=>rfl
  | true=>rw [(qZ.1 ha).2] at hs;cases hs
theorem Bx.tsz {t:T} (h:Bx t):tsz t<=10 * nodes t:=by
 rcases h with h|h
 ·rw [j4,jN,h.1,h.2.1];have:=jlG h.2.2;simp only [List.length_cons,List.length_nil];omega
 ·exact jag t h.2
theorem Bx.tz {t:T} (h:Bx t) (hn:nodes t<=100000):Tz t:=by have:=h.tsz;unfold Tz;omega
theorem Bx.sub {s:jz} (hs:zt s=true) {t:T} (h:Bx t):Bx (sub s t):=by
 obtain ⟨_,_,hv⟩:=qQ hs;have ho:∀q∈s,zO q.2=true:=λq hq=>jax (hv q hq).2.1;have hn:=h.nv;rcases h with h|h
 ·left;rw [QJ hn,QH hn,List.length_map];refine ⟨h.1,h.2.1,λu hu=> ?_⟩;obtain ⟨a,ha,rfl⟩:=List.mem_map.1 hu;exact jau ho a (h.2.2 a ha)
 ·right;rw [QJ hn];exact ⟨h.1,jau ho t h.2⟩
theorem jgB {s:jz} (hs:zt s=true):∀q∈s,nodes q.2<=30:=λq hq=>by
 have:=((qQ hs).2.2 q hq).2.1;unfold kQ at this;rw [Bool.and_eq_true] at this;exact ja4 this.1
theorem jeT {s:jz} (hs:zt s=true):∀q∈s,zO q.2=true:=λq hq=>jax ((qQ hs).2.2 q hq).2.1
mutual
theorem jao (f:List UInt8->List UInt8):∀t:T,nodes (jB f t)<=nodes t
 | .mk n us=>by
  rw [jB];split
  ·have:=jep (.mk n us);show 1+0<=_;omega
  ·have:=jdr f us;simp only [nodes];omega
theorem jdr (f:List UInt8->List UInt8):∀ts:List T,jA (zd f ts)<=jA ts
 | []=>Nat.le_refl _
 | t::ts=>by have:=jao f t;have:=jdr f ts;simp only [zd,jA];omega
end
mutual
theorem jlO (f:List UInt8->List UInt8):∀t:T,qw (jB f t)<=qw t
 | .mk n us=>by
  rw [jB];split
  ·rw [jcb (.mk n us)];show 1+0<=_;omega
  ·have:=jip f us;simp only [qw];omega
theorem jip (f:List UInt8->List UInt8):∀ts:List T,K1 (zd f ts)<=K1 ts
 | []=>Nat.le_refl _
 | t::ts=>by have:=jlO f t;have:=jip f ts;simp only [zd,K1];omega
end
theorem jnf (f:List UInt8->List UInt8) {t:T} (h:kG t=true):kG (jB f t)=true:=by
 simp only [kG,Bool.and_eq_true,decide_eq_true_eq] at h ⊢;have:=jao f t;have:=jlO f t;omega
theorem Zk {f:List UInt8->List UInt8} {t:T} (h:jh t.name=false):(jB f t).name=t.name:=by rw [JB,h,if_neg Bool.false_ne_true];rfl
theorem Kc {f:List UInt8->List UInt8} {t:T} (h:jh t.name=false):(jB f t).args=t.args.map (jB f):=by rw [JB,h,if_neg Bool.false_ne_true];rfl
theorem jp0 {f:List UInt8->List UInt8} (hf:∀n,jh n=true->jh (f n)=true):∀t:T,zO t=true->zO (jB f t)=true:=by
 refine T.ind λt ih h=> ?_;cases hv:jh t.name with
 | true=>rw [JB,hv,if_pos rfl];exact jpt _ (hf _ hv)
 | false=>
  have hk:=h;rw [ya,hv,if_neg Bool.false_ne_true,Bool.and_eq_true,Bool.and_eq_true,decide_eq_true_eq] at h;rw [ya,Zk hv,Kc hv,hv,if_neg Bool.false_ne_true,Bool.and_eq_true,Bool.and_eq_true,decide_eq_true_eq,List.length_map,zG,List.all_eq_true];refine ⟨h.1,h.2.1,λu hu=> ?_⟩;obtain ⟨a,ha,rfl⟩:=List.mem_map.1 hu;exact ih a ha (zH hk a ha)
theorem Bx.ren {f:List UInt8->List UInt8} (hf:∀n,jh n=true->jh (f n)=true) {t:T} (h:Bx t):Bx (jB f t):=by
 have hn:=h.nv;rcases h with h|h
 ·left;rw [Zk hn,Kc hn,List.length_map];refine ⟨h.1,h.2.1,λu hu=> ?_⟩;obtain ⟨a,ha,rfl⟩:=List.mem_map.1 hu;exact jp0 hf a (h.2.2 a ha)
 ·right;rw [Zk hn];exact ⟨h.1,jp0 hf t h.2⟩
theorem Q3:∀d:Nat,d < 10->yd (UInt8.ofNat (48+d))=true:=by decide
theorem zD {u:Nat} (h:u < 10):Lib.decDigits u = [UInt8.ofNat (48+u)]:=Lib.decDigits_one h
theorem yV {u:Nat} (h:¬u < 10):Lib.decDigits u=Lib.decDigits (u / 10)++[UInt8.ofNat (48+u % 10)]:=by rw [Lib.decDigits,dif_neg h]
theorem zP:∀(k u:Nat),u < 10 ^ (k+1)->(Lib.decDigits u).all yd=true/\(Lib.decDigits u).length<=k+1
 | 0,u,h=>by rw [zD (by omega)];exact ⟨by rw [List.all_cons,Q3 u (by omega),List.all_nil];rfl,by simp⟩
 | k+1,u,h=>by
  by_cases hu:u < 10
  ·rw [zD hu];exact ⟨by rw [List.all_cons,Q3 u hu,List.all_nil];rfl,by simp⟩
  ·obtain ⟨h1,h2⟩:=zP k (u / 10) (by rw [Nat.pow_succ] at h;omega)
   rw [yV hu,List.all_append,h1,List.length_append];exact ⟨by rw [List.all_cons,Q3 (u % 10) (by omega),List.all_nil];rfl,by simp only [List.length_cons,List.length_nil];omega⟩
theorem jot:∀a:Nat,a < 10-> ∀b:Nat,b < 10->UInt8.ofNat (48+a)=UInt8.ofNat (48+b)->a=b:=by decide
theorem jlc (a b:Nat) (h1:a < 10) (h2:b < 10) (h:UInt8.ofNat (48+a)=UInt8.ofNat (48+b)):a=b:=jot a h1 b h2 h
theorem jjx:∀(u v:Nat),Lib.decDigits u=Lib.decDigits v->u=v:=by
 intro u;induction u using Nat.strongRecOn with
 | ind u ih=>
  intro v h;by_cases hu:u < 10<;>by_cases hv:v < 10
  ·rw [zD hu,zD hv] at h;exact jlc u v hu hv (by simpa using h)
  ·have h2:=congrArg List.length h;rw [zD hu,yV hv,List.length_append,Lib.decDigits_length] at h2;have:=Lib.nDigits_pos (v / 10);simp only [List.length_cons,List.length_nil] at h2;omega
  ·have h2:=congrArg List.length h;rw [zD hv,yV hu,List.length_append,Lib.decDigits_length] at h2;have:=Lib.nDigits_pos (u / 10);simp only [List.length_cons,List.length_nil] at h2;omega
  ·rw [yV hu,yV hv] at h;obtain ⟨h1,h2⟩:=List.append_inj' h rfl;have e1:=ih (u / 10) (by omega) (v / 10) h1;have e2:=jlc (u % 10) (v % 10) (by omega) (by omega) (by simpa using h2);omega
theorem jh0 {p:UInt8} {i j:Nat} (h:kw p i=kw p j):i=j:=by
 unfold kw at h;exact jjx i j (by simpa using h)
theorem jpq {p:UInt8} (hp:YG p=true) {i:Nat} (hi:i < 1000):jh (kw p i)=true:=by
 obtain ⟨h1,h2⟩:=zP 2 i (by omega);show (YG p && ((Lib.decDigits i).all yd && decide ((Lib.decDigits i).length<=3)))=true;rw [hp,h1,decide_eq_true (by omega)];rfl
theorem jl3 {l:List (List UInt8)} {n x:List UInt8} :x∈Kd l n↔x∈l\/x=n:=by
 unfold Kd;split
 ·rename_i h;rw [List.contains_iff_mem] at h;exact ⟨Or.inl,λh'=>h'.elim id λe=>e ▸ h⟩
 ·simp
theorem jnN {l:List (List UInt8)} {n:List UInt8} (h:l.Nodup):(Kd l n).Nodup:=by
 unfold Kd;split
 ·exact h
 ·rename_i hc;rw [List.contains_iff_mem] at hc;refine List.nodup_append.2 ⟨h,by simp,λa ha b hb=> ?_⟩;simp only [List.mem_singleton] at hb;rintro rfl;exact hc (hb ▸ ha)
mutual
theorem jh3:∀(t:T) (l:List (List UInt8)) (x:List UInt8),x∈yt l t↔x∈l\/x∈kP t
 | .mk n us,l,x=>by
  rw [yt,kP];split
  ·rw [jl3];simp
  ·exact jh2 us l x
theorem jh2:∀(ts:List T) (l:List (List UInt8)) (x:List UInt8),x∈Ko l ts↔x∈l\/x∈j8 ts
 | [],l,x=>by simp [Ko,j8]
 | t::ts,l,x=>by rw [Ko,j8,jh2 ts,jh3 t,List.mem_append,or_assoc]
end
mutual
theorem jc4:∀(t:T) {l:List (List UInt8)},l.Nodup->(yt l t).Nodup
 | .mk n us,l,h=>by
  rw [yt];split
  ·exact jnN h
  ·exact jc3 us h
theorem jc3:∀(ts:List T) {l:List (List UInt8)},l.Nodup->(Ko l ts).Nodup
 | [],l,h=>h
 | t::ts,l,h=>by rw [Ko];exact jc3 ts (jc4 t h)
end
theorem jcV:∀(c:jK) (l:List (List UInt8)) (x:List UInt8),x∈c.foldl (λl x=>yt l x.2) l↔x∈l\/ ∃y∈c,x∈kP y.2
 | [],l,x=>by simp
 | y::c,l,x=>by rw [List.foldl_cons,jcV c,jh3,or_assoc];simp
theorem yr {c:jK} {x:List UInt8} :x∈ji c↔ ∃y∈c,x∈kP y.2:=by unfold ji;rw [jcV];simp
theorem kI (c:jK):(ji c).Nodup:=by
 have:∀(c:jK) (l:List (List UInt8)),l.Nodup->(c.foldl (λl x=>yt l x.2) l).Nodup:=by
  intro c;induction c with
  | nil=>intro l h;exact h
  | cons y c ih=>intro l h;exact ih _ (jc4 y.2 h)
 exact this c [] List.nodup_nil
theorem zF {c:jK} {x:List UInt8} (h:x∈ji c):jh x=true:=by
 obtain ⟨y,_,hx⟩:=yr.1 h;exact jqt y.2 hx
def CN (c:jK):Prop:=c.length<=8/\ ∀l∈c,Bx l.2/\nodes l.2<=30
theorem zE {c:jK} (h:CN c):(ji c).length<=240:=by
 have:∀(c:jK) (l:List (List UInt8)),(∀y∈c,nodes y.2<=30)->(c.foldl (λl x=>yt l x.2) l).length<=l.length+30 * c.length:=by
  intro c;induction c with
  | nil=>intro l _;simp
  | cons y c ih=>
   intro l h;have h1:=Qv y.2 l;have h2:=h y (by simp);have h3:=ih (yt l y.2) λz hz=>h z (by simp [hz]);rw [List.foldl_cons,List.length_cons];omega
 have h2:=this c [] λy hy=>(h.2 y hy).2;have h3:=h.1;rw [List.length_nil] at h2;unfold ji;omega
theorem yT {p:UInt8} {l:List (List UInt8)} {i:Nat} (hl:l.Nodup) (hi:i < l.length):jF p l l[i]=kw p i:=by
 unfold jF;have:l.findIdx? (λx=>decide (x=l[i]))=some i:=by
  rw [List.findIdx?_eq_some_iff_getElem];refine ⟨hi,by simp,λj hj=> ?_⟩;simp only [decide_eq_true_eq,Bool.not_eq_true',decide_eq_false_iff_not];intro e;exact (List.pairwise_iff_getElem.1 hl) j i (by omega) hi hj e
 rw [this]
theorem JX {p:UInt8} (hp:YG p=true) {l:List (List UInt8)} (hl:l.length<=1000) {n:List UInt8} (hn:jh n=true):jh (jF p l n)=true:=by
 unfold jF;split
 ·rename_i i h;have:=(List.findIdx?_eq_some_iff_getElem.1 h).1;exact jpq hp (by omega)
 ·exact hn
theorem jcp {α:Type} (c:α->α->Int) (l:List α) (x:α):(qx c l x).length<=l.length+1:=by
 unfold qx;split
 ·omega
 ·have:=congrArg List.length (List.takeWhile_append_dropWhile (p:=λa=>decide (c a x < 0)) (l:=l));rw [List.length_append] at this;rw [List.length_append,List.length_cons];omega
theorem jab {α:Type} (c:α->α->Int) (l:List α):(zl c l).length<=l.length:=by
 have:∀(l m:List α),(l.foldl (qx c) m).length<=m.length+l.length:=by
  intro l;induction l with
  | nil=>intro m;simp
  | cons x l ih=>
   intro m;have h1:=jcp c m x;have h2:=ih (qx c m x);rw [List.foldl_cons,List.length_cons];omega
 have:=this l [];simpa [zl] using this
theorem yA {l:jK} {x:Lt} :x∈zl cmpL l↔x∈l:=(zS kK l).2 x
theorem jhO {l:jK} (h:Asc cmpL l):zl cmpL l=l:=by
 obtain ⟨h1,h2⟩:=zS kK l;exact jbw kK h1 h h2
theorem CN.make {l:jK} (hl:l.length<=8) (h:∀x∈l,Bx x.2/\nodes x.2<=30):CN (zl cmpL l):=⟨by have:=jab cmpL l;omega,λx hx=>h x (yA.1 hx)⟩
theorem CN.ren {p:UInt8} (hp:YG p=true) {c:jK} (h:CN c):∀x∈c.map (λl=>(l.1,jB (jF p (ji c)) l.2)),Bx x.2/\nodes x.2<=30:=by
 intro x hx;obtain ⟨l,hl,rfl⟩:=List.mem_map.1 hx;have hn:=zE h;have:=jao (jF p (ji c)) l.2;have:=(h.2 l hl).2;exact ⟨(h.2 l hl).1.ren λn hn=>JX hp (by omega) hn,by show nodes (jB (jF p (ji c)) l.2)<=30;omega⟩
theorem CN.renC {p:UInt8} (hp:YG p=true) {c:jK} (h:CN c):CN (renC p c):=CN.make (by rw [List.length_map];exact h.1) (h.ren hp)
theorem CN.normF:∀(k:Nat) {c:jK},CN c->CN (normF k c)
 | 0,c,h=>h
 | k+1,c,h=>by
  rw [Go.Proofs.YtdbgbieenhcldaaGreatDoor.normF];split
  ·exact h
  ·exact CN.normF k (CN.renC (by decide) h)
theorem CN.normC {c:jK} (h:CN c):CN (normC c):=CN.normF 10 h
theorem km {c:jK} (h:kC c=true):CN c/\Asc cmpL c/\(∀l∈c,z6 l.2=true):=by
 unfold kC at h;rw [Bool.and_eq_true,Bool.and_eq_true,List.all_eq_true,decide_eq_true_eq,jb4] at h;exact ⟨⟨h.2.2,λl hl=>⟨(qZ.1 (h.1 l hl)).1,ja4 (qZ.1 (h.1 l hl)).2⟩⟩,h.2.1,h.1⟩
theorem CN.tz {c:jK} (h:CN c):∀l∈c,Tz l.2:=λl hl=>(h.2 l hl).1.tz (by have:=(h.2 l hl).2;omega)
theorem CN.rx {c:jK} (h:CN c):∀l∈c,Rx' l.2:=λl hl=>(h.2 l hl).1.rx
theorem jd7 {f:List UInt8->List UInt8} :∀ {xs bs:List T},(∀u∈xs,∀v∈bs,kE (jB f u) (jB f v)=kE u v)->kx (xs.map (jB f)) (bs.map (jB f))=kx xs bs
 | [],_,_=>rfl
 | _::_,[],_=>rfl
 | x::xs,b::bs,h=>by
  rw [List.map_cons,List.map_cons,kx,kx,h x (by simp) b (by simp),jd7 λu hu v hv=>h u (by simp [hu]) v (by simp [hv])]
theorem Rx'.va {t:T} (h:Rx' t) (hv:jh t.name=true):t.args = []:=h.elim (λh=>Zs h hv) λh=>by rw [h.1] at hv;exact absurd hv (by decide)
theorem jra {L:List (List UInt8)} {f:List UInt8->List UInt8} (hf:∀n∈L,jh (f n)=true) (hc:∀n∈L,∀m∈L,jT (f n) (f m)=jT n m):∀a:T,Rx' a->(∀x∈kP a,x∈L)-> ∀b:T,Rx' b->(∀x∈kP b,x∈L)->kE (jB f a) (jB f b)=kE a b:=by
 refine T.ind λa ih ra la b rb lb=> ?_;have hk:cK (kU (jB f a)) (kU (jB f b))=cK (kU a) (kU b):=by
  have v1:∀t:T,Rx' t->(∀x∈kP t,x∈L)->jh t.name=true->kU t=(0,(t.name,0))/\kU (jB f t)=(0,(f t.name,0))/\t.name∈L:=λt rt lt hv=>by
   have ha:=rt.va hv;have hm:t.name∈L:=lt _ (by rw [vsv hv];simp);have e1:vF t.name=0:=by unfold vF;rw [hv,if_pos rfl]
   have e2:vF (f t.name)=0:=by unfold vF;rw [hf _ hm,if_pos rfl]
   refine ⟨by unfold kU;rw [e1,ha];rfl,?_,hm⟩
   rw [JB,hv,if_pos rfl];show (vF (f t.name),(f t.name,0))=_;rw [e2]
  have v2:∀t:T,jh t.name=false->kU (jB f t)=kU t/\(kU t).1=1:=λt hv=>by
   refine ⟨by unfold kU;rw [Zk hv,Kc hv,List.length_map],?_⟩
   show vF t.name=1;unfold vF;rw [hv,if_neg Bool.false_ne_true]
  cases va:jh a.name<;>cases vb:jh b.name
  ·rw [(v2 a va).1,(v2 b vb).1]
  ·obtain ⟨p1,p2,_⟩:=v1 b rb lb vb;obtain ⟨q1,q2⟩:=v2 a va;rw [q1,p1,p2];have e:∀z:Key,z.1=0->cK (kU a) z=1:=λz hz=>by
    have:jV (kU a).1 z.1=1:=by rw [q2,hz];decide
    unfold cK;rw [this,if_pos (by decide)]
   rw [e _ rfl,e _ rfl]
  ·obtain ⟨p1,p2,_⟩:=v1 a ra la va;obtain ⟨q1,q2⟩:=v2 b vb;rw [q1,p1,p2];have e:∀z:Key,z.1=0->cK z (kU b) = -1:=λz hz=>by
    have:jV z.1 (kU b).1 = -1:=by rw [q2,hz];decide
    unfold cK;rw [this,if_pos (by decide)]
   rw [e _ rfl,e _ rfl]
  ·obtain ⟨p1,p2,p3⟩:=v1 a ra la va;obtain ⟨q1,q2,q3⟩:=v1 b rb lb vb;rw [p1,p2,q1,q2];unfold cK;simp only;rw [hc _ p3 _ q3]
 rw [qE,qE a b,hk];by_cases h0:cK (kU a) (kU b)=0
 ·rw [if_neg (λh=>h h0),if_neg (λh=>h h0)];cases va:jh a.name with
  | true=>
   have:(jB f a).args = []:=by rw [JB,va,if_pos rfl];rfl
   rw [this,ra.va va];rfl
  | false=>
   have vb:jh b.name=false:=by rw [<-(Q7 ((yI.zero _ _).1 h0)).1];exact va
   rw [Kc va,Kc vb];exact jd7 λu hu v hv=>ih u hu (ra.args u hu) (λx hx=>la x (by rw [vsf va,yx];exact ⟨u,hu,hx⟩)) v (rb.args v hv) λx hx=>lb x (by rw [vsf vb,yx];exact ⟨v,hv,hx⟩)
 ·rw [if_pos h0,if_pos h0]
def zz (d:jK):jK:=d.map λl=>(l.1,jB (jF 89 (ji d)) l.2)
def kV (c:jK):Bool:=kC c && zf c
theorem ky {c:jK} (h:kV c=true):CN c/\Asc cmpL c/\kC c=true/\zf c=true:=by
 unfold kV at h;rw [Bool.and_eq_true] at h;exact ⟨(km h.1).1,(km h.1).2.1,h.1,h.2⟩
theorem jmk (p q:UInt8) (x y:List UInt8):jT (p::x) (p::y)=jT (q::x) (q::y):=by
 have e:yk (p::x) (p::y)=yk (q::x) (q::y):=by
  rw [KA,KA];congr 1;simp [List.cons_lt_cons_iff]
 unfold jT;rw [e];simp
theorem Yt {d:jK} (h:zf d=true) {n:List UInt8} (hn:n∈ji d):∃i,i < (ji d).length/\n=kw 88 i/\jF 89 (ji d) n=kw 89 i:=by
 obtain ⟨i,hi,rfl⟩:=List.mem_iff_getElem.1 hn;unfold zf at h;rw [decide_eq_true_eq] at h;refine ⟨i,hi,?_,yT (kI d) hi⟩;have:=congrArg (λl=>l[i]?) h;simp only [List.getElem?_eq_getElem hi,List.getElem?_map,List.getElem?_range hi,Option.map_some] at this;exact Option.some.inj this
theorem jme {d:jK} (h:kV d=true):Asc cmpL (zz d):=by
 obtain ⟨hc,ha,_,hn⟩:=ky h;have hl:=zE hc;unfold Asc zz;rw [List.pairwise_map];refine List.Pairwise.imp_of_mem ?_ ha;intro x y hx hy hlt;have e:kE (jB (jF 89 (ji d)) x.2) (jB (jF 89 (ji d)) y.2)=kE x.2 y.2:=by
  refine jra (L:=ji d) (λn hn'=>JX (by decide) (by omega) (zF hn')) (λn h1 m h2=> ?_) x.2 (hc.rx x hx) (λz hz=>yr.2 ⟨x,hx,hz⟩) y.2 (hc.rx y hy) (λz hz=>yr.2 ⟨y,hy,hz⟩);obtain ⟨i,_,rfl,e1⟩:=Yt hn h1;obtain ⟨j,_,rfl,e2⟩:=Yt hn h2;rw [e1,e2];exact jmk _ _ _ _
 show cmpL (x.1,jB (jF 89 (ji d)) x.2) (y.1,jB (jF 89 (ji d)) y.2) < 0;unfold cmpL at hlt ⊢;simp only;rw [e];exact hlt
theorem apart_eq {d:jK} (h:kV d=true):renC 89 d=zz d:=jhO (jme h)
theorem jn8 {d:jK} (h:kV d=true):CN (zz d):=⟨by unfold zz;rw [List.length_map];exact (ky h).1.1,(ky h).1.ren (by decide)⟩
open Classical in
noncomputable def jyp (a b:T):Option jz:=if h:∃r k,jtk k [] [(a,b)]=some r then h.choose else none
noncomputable def jtx (s:jz) (l:jK):Option jK:=if (l.all λx=>kG (sub s x.2)) && kC (zl cmpL (l.map λx=>(x.1,sub s x.2))) then some (zl cmpL (l.map λx=>(x.1,sub s x.2))) else none
noncomputable def jyf (s:jz) (l:jK):Option jK:=(jtx s l).bind λc=>if kV (normC c) then some (normC c) else none
abbrev cz:A:= .agg [.sl 3 []]
def jf8 (o:Option jK):Option Out:=match o with|some c=>some (.tup [cm c,vb true],[])|none=>some (.tup [cz,vb false],[])
def atI:List Int->T->Option T
 | [],t=>some t
 | i::p,t=>if 0<=i/\i < (t.args.length:Int) then atI p (t.args.getD i.toNat (.mk [] [])) else none
def EXB (t:T):Prop:=EX false t/\Bx t
open Go Go.RowKit Go.Proofs.YtdbgbieenhcldaaGreatDoor.Abs Go.Sort
section
variable {α:Type} {c:α->α->Int}
theorem jie {β γ:Type} (f:β->β->γ) (ys:List β):∀(xs:List β) (i j:Nat) (x y:β),xs[i]? = some x->ys[j]? = some y->(xs.flatMap λx=>ys.map λy=>f x y)[i * ys.length+j]? = some (f x y)
 | [],i,j,x,y,h,_=>by simp at h
 | a::xs,i,j,x,y,h,hy=>by
  have hj:=(List.getElem?_eq_some_iff.1 hy).1;rw [List.flatMap_cons];cases i with
  | zero=>simp at h;subst h;rw [Nat.zero_mul,Nat.zero_add,List.getElem?_append_left (by simpa using hj),List.getElem?_map,hy];rfl
  | succ i=>
   rw [List.getElem?_append_right (by simp [Nat.add_mul];omega)]
   have:(i+1) * ys.length+j - (ys.map λy=>f a y).length=i * ys.length+j:=by simp [Nat.add_mul];omega
   rw [this];exact jie f ys xs i j x y (by simpa using h) hy
theorem extract_all {β:Type} (e:Array β) {n:Nat} (h:e.size=n):e.extract 0 n=e:=by subst h;simp
theorem Law3.swo (h:Law3 c) {β:Type} (g:β->α) {lt:β->β->Bool} (hl:∀i j,lt i j=decide (c (g i) (g j) < 0)):SWO lt:=by
 refine ⟨λx=> ?_,λx y z h1 h2=> ?_,λx y z h1 h2=> ?_⟩
 ·rw [hl,(h.zero _ _).2 rfl];rfl
 ·rw [hl,decide_eq_true_eq] at *;exact h.trans _ _ _ h1 h2
 ·rw [hl,decide_eq_false_iff_not] at *;intro h3;have f1:=h.flip (g x) (g y);have f2:=h.flip (g y) (g z);by_cases e1:c (g x) (g y)=0
  ·rw [(h.zero _ _).1 e1] at h3;exact h2 h3
  by_cases e2:c (g y) (g z)=0
  ·rw [<-(h.zero _ _).1 e2] at h3;exact h1 h3
  have:=h.trans (g z) (g y) (g x) (by omega) (by omega);have f3:=h.flip (g x) (g z);omega
theorem jgn {γ:Type} {c:γ->γ->Int} (hc:Law3 c) (f:α->γ) (enc:α->List A) (k:Nat) (l:List α) (hl:l.length < 4611686018427387904):∃s:List α,s.Perm l/\s.Pairwise (λa b=>¬c (f b) (f a) < 0)/\jdy k (l.map enc) (l.flatMap λx=>l.map λy=>c (f x) (f y))=some (.top,[.sl k (s.map enc)]):=by
 cases l with
 | nil=>exact ⟨[],List.Perm.refl _,List.Pairwise.nil,rfl⟩
 | cons a l'=>
  generalize hcs:((a::l').flatMap λx=>(a::l').map λy=>c (f x) (f y))=cs;rw [List.map_cons];have hN:(l'.map enc).length+1=(a::l').length:=by simp
  let g:Fin ((l'.map enc).length+1)->α:=λi=>(a::l')[i.val]'(by rw [<-hN];exact i.isLt)
  have hg:∀i:Fin ((l'.map enc).length+1),(a::l')[i.val]? = some (g i):=λi=>List.getElem?_eq_getElem _;have hT:∀i j,ltO (jbe ((l'.map enc).length+1) cs) i j=decide (c (f (g i)) (f (g j)) < 0):=λi j=>by
   have:=jie (λx y=>c (f x) (f y)) (a::l') (a::l') i.val j.val _ _ (hg i) (hg j);rw [hcs,<-hN] at this;unfold ltO jbe;rw [List.getD_eq_getElem?_getD,this];rfl
  have hS:=hc.swo (λi=>f (g i)) hT;have hsz:(l'.map enc).length+1 < 4611686018427387904:=by rw [hN];exact hl
  generalize hd:(Array.ofFn (n:=(l'.map enc).length+1) id)=d;have hds:d.size=(l'.map enc).length+1:=by rw [<-hd];simp
  obtain ⟨hp,hs⟩:=pdq_sorts (ltO (jbe ((l'.map enc).length+1) cs)) hS d 0 ((l'.map enc).length+1) (Lib.bitLen ((l'.map enc).length+1)) true true (Nat.zero_le _) (by omega) (Or.inl rfl);have hrow:jdy k (enc a::l'.map enc) cs=some (.top,[.sl k ((pdq (ltO (jbe ((l'.map enc).length+1) cs)) d 0 ((l'.map enc).length+1) (Lib.bitLen ((l'.map enc).length+1)) true true).toList.map λi=>(enc a::l'.map enc).getD i.val [])]):=by
   unfold jdy;simp only;rw [if_pos ⟨hS,hsz⟩,hd]
  rw [hrow];generalize pdq (ltO (jbe ((l'.map enc).length+1) cs)) d 0 ((l'.map enc).length+1) (Lib.bitLen ((l'.map enc).length+1)) true true=D at *;obtain ⟨p1,_,p3⟩:=hp;rw [extract_all D (by omega),extract_all d hds] at p3;refine ⟨D.toList.map g,?_,?_,?_⟩
  ·have h1:(D.toList.map g).Perm (d.toList.map g):=p3.map g;have h2:d.toList.map g=a::l':=by
    refine List.ext_getElem? λi=> ?_;rw [<-hd];by_cases hi:i < (l'.map enc).length+1
    ·rw [List.getElem?_map,Array.getElem?_toList,Array.getElem?_eq_getElem (by simpa using hi)];simp only [Array.getElem_ofFn,Option.map_some,id];exact (hg ⟨i,hi⟩).symm
    ·rw [List.getElem?_eq_none (by simp at hi ⊢;omega),List.getElem?_eq_none (by simp at hi ⊢;omega)]
   rw [h2] at h1;exact h1
  ·rw [List.pairwise_map];rw [List.pairwise_iff_getElem];intro i j hi hj hij;have hD:D.size=(l'.map enc).length+1:=by omega
   rw [Array.length_toList] at hi hj;have:=hs i j (Nat.zero_le _) hij (by omega);rw [getElem!_pos D i hi,getElem!_pos D j hj,hT,decide_eq_false_iff_not] at this;simpa using this
  ·congr 3;rw [List.map_map];refine congrArg (A.sl k) (List.map_congr_left λi _=> ?_);rw [<-List.map_cons,List.getD_eq_getElem?_getD,List.getElem?_map,hg i];rfl
end
theorem jb5 {β:Type} (f:β->FuncId × List A) (r:β->Int):∀qs:List β,(∀b∈qs,K.pureF (f b).1=true/\G (f b).1 (f b).2=some (vi (r b),[]))->askAll K (MM K) (qs.map f)=some (qs.map λb=>(vi (r b),[]))
 | [],_=>rfl
 | b::qs,h=>by
  have ih:=jb5 f r qs λb' hb=>h b' (by simp [hb]);obtain ⟨h1,h2⟩:=h b (by simp);rw [List.map_cons,List.map_cons];show (if K.pureF (f b).1 then (MM K (.call (f b).1 (f b).2)).bind λo=>(askAll K (MM K) (qs.map f)).bind λos=>some (o::os) else none)=_;have h2:MM K (.call (f b).1 (f b).2)=some (vi (r b),[]):=h2;rw [h1,if_pos rfl,h2,ih];rfl
theorem jer {β:Type} (r:β->Int):∀qs:List β,jaX (qs.map λb=>(vi (r b),[]))=some (qs.map r)
 | []=>rfl
 | b::qs=>by
  rw [List.map_cons,List.map_cons,jaX,jer r qs];rfl
theorem jhd {α γ:Type} {c:γ->γ->Int} (hc:Law3 c) (f:α->γ) (enc:α->List A) (k:Nat) (g:FuncId) (hp:K.pureF g=true) (l:List α) (hl:l.length < 4611686018427387904) (h:∀x∈l,∀y∈l,G g [.agg (enc x),.agg (enc y)]=some (vi (c (f x) (f y)),[])):∃s:List α,s.Perm l/\s.Pairwise (λa b=>¬c (f b) (f a) < 0)/\extRun K (MM K) (sfE k) [V.row 0,V.fn g []] [.row k (l.map enc)]=some (.top,[.sl k (s.map enc)]):=by
 obtain ⟨s,h1,h2,h3⟩:=jgn hc f enc k l hl;refine ⟨s,h1,h2,?_⟩;have hq:jiC [V.row 0,V.fn g []] [.row k (l.map enc)]=some ((l.flatMap λx=>l.map λy=>(x,y)).map λq=>(g,[A.agg (enc q.1),A.agg (enc q.2)])):=by
  show some ((l.map enc).flatMap λx=>(l.map enc).map λy=>(g,[A.agg x,A.agg y]++[]))=_;congr 1;rw [List.flatMap_map,List.map_flatMap];refine congrArg (λh=>l.flatMap h) (funext λx=> ?_);rw [List.map_map,List.map_map];rfl
 have ha:=jb5 (λq:α × α=>(g,[A.agg (enc q.1),A.agg (enc q.2)])) (λq=>c (f q.1) (f q.2)) (l.flatMap λx=>l.map λy=>(x,y)) λq hq=>by
  obtain ⟨x,hx,hq⟩:=List.mem_flatMap.1 hq;obtain ⟨y,hy,rfl⟩:=List.mem_map.1 hq;exact ⟨hp,h x hx y hy⟩
 have hc':((l.flatMap λx=>l.map λy=>(x,y)).map λq=>c (f q.1) (f q.2))=l.flatMap λx=>l.map λy=>c (f x) (f y):=by
  rw [List.map_flatMap];refine congrArg (λh=>l.flatMap h) (funext λx=> ?_);rw [List.map_map];rfl
 have ho:=jer (λq:α × α=>c (f q.1) (f q.2)) (l.flatMap λx=>l.map λy=>(x,y));rw [hc'] at ho;show (jiC [V.row 0,V.fn g []] [.row k (l.map enc)]).bind _=_;rw [hq,Option.bind_some,ha,Option.bind_some];show (if Nat.beq k k then (jaX _).bind λcs=>jdy k (l.map enc) cs else none)=_;rw [Nat.beq_refl,if_pos rfl,ho];exact h3
theorem jti:∀d:Nat,d < 10->qN (sv [48,49,50,51,52,53,54,55,56,57]) (some (vi (d:Nat))) (some (vi ((d+1:Nat):Int)))=some (sv [UInt8.ofNat (48+d)])
 | 0,_=>rfl|1,_=>rfl|2,_=>rfl|3,_=>rfl|4,_=>rfl|5,_=>rfl|6,_=>rfl|7,_=>rfl|8,_=>rfl|9,_=>rfl
theorem jcG:∀n:Nat,n<=1000000->G 111 [vi (n:Nat)]=some (sv (Lib.decDigits n),[]):=by
 intro n;induction n using Nat.strongRecOn with
 | ind n ih=>
  intro hn;have h0:¬((n:Nat):Int) < 0:=by omega
  rw [jxe];by_cases h:n < 10
  ·have h1:((n:Nat):Int) < 10:=by omega
   have h2:ck ((n:Int)+1)=some (vi ((n+1:Nat):Int)):=jH (by omega) (by omega);have h3:=jti n h;rw [zD h];simp only [jf,h0,h1,h2,h3]
  ·have h1:¬((n:Nat):Int) < 10:=by omega
   have hq:js .quo false (vi (n:Nat)) (vi 10)=some (vi ((n / 10:Nat):Int)):=by
    show ck (((n:Nat):Int).tdiv 10)=_;rw [Int.tdiv_eq_ediv_of_nonneg (by omega)];exact jH (by omega) (by omega)
   have hr:js .rem false (vi (n:Nat)) (vi 10)=some (vi ((n % 10:Nat):Int)):=by
    show some (vi (((n:Nat):Int).tmod 10))=_;rw [Int.tmod_eq_emod_of_nonneg (by omega)];rfl
   have h2:ck (((n % 10:Nat):Int)+1)=some (vi ((n % 10+1:Nat):Int)):=jH (by omega) (by omega);have h3:=jti (n % 10) (by omega);have h4:=ih (n / 10) (by omega) (by omega);have hl:(Lib.decDigits (n / 10)).length + [UInt8.ofNat (48+n % 10)].length<=9223372036854775807:=by
    have:=(zP 6 (n / 10) (by omega)).2;simp only [List.length_cons,List.length_nil];omega
   have h5:=Ka false (Lib.decDigits (n / 10)) [UInt8.ofNat (48+n % 10)];rw [if_pos hl] at h5;rw [yV h];simp only [jf,h0,h1,hq,hr,h2,h3,h4,h5]
theorem jlq (n:Nat) (hn:n<=1000000):G 118 [vi (n:Nat)]=some (sv (Lib.decDigits n),[]):=by
 have:K.ext 118=some jlp:=rfl;rw [juU this];show (if -9223372036854775808<=((n:Nat):Int)/\((n:Nat):Int)<=9223372036854775807 then some (sv (Lib.itoa (n:Nat)),[]) else none)=_;rw [if_pos (by omega)];unfold Lib.itoa;rw [if_neg (by omega),Int.toNat_natCast]
def Zd:Nat->List (List UInt8)->Bool
 | _,[]=>true
 | i,n::r=>decide (n=kw 88 i) && Zd (i+1) r
theorem jhY:∀(l:List (List UInt8)) (i:Nat),Zd i l=decide (l=(List.range' i l.length).map (kw 88))
 | [],i=>by simp [Zd]
 | n::r,i=>by
  rw [Zd,jhY r,List.length_cons,List.range'_succ,List.map_cons,<-Bool.decide_and];simp only [List.cons.injEq]
theorem jcu (c:jK):zf c=Zd 0 (ji c):=by
 rw [jhY,<-List.range_eq_range'];rfl
theorem jvP (i:Nat) (h:i<=1000000):js .add false (sv [88]) (sv (Lib.decDigits i))=some (sv (kw 88 i)):=by
 rw [Ka,if_pos]
 ·rfl
 ·have:=(zP 6 i (by omega)).2;simp only [List.length_cons,List.length_nil];omega
theorem KG (c:jK) (h:CN c):G 72 [cm c]=some (vb (zf c),[]):=by
 have hlen:=zE h;have e0:=jcW c (by have:=h.1;omega) h.rx h.tz λl hl=>by have:=(h.2 l hl).2;omega
 rw [jcu,g72];generalize ji c=ns at *;have key:=upto (P:=λi=>jkV (strs ns) (vi (ns.length:Nat)) (vi (i:Nat))=some (vb (Zd i (ns.drop i)),[])) (n:=ns.length) ?_ ?_ 0 (Nat.zero_le _)
 ·simp only [Int.natCast_zero,List.drop_zero] at key;simp only [jf,e0,key]
 ·rw [jsU,List.drop_length];simp only [jf,Zd]
 ·intro i hi ih;have hlt:(i:Int) < ((ns.length:Nat):Int):=by omega
  have h5:=jv hi (by show ns.length<=9223372036854775807;omega)
  have e1:=jlq i (by omega);have e2:=jvP i (by omega);have ld:zn (.elt (cs ns[i]) 0)=some (sv ns[i]):=rfl;rw [jsU,jl hi,Zd];by_cases hc:ns[i]=kw 88 i
  ·rw [decide_eq_true hc,Bool.true_and,<-ih];simp only [jf,hlt,jb hi,ld,e1,e2,hc,h5]
  ·rw [decide_eq_false hc,Bool.false_and];simp only [jf,hlt,jb hi,ld,e1,e2,hc]
theorem jdV (c:jK) (h:CN c):G 78 [cm c]=some (vb (zf c),[]):=by
 have hlen:=zE h;have e0:=jcJ c (by have:=h.1;omega) h.tz λl hl=>by have:=(h.2 l hl).2;omega
 rw [jcu,g78];generalize ji c=ns at *;have key:=upto (P:=λi=>jkY (strs ns) (vi (i:Nat))=some (vb (Zd i (ns.drop i)),[])) (n:=ns.length) ?_ ?_ 0 (Nat.zero_le _)
 ·simp only [Int.natCast_zero,List.drop_zero] at key;simp only [jf,e0,key]
 ·rw [jsY,List.drop_length];simp only [jf,Zd]
 ·intro i hi ih;have hlt:(i:Int) < ((ns.length:Nat):Int):=by omega
  have h5:=jv hi (by show ns.length<=9223372036854775807;omega)
  have e1:=jcG i (by omega);have e2:=jvP i (by omega);have ld:zn (.elt (cs ns[i]) 0)=some (sv ns[i]):=rfl;rw [jsY,jl hi,Zd];by_cases hc:ns[i]=kw 88 i
  ·rw [decide_eq_true hc,Bool.true_and,<-ih];simp only [jf,hlt,jb hi,ld,e1,e2,hc,h5]
  ·rw [decide_eq_false hc,Bool.false_and];simp only [jf,hlt,jb hi,ld,e1,e2,hc]
theorem jhs (c:jK) (hl:c.length<=1048576) (hz:∀l∈c,Tz l.2):G 35 [cm c]=some (vb (kV c),[]):=by
 have e1:=kY c hl hz;unfold kV;rw [g35];cases hv:kC c<;>rw [hv] at e1
 ·simp only [jf,e1,Bool.false_and]
 ·have e2:=KG c (km hv).1;simp only [jf,e1,e2,Bool.true_and]
abbrev Nm':=List (List UInt8 × List UInt8)
abbrev kn (p:List UInt8 × List UInt8):List A:=[sv p.1,sv p.2]
def kO:Nm'->List UInt8->Option (List UInt8)
 | [],_=>none
 | p::m,n=>if p.1=n then some p.2 else kO m n
theorem jjX (n:List UInt8):∀(m:Nm') (k:Nat),∃j,yz none (sv n) (m.map kn) k=some ((kO m n).map λr=>(j,sv r))
 | [],k=>⟨0,rfl⟩
 | p::m,k=>by
  rw [List.map_cons,kO,yz,joC];by_cases h:p.1=n
  ·rw [if_pos h,decide_eq_true h.symm];exact ⟨k,rfl⟩
  ·rw [if_neg h,decide_eq_false (λe=>h e.symm)];exact jjX n m (k+1)
theorem jur (m:Nm') (n:List UInt8):Jy none true true [sv []] (.mp (m.map kn)) (sv n)=some (match kO m n with|some r=> .tup [sv r,vb true]|none=> .tup [sv [],vb false]):=by
 show ((some (m.map kn)).bind λxs=>(yz none (sv n) xs 0).map (jlx true true [sv []]))=_;obtain ⟨j,h⟩:=jjX n m 0;rw [Option.bind_some,h];cases kO m n<;>rfl
theorem jtb {m:Nm'} {n:List UInt8} (h:kO m n=none) (r:List UInt8):jbm none (m.map kn) (sv n) (sv r)=some ((m++[(n,r)]).map kn):=by
 obtain ⟨j,h2⟩:=jjX n m 0;show (yz none (sv n) (m.map kn) 0).map _=_;rw [h2,h,List.map_append];rfl
theorem jaa:∀(m:Nm') (p:List UInt8 × List UInt8) (n:List UInt8),kO (m++[p]) n=(match kO m n with|some r=>some r|none=>if p.1=n then some p.2 else none)
 | [],p,n=>rfl
 | q::m,p,n=>by
  rw [List.cons_append,kO,kO,jaa m p n];by_cases h:q.1=n
  ·rw [if_pos h,if_pos h]
  ·rw [if_neg h,if_neg h]
def yR (p:UInt8):Nat->List (List UInt8)->Nm'
 | _,[]=>[]
 | i,n::r=>(n,kw p i)::yR p (i+1) r
theorem jcP (p:UInt8) (n:List UInt8):∀(ns:List (List UInt8)) (k:Nat),kO (yR p k ns) n=(ns.findIdx? λx=>decide (x=n)).map λi=>kw p (k+i)
 | [],k=>rfl
 | x::ns,k=>by
  rw [yR,kO,List.findIdx?_cons];by_cases h:x=n
  ·rw [if_pos h,if_pos (decide_eq_true h)];rfl
  ·rw [if_neg h,if_neg (by simp [h]),jcP p n ns (k+1),Option.map_map];refine congrArg (λf=>Option.map f _) (funext λi=> ?_);show kw p (k+1+i)=kw p (k+(i+1));rw [show k+1+i=k+(i+1) by omega]
theorem jjn (p:UInt8) (ns:List (List UInt8)):(λn=>(kO (yR p 0 ns) n).getD n)=jF p ns:=by
 funext n;rw [jcP];unfold jF;cases ns.findIdx? (λx=>decide (x=n)) with
 | none=>rfl
 | some i=>show kw p (0+i)=_;rw [Nat.zero_add]
theorem jid {p:UInt8} :∀ {ns:List (List UInt8)} {k:Nat},(∀n∈ns,jh n=true)-> ∀q∈yR p k ns,jh q.1=true
 | [],k,_,q,h=>by cases h
 | x::ns,k,hv,q,h=>by
  rw [yR] at h;rcases List.mem_cons.1 h with e|e
  ·rw [e];exact hv x (by simp)
  ·exact jid (λn hn=>hv n (by simp [hn])) q e
theorem juh (p:UInt8) (i:Nat) (h:i<=1000000):js .add false (sv [p]) (sv (Lib.decDigits i))=some (sv (kw p i)):=by
 rw [Ka,if_pos]
 ·rfl
 ·have:=(zP 6 i (by omega)).2;simp only [List.length_cons,List.length_nil];omega
theorem jir (p:UInt8) (ns:List (List UInt8)) (hn:ns.Nodup) (hl:ns.length<=1000):G 74 [strs ns,sv [p]]=some (.mp ((yR p 0 ns).map kn),[]):=by
 have key:=upto (P:=λi=>∀m:Nm',(∀n∈ns.drop i,kO m n=none)->jkX (sv [p]) (strs ns) (vi (ns.length:Nat)) (vi (i:Nat)) (m.map kn)=some (.mp ((m++yR p i (ns.drop i)).map kn),[])) (n:=ns.length) ?_ ?_ 0 (Nat.zero_le _) [] (λn _=>rfl)
 ·rw [List.drop_zero] at key;simp only [Int.natCast_zero,List.map_nil,List.nil_append] at key;rw [g74];simp only [jf,key]
 ·intro m _;rw [jsW,List.drop_length,yR,List.append_nil];simp only [jf]
 ·intro i hi ih m hm;have hlt:(i:Int) < ((ns.length:Nat):Int):=by omega
  have h5:=jv hi (by show ns.length<=9223372036854775807;omega)
  have e1:=jlq i (by omega);have e2:=juh p i (by omega);have ld:zn (.elt (cs ns[i]) 0)=some (sv ns[i]):=rfl;have hd:(ns.drop i).Nodup:=hn.sublist (List.drop_sublist i ns);rw [jl hi] at hm hd ⊢;have pt:=jtb (hm ns[i] (List.mem_cons_self ..)) (kw p i);have ih:=ih (m++[(ns[i],kw p i)]) λn hn'=>by
   rw [jaa,hm n (List.mem_cons_of_mem _ hn')];show (if ns[i]=n then _ else none)=none;rw [if_neg];rintro e;exact (List.nodup_cons.1 hd).1 (e ▸ hn')
  rw [List.append_assoc] at ih;rw [jsW,yR];simp only [jf,hlt,jb hi,ld,e1,e2,pt,h5,ih];rfl
theorem jmJ {m:Nm'} (hm:∀p∈m,jh p.1=true) {n:List UInt8} (h:jh n=false):kO m n=none:=by
 induction m with
 | nil=>rfl
 | cons p m ih=>
  rw [kO,if_neg,ih λq hq=>hm q (by simp [hq])];intro e;rw [<-e,hm p (by simp)] at h;cases h
theorem jki (m:Nm') (hm:∀p∈m,jh p.1=true):∀t:T,Rx' t->Tz t->G 119 [tm t,.mp (m.map kn)]=some (tm (jB (λn=>(kO m n).getD n) t),[]):=by
 refine T.ind λt ih hk ht=> ?_;have hz:=ht;unfold Tz at hz;rw [j4] at hz;have e0:=jur m t.name;rw [jxi,JB];cases hv:jh t.name with
 | true=>
  have ha:=hk.va hv;rw [if_pos rfl];obtain ⟨n,us⟩:=t;have ha:us = []:=ha;subst ha;have lp:∀x:List UInt8,QT (.mp (m.map kn)) (.sl 2 []) (vi 0) (vi 0) (sv []) (sv x) [] []=some (.agg [sv x,.sl 2 []],[]):=λx=>by
   rw [jjN];simp only [jf]
  have e0:Jy none true true [sv []] (.mp (m.map kn)) (sv n)=some (match kO m n with|some r=> .tup [sv r,vb true]|none=> .tup [sv [],vb false]):=e0;show Option.bind (Kq 2 (.agg [sv n,.sl 2 []])) _=some (A.agg [sv ((kO m n).getD n),.sl 2 []],[]);cases hl:kO m n with
  | none=>
   rw [hl] at e0;have lp:=lp n;simp only [jf,e0,lp,Option.getD_none,Int.natCast_zero]
  | some r=>
   rw [hl] at e0;have lp:=lp r;simp only [jf,e0,lp,Option.getD_some,Int.natCast_zero]
 | false=>
  rw [jmJ hm hv] at e0;rw [if_neg Bool.false_ne_true];have key:=(upto (P:=λi=>QT (.mp (m.map kn)) (kr t.args) (vi (t.args.length:Nat)) (vi i) (sv []) (sv t.name) [] (((t.args.map (jB λn=>(kO m n).getD n)).take i).map jy)=some (tm (.mk t.name (t.args.map (jB λn=>(kO m n).getD n))),[])) (n:=t.args.length) ?_ ?_ 0 (Nat.zero_le _))
  ·simp only [Int.natCast_zero,List.take_zero,List.map_nil] at key;simp only [jf,e0,key]
  ·rw [jjN,List.take_of_length_le (by rw [List.length_map];omega)]
   simp only [jf];rfl
  ·intro i hi ih';have hlt:(i:Int) < ((t.args.length:Nat):Int):=by omega
   have h5:=jv hi (by show t.args.length<=9223372036854775807;omega)
   have e2:=ih t.args[i] (List.getElem_mem _) (hk.args _ (List.getElem_mem _)) (ht.args _ (List.getElem_mem _));have hf:jO (i+1) 40=true:=jj6 (by omega);have hi2:i < (t.args.map (jB λn=>(kO m n).getD n)).length:=by rw [List.length_map];exact hi
   have hl:(((t.args.map (jB λn=>(kO m n).getD n)).take i).map jy).length=i:=by rw [List.length_map,List.length_take,List.length_map];omega
   have ha:kM (((t.args.map (jB λn=>(kO m n).getD n)).take i).map jy) [[sv (jB (λn=>(kO m n).getD n) t.args[i]).name,kr (jB (λn=>(kO m n).getD n) t.args[i]).args]]=((t.args.map (jB λn=>(kO m n).getD n)).take (i+1)).map jy:=by
    rw [show [sv (jB (λn=>(kO m n).getD n) t.args[i]).name,kr (jB (λn=>(kO m n).getD n) t.args[i]).args]=jy (jB (λn=>(kO m n).getD n) t.args[i]) from (kg _).symm,List.take_add_one,List.getElem?_eq_getElem hi2,List.map_append,List.getElem_map];rfl
   generalize ((t.args.map (jB λn=>(kO m n).getD n)).take i).map jy=R at *;generalize jB (λn=>(kO m n).getD n) t.args[i]=u at *;rw [jjN];simp only [jf,hlt,jb hi,jk,e2,hl,hf,ha,h5,ih']
theorem jiq (p:UInt8) (ns:List (List UInt8)) (hv:∀n∈ns,jh n=true) (t:T) (hk:Rx' t) (ht:Tz t):G 119 [tm t,.mp ((yR p 0 ns).map kn)]=some (tm (jB (jF p ns) t),[]):=by
 rw [jki _ (jid hv) t hk ht,jjn]
theorem jhE (p:UInt8) (ns:List (List UInt8)) (hn:ns.length<=1000):∀t:T,Tz t->G 127 [tm t,strs ns,sv [p]]=some (tm (jB (jF p ns) t),[]):=by
 refine T.ind λt ih ht=> ?_;have hz:=ht;unfold Tz at hz;rw [j4] at hz;have e0:=J6 t.name (((zs t).1 ht.wf).1);rw [jxp,JB];cases hv:jh t.name<;>rw [hv] at e0
 ·rw [if_neg Bool.false_ne_true];have key:=(upto (P:=λi=>jfa (strs ns) (sv [p]) (vi i) (sv t.name) (kr t.args) (sv []) (sv t.name) [] (((t.args.map (jB (jF p ns))).take i).map jy)=some (tm (.mk t.name (t.args.map (jB (jF p ns)))),[])) (n:=t.args.length) ?_ ?_ 0 (Nat.zero_le _))
  ·simp only [Int.natCast_zero,List.take_zero,List.map_nil] at key;simp only [jf,e0,key]
  ·rw [jo0,List.take_of_length_le (by rw [List.length_map];omega)]
   simp only [jf];rfl
  ·intro i hi ih';have hlt:(i:Int) < ((t.args.length:Nat):Int):=by omega
   have h5:=jv hi (by show t.args.length<=9223372036854775807;omega)
   have e2:=ih t.args[i] (List.getElem_mem _) (ht.args _ (List.getElem_mem _));have hf:jO (i+1) 40=true:=jj6 (by omega);have hi2:i < (t.args.map (jB (jF p ns))).length:=by rw [List.length_map];exact hi
   have hl:(((t.args.map (jB (jF p ns))).take i).map jy).length=i:=by rw [List.length_map,List.length_take,List.length_map];omega
   have ha:kM (((t.args.map (jB (jF p ns))).take i).map jy) [[sv (jB (jF p ns) t.args[i]).name,kr (jB (jF p ns) t.args[i]).args]]=((t.args.map (jB (jF p ns))).take (i+1)).map jy:=by
    rw [show [sv (jB (jF p ns) t.args[i]).name,kr (jB (jF p ns) t.args[i]).args]=jy (jB (jF p ns) t.args[i]) from (kg _).symm,List.take_add_one,List.getElem?_eq_getElem hi2,List.map_append,List.getElem_map];rfl
   generalize ((t.args.map (jB (jF p ns))).take i).map jy=R at *;generalize jB (jF p ns) t.args[i]=u at *;rw [jo0];simp only [jf,hlt,jb hi,jk,e2,hl,hf,ha,h5,ih']
 ·rw [if_pos rfl];have key:=(upto (P:=λi=>(∀j,(h:j < i)-> ∀h':j < ns.length,ns[j]≠t.name)->je9 (strs ns) (sv [p]) (vi i) (sv t.name) (kr t.args) (sv []) []=some (tm (.mk (jF p ns t.name) []),[])) (n:=ns.length) ?_ ?_ 0 (Nat.zero_le _)) (λj h=>by omega)
  ·simp only [Int.natCast_zero] at key;simp only [jf,e0,key]
  ·intro hall;have:jF p ns t.name=t.name:=by
    unfold jF;have:ns.findIdx? (λx=>decide (x=t.name))=none:=by
     rw [List.findIdx?_eq_none_iff];intro x hx;obtain ⟨j,hj,rfl⟩:=List.mem_iff_getElem.1 hx;simpa using hall j hj hj
    rw [this]
   rw [joZ,this];simp only [jf];rfl
  ·intro i hi ih' hall;have hlt:(i:Int) < ((ns.length:Nat):Int):=by omega
   have h5:=jv hi (by show ns.length<=9223372036854775807;omega)
   have ld:zn (.elt (cs ns[i]) 0)=some (sv ns[i]):=rfl;rw [joZ];by_cases he:ns[i]=t.name
   ·have e1:=jcG i (by omega);have e2:=juh p i (by omega);have:jF p ns t.name=kw p i:=by
     unfold jF;have:ns.findIdx? (λx=>decide (x=t.name))=some i:=by
      rw [List.findIdx?_eq_some_iff_getElem];exact ⟨hi,by simp [he],λj hj=>by simpa using hall j hj (by omega)⟩
     rw [this]
    rw [this];simp only [jf,hlt,jb hi,ld,he,e1,e2];rfl
   ·have ih':=ih' λj hj hj'=>by
     by_cases h:j=i
     ·subst h;exact he
     ·exact hall j (by omega) hj'
    simp only [jf,hlt,jb hi,ld,he,h5,ih']
theorem jc7 {n:Nat} (h:n<=1000000):jO n 48=true:=by
 unfold jO;exact decide_eq_true ⟨by omega,by omega⟩
theorem QM {α:Type} {f:α->List A} {xs:List α} {i:Nat} (h:i < xs.length):kM ((xs.take i).map f) [f xs[i]]=(xs.take (i+1)).map f:=by
 rw [List.take_add_one,List.getElem?_eq_getElem h,List.map_append];rfl
theorem take_len {α:Type} {f:α->List A} {xs:List α} {i:Nat} (h:i<=xs.length):((xs.take i).map f).length=i:=by rw [List.length_map,List.length_take];omega
noncomputable def eqL (a b:Lt):Bool:=decide (a.1=b.1) && dq a.2 b.2
theorem Qb (a b:Lt):eqL a b=true↔a=b:=by
 obtain ⟨p,t⟩:=a;obtain ⟨q,u⟩:=b;unfold eqL;rw [Bool.and_eq_true,decide_eq_true_eq,yK,Prod.mk.injEq]
theorem Zn (a b:Lt) (ha:Tz a.2) (hb:Tz b.2):G 149 [ltm a,ltm b]=some (vb (eqL a b),[]):=by
 have e1:=JG a.2 ha.wf b.2 hb.wf;unfold eqL;rw [jxy];by_cases h:a.1=b.1
 ·rw [decide_eq_true h,Bool.true_and];simp only [jf,h,e1]
 ·rw [decide_eq_false h,Bool.false_and];simp only [jf,h]
theorem K0 (l:Lt) (h:Tz l.2):G 107 [ltm l]=some (ltm l,[]):=by
 have e1:=jaJ l.2 h;rw [jxd];simp only [jf,e1];generalize hB:kT _ _ _=B;have hB':B=some (ltm l):=by rw [<-hB];kernel_rfl
 rw [hB'];simp only [jf]
noncomputable def cpG:Lt->List Lt->List Lt
 | _,[]=>[]
 | p,b::l=>if eqL b p then cpG b l else b::cpG b l
theorem jg5:∀(l:List Lt) (a:Lt),Qa eqL (a::l)=a::cpG a l
 | [],a=>rfl
 | b::l,a=>by
  rw [Qa,jg5 l b,cpG];show (if eqL a b then b::cpG b l else a::b::cpG b l)=_;by_cases h:a=b
  ·subst h;rw [if_pos ((Qb a a).2 rfl),if_pos ((Qb a a).2 rfl)]
  ·rw [if_neg (λe=>h ((Qb a b).1 e)),if_neg (λe=>h ((Qb b a).1 e).symm)]
theorem jv6 {α:Type} {f:α->List A} {xs:List α} {i:Nat} (h:i < xs.length) (n:Nat):yh (xs.map f) i 0 n=some (.agg ((f xs[i]).take n)):=by unfold yh;simp [h]
theorem QC {xs:List Lt} {i:Nat} (h:i < xs.length):yh (xs.map jC) i 0 3=some (ltm xs[i]):=jv6 h 3
theorem jpJ {α:Type} {f:α->List A} {xs:List α} {i:Nat} (h:i < xs.length):Z7 (jw (xs.map f)) (vi (i:Nat))=some i:=by
 rw [jdj,List.length_map];exact yb h
theorem jcc {α:Type} {R s:List α} {k i:Nat} (h:R.drop k=s.drop k) (hk:k<=i) (hi:i < R.length) (hs:i < s.length):R[i]=s[i]:=by
 have:=congrArg (λl=>l[i - k]?) h;simp only [List.getElem?_drop,show k+(i - k)=i by omega,List.getElem?_eq_getElem hi,List.getElem?_eq_getElem hs] at this;exact Option.some.inj this
theorem jon (s:List Lt) (hl:s.length<=1000000) (hz:∀x∈s,Tz x.2) (k:Nat) (hk:k < s.length):∀j,j<=s.length - k->1<=j-> ∀(w:Nat) (R:List Lt),R.length=s.length->R.drop (k+j - 1)=s.drop (k+j - 1)->w+1<=k+j-> ∀p:Lt,(∃h:k+j - 1 < s.length,s[k+j - 1]=p)->
  KU (vi (w:Nat)) (nA k) (nA (s.length - k)) (vi (j:Nat)) (R.map jC)=some (.top,[.sl 3 ((R.take w++cpG p (s.drop (k+j))).map jC)]):=by
 refine upto ?_ ?_
 ·intro _ w R hR hag hw p hp;have hd:s.drop (k+(s.length - k)) = []:=List.drop_eq_nil_of_le (by omega);have hlt:¬((s.length - k:Nat):Int) < ((s.length - k:Nat):Int):=by omega
  have hlt':js .lss false (vi ((s.length - k:Nat):Int)) (nA (s.length - k))=some (vb false):=by
   show some (vb (decide _))=_;rw [decide_eq_false hlt]
  have b1:pB (Ji (R.map jC)) (Ks (R.map jC) 0) none=some R.length:=by
   rw [jam,show Ks (R.map jC) 0=R.length by rw [jbG,List.length_map];rfl];exact Yu (Nat.le_refl _)
  have b2:pB 0 R.length (some (vi (w:Nat)))=some w:=jh4 (by omega);have ln:(yj (R.map jC) (0+w) (ZT (yq R.length w) [vb false,sv [],.sl 2 []])).length=R.length:=by
   rw [jik];simp [ZT,Qr];omega
  have b3:pB (Ji (yj (R.map jC) (0+w) (ZT (yq R.length w) [vb false,sv [],.sl 2 []]))) (Ks (yj (R.map jC) (0+w) (ZT (yq R.length w) [vb false,sv [],.sl 2 []])) 0) (some (vi (w:Nat)))=some w:=by
   rw [jrV,jbG,ln];exact jh4 (by omega)
  have tk:List.take (yq w 0) (yj (R.map jC) (0+w) (ZT (yq R.length w) [vb false,sv [],.sl 2 []]))=(R.take w).map jC:=by
   rw [jik,Qr,Nat.sub_zero,Nat.zero_add,List.append_assoc,List.take_append_of_le_length (by rw [List.length_take,List.length_map];omega),List.take_take,Nat.min_self,List.map_take]
  have h1:nOf (nA (s.length - k))=s.length - k:=rfl;rw [jhC];simp only [cev];rw [hd,cpG,List.append_nil,h1,hlt'];simp only [Option.bind_some,jc5,Q1,b1,b2,b3,tk]
 ·intro j hj ih hj1 w R hR hag hw p hp;obtain ⟨hp1,hp2⟩:=hp;have hi:k+j < s.length:=by omega
  have hlt':js .lss false (vi ((j:Nat):Int)) (nA (s.length - k))=some (vb true):=by
   show some (vb (decide (((j:Nat):Int) < ((s.length - k:Nat):Int))))=_;rw [decide_eq_true (by omega)]
  have h1:nOf (nA (s.length - k))=s.length - k:=rfl;have h2:nOf (nA k)=k:=rfl;have x1:Z7 (s.length - k) (vi ((j:Nat):Int))=some j:=yb hj;have c1:js .sub false (vi ((j:Nat):Int)) (vi 1)=some (vi ((j - 1:Nat):Int)):=by
   rw [jh6,show ((j:Nat):Int) - 1=((j - 1:Nat):Int) by omega];exact jH (by omega) (by omega)
  have x2:Z7 (s.length - k) (vi ((j - 1:Nat):Int))=some (j - 1):=yb (by omega);have a1:R[k+j]'(by omega)=s[k+j]:=jcc hag (by omega) (by omega) hi;have a2:R[k+(j - 1)]'(by omega)=p:=by
   rw [<-hp2];have:=jcc hag (i:=k+(j - 1)) (by omega) (by omega) (by omega);rw [this];congr 1;omega
  have r1:yh (R.map jC) (k+j) 0 3=some (ltm s[k+j]):=by rw [QC (by omega),a1]
  have r2:yh (R.map jC) (k+(j - 1)) 0 3=some (ltm p):=by rw [QC (by omega),a2]
  have zp:Tz p.2:=by rw [<-hp2];exact hz _ (List.getElem_mem _)
  have e1:=Zn s[k+j] p (hz _ (List.getElem_mem _)) zp;have h5:js .add false (vi ((j:Nat):Int)) (vi 1)=some (vi ((j+1:Nat):Int)):=jv (i:=j) (n:=j+1) (by omega) (by omega);have hdr:s.drop (k+j)=s[k+j]::s.drop (k+(j+1)):=jl hi;have hag':R.drop (k+(j+1) - 1)=s.drop (k+(j+1) - 1):=by
   have:=congrArg (List.drop 1) hag;rw [List.drop_drop,List.drop_drop] at this;rwa [show k+j - 1+1=k+(j+1) - 1 by omega] at this
  have hx:∃h:k+(j+1) - 1 < s.length,s[k+(j+1) - 1]=s[k+j]:=⟨by omega,by congr 1⟩;rw [jhC];simp only [cev];rw [hdr,cpG,h1,h2,hlt'];cases hq:eqL s[k+j] p<;>rw [hq] at e1
  ·rw [if_neg Bool.false_ne_true];have x3:Z7 R.length (vi (w:Nat))=some w:=yb (by omega);have rg:jgf (R.map jC) w=some (jC (R[w]'(by omega))):=by unfold jgf;simp [show w < R.length by omega]
   have co:∀x y:Lt,JY (jC x) 0 [vb y.1,sv y.2.name,kr y.2.args]=jC y:=λx y=>rfl;have rs:JM (R.map jC) w (jC s[k+j])=(R.set w s[k+j]).map jC:=by unfold JM;rw [List.map_set]
   have h6:js .add false (vi ((w:Nat):Int)) (vi 1)=some (vi ((w+1:Nat):Int)):=jv (i:=w) (n:=w+1) (by omega) (by omega);have:=ih (by omega) (w+1) (R.set w s[k+j]) (by rw [List.length_set];exact hR) (by rw [List.drop_set_of_lt (by omega)];exact hag') (by omega) s[k+j] hx;have tk:(R.set w s[k+j]).take (w+1)=R.take w++[s[k+j]]:=by
    rw [List.take_add_one,List.take_set_of_le (Nat.le_refl _),List.getElem?_set_self (by omega)];rfl
   rw [tk,List.append_assoc] at this;simp only [jf,x1,r1,c1,x2,r2,e1,x3,rg,co,rs,h6,h5];rw [this];rfl
  ·rw [if_pos rfl];have:=ih (by omega) w R hR hag' (by omega) s[k+j] hx;simp only [jf,x1,r1,c1,x2,r2,e1,h5];exact this
theorem jom (s:List Lt) (hl:s.length<=1000000) (hz:∀x∈s,Tz x.2):∀k,k<=s.length->1<=k-> ∀p:Lt,(∃h:k - 1 < s.length,s[k - 1]=p)->YV (vi (k:Nat)) (s.map jC)=some (.top,[.sl 3 ((s.take k++cpG p (s.drop k)).map jC)]):=by
 refine upto ?_ ?_
 ·intro _ p _;rw [jhB,List.drop_length,cpG,List.append_nil,List.take_length];simp only [jf]
 ·intro k hk ih hk1 p hp;obtain ⟨hp1,hp2⟩:=hp;have hlt:((k:Nat):Int) < ((s.length:Nat):Int):=by omega
  have x1:Z7 (jw (s.map jC)) (vi (k:Nat))=some k:=jpJ hk;have c1:ck (((k:Nat):Int) - 1)=some (vi ((k - 1:Nat):Int)):=by
   rw [show ((k:Nat):Int) - 1=((k - 1:Nat):Int) by omega];exact jH (by omega) (by omega)
  have x2:Z7 (jw (s.map jC)) (vi ((k - 1:Nat):Int))=some (k - 1):=jpJ hp1;have r1:=QC hk;have r2:yh (s.map jC) (k - 1) 0 3=some (ltm p):=by rw [QC hp1,hp2]
  have zp:Tz p.2:=by rw [<-hp2];exact hz _ (List.getElem_mem _)
  have e1:=Zn s[k] p (hz _ (List.getElem_mem _)) zp;have h5:=jv hk (by show s.length<=9223372036854775807;omega);rw [jhB,jl hk,cpG];rw [jdj,List.length_map] at x1 x2;cases hq:eqL s[k] p<;>rw [hq] at e1
  ·have ih:=ih (by omega) s[k] ⟨by omega,by congr 1⟩;rw [List.take_add_one,List.getElem?_eq_getElem hk,List.append_assoc] at ih;rw [if_neg Bool.false_ne_true];simp only [jf,hlt,x1,r1,c1,x2,r2,e1,h5];exact ih
  ·have b1:pB (Ji (s.map jC)) (Ks (s.map jC) 0) none=some s.length:=by
    rw [jam,show Ks (s.map jC) 0=s.length by rw [jbG,List.length_map];rfl];exact Yu (Nat.le_refl _)
   have b2:pB 0 s.length (some (vi (k:Nat)))=some k:=jh4 (by omega);have:=jon s hl hz k hk 1 (by omega) (Nat.le_refl _) k s rfl rfl (Nat.le_refl _) s[k] ⟨by omega,rfl⟩;rw [if_pos rfl];simp only [jf,hlt,x1,r1,c1,x2,r2,e1,b1,b2,Qr];exact this
theorem jju (s:List Lt) (hl:s.length<=1000000) (hz:∀x∈s,Tz x.2):jja (s.map jC)=some (.top,[.sl 3 ((Qa eqL s).map jC)]):=by
 rw [jtO]
 match s,hl,hz with
 | [],_,_=>simp only [jf];rfl
 | [a],_,_=>simp only [jf];rfl
 | a::b::r,hl,hz=>
  have:=jom (a::b::r) hl hz 1 (by simp) (Nat.le_refl _) a ⟨by simp,rfl⟩;rw [jg5];have hlt:¬(((a::b::r).length:Nat):Int) < 2:=by simp only [List.length_cons];omega
  generalize hx:a::b::r=x at *;simp only [jf,hlt];rw [<-hx] at this ⊢;exact this
theorem jnq (l:List Lt) (hl:l.length<=1000000) (hk:∀x∈l,Rx' x.2) (hz:∀x∈l,Tz x.2):∃s:List Lt,s.Perm l/\s.Pairwise (λa b=>¬cmpL b a < 0)/\ji9 (l.map jC)=some (.top,[.sl 3 (s.map jC)]):=by
 obtain ⟨s,h1,h2,h3⟩:=jhd kK id jC 3 71 rfl l (by omega) λx hx y hy=>Jd x y (hk x hx) (hz x hx) (hk y hy) (hz y hy);exact ⟨s,h1,h2,by rw [jtN];exact h3⟩
theorem jg2 (l:List Lt) (hl:l.length<=1000000) (hk:∀x∈l,Rx' x.2) (hz:∀x∈l,Tz x.2):G 120 [.sl 3 (l.map jC)]=some (cm (zl cmpL l),[]):=by
 obtain ⟨s,h1,h2,h3⟩:=jnq l hl hk hz;have h4:=jju s (by rw [h1.length_eq];exact hl) λx hx=>hz x (h1.mem_iff.1 hx);rw [jrF kK Qb h2 λx=>h1.mem_iff] at h4;have key:=upto (P:=λi=>je7 (.sl 3 (l.map jC)) (vi (l.length:Nat)) (vi (i:Nat)) [] ((l.take i).map jC)=some (cm (zl cmpL l),[])) (n:=l.length) ?_ ?_ 0 (Nat.zero_le _)
 ·simp only [Int.natCast_zero,List.take_zero,List.map_nil] at key;rw [jxj];simp only [jf,key]
 ·have r1:∀s:List Lt,hR 3 (A.top,[.sl 3 (s.map jC)]) 0=some (s.map jC):=λs=>rfl;rw [joU,List.take_length];simp only [jf,h3,r1,h4]
 ·intro i hi ih;have hlt:(i:Int) < ((l.length:Nat):Int):=by omega
  have h5:=jv hi (by show l.length<=9223372036854775807;omega)
  have e1:=K0 l[i] (hz _ (List.getElem_mem _));have ta:=QM (f:=jC) hi;have tl:=take_len (f:=jC) (Nat.le_of_lt hi);have hf:jO (i+1) 48=true:=jc7 (by omega);generalize (l.take i).map jC=R at *;rw [joU];simp only [jf,hlt,jb hi,zU,e1,tl,hf,ta,h5,ih]
theorem jdP (l:jK) (hl:l.length<=1000000) (hz:∀x∈l,Tz x.2):G 59 [cm l]=some (cm l,[]):=by
 have key:=upto (P:=λi=>jkU (.sl 3 (l.map jC)) (vi (l.length:Nat)) (vi (i:Nat)) [] ((l.take i).map jC)=some (cm l,[])) (n:=l.length) ?_ ?_ 0 (Nat.zero_le _)
 ·simp only [Int.natCast_zero,List.take_zero,List.map_nil] at key;rw [g59];simp only [jf,key]
 ·rw [jsT,List.take_length];simp only [jf]
 ·intro i hi ih;have hlt:(i:Int) < ((l.length:Nat):Int):=by omega
  have h5:=jv hi (by show l.length<=9223372036854775807;omega)
  have e1:=K0 l[i] (hz _ (List.getElem_mem _));have ta:=QM (f:=jC) hi;have tl:=take_len (f:=jC) (Nat.le_of_lt hi);have hf:jO (i+1) 48=true:=jc7 (by omega);generalize (l.take i).map jC=R at *;rw [jsT];simp only [jf,hlt,jb hi,zU,e1,tl,hf,ta,h5,ih]
theorem jho (c:jK) (hl:c.length<=1048576) (hz:∀l∈c,Tz l.2):G 29 [cm c]=jf8 (if kC c then some c else none):=by
 have e1:=kY c hl hz;rw [g29];cases hv:kC c<;>rw [hv] at e1
 ·rw [if_neg Bool.false_ne_true];simp only [jf,e1];rfl
 ·rw [if_pos rfl];simp only [jf,e1];rfl
noncomputable def sameC (a b:jK):Bool:=dq a b
theorem jl0 {α:Type} {p:α->Bool} {l:List α} {k:Nat} (hk:k<=l.length) (h1:∀j,(h:j < k)-> ∀h':j < l.length,p l[j]=true) (h2:(∃h:k < l.length,p l[k]=false)\/k=l.length):l.takeWhile p=l.take k/\l.dropWhile p=l.drop k:=by
 have hp:∀a∈l.take k,p a=true:=λa ha=>by
  obtain ⟨j,hj,rfl⟩:=List.mem_iff_getElem.1 ha;rw [List.length_take] at hj;rw [List.getElem_take];exact h1 j (by omega) (by omega)
 have e:=List.takeWhile_append_of_pos (l₂:=l.drop k) hp;have e':=List.dropWhile_append_of_pos (l₂:=l.drop k) hp;rw [List.take_append_drop] at e e';rw [e,e'];rcases h2 with ⟨h,h2⟩|h
 ·rw [jl h,List.takeWhile_cons_of_neg (by simp [h2]),List.dropWhile_cons_of_neg (by simp [h2]),List.append_nil];exact ⟨rfl,rfl⟩
 ·rw [h,List.drop_length];simp
theorem jbz (u:List Lt) (hl:u.length<=900000) (i:Nat) (hi:i<=u.length) (x:Lt) :
  pB (Ji (u.map jC)) (Ks (u.map jC) 0) (some (vi (i:Nat)))=some i/\ZU (u.map jC) 0 (yq i 0)=(u.take i).map jC/\jO (u.take i).length 48=true/\pB (Ji (u.map jC)) (Ks (u.map jC) 0) none=some u.length/\pB 0 u.length (some (vi (i:Nat)))=some i/\ZU (u.map jC) i (yq u.length i)=(u.drop i).map jC/\
  jO ((u.take i).length+1) 48=true/\jO ((kM ((u.take i).map jC) [jC x]).length+((u.drop i).map jC).length) 48=true/\kM (kM ((u.take i).map jC) [jC x]) ((u.drop i).map jC)=(u.take i++x::u.drop i).map jC:=by
 have e1:Ji (u.map jC)=u.length:=jam jC u;have e2:Ks (u.map jC) 0=u.length:=by rw [jbG,List.length_map];rfl
 refine ⟨by rw [e1,e2];exact jh4 hi,by rw [jlK,Qr,Nat.sub_zero,List.drop_zero,List.map_take],?_,by rw [e1,e2];exact Yu (Nat.le_refl _),jh4 hi,?_,?_,?_,?_⟩
 ·rw [List.length_take];exact jc7 (by omega)
 ·rw [jlK,Qr,<-List.map_drop,List.take_of_length_le (by rw [List.length_map,List.length_drop];omega)]
 ·rw [List.length_take];exact jc7 (by omega)
 ·exact jc7 (by unfold kM;rw [List.length_append,List.length_map,List.length_map,List.length_take,List.length_drop];simp only [List.length_cons,List.length_nil];omega)
 ·unfold kM;rw [List.map_append,List.append_assoc];rfl
theorem jhF (l:List Lt) (hl:l.length<=1000) (hz:∀x∈l,Tz x.2) (i:Nat) (hi:i < l.length) (u:List Lt) (hu:u.length<=1000) (hzu:∀x∈u,Tz x.2):∀k,k<=u.length->(∀j,(h:j < k)-> ∀h':j < u.length,cmpL u[j] l[i] < 0)->
  jkT (.sl 3 (l.map jC)) (vi (i:Nat)) (vi (k:Nat)) (u.map jC) []=jd1 (.sl 3 (l.map jC)) (vi ((i+1:Nat):Int)) ((qx cmpL u l[i]).map jC) []:=by
 have h5:=jv hi (by show l.length<=9223372036854775807;omega)
 have ld:∀l:Lt,zn (.elt (jC l) 0)=some (vb l.1):=λl=>rfl;have ad:∀(l:Lt) (n:Nat),qL (.elt (jC l) 0) n=some (.elt (jC l) n):=λl n=>by rw [Jh,Nat.zero_add]
 have ld2:∀l:Lt,jP 2 (.elt (jC l) 1)=some (tm l.2):=λl=>rfl;have e2:=jf9 l[i].2 (hz _ (List.getElem_mem _));have hck:ck ((i:Int)+1)=some (vi ((i+1:Nat):Int)):=jH (by omega) (by omega);refine upto ?_ ?_
 ·intro hall;obtain ⟨t1,t2⟩:=jl0 (p:=λa=>decide (cmpL a l[i] < 0)) (Nat.le_refl u.length) (λj h h'=>decide_eq_true (hall j h h')) (Or.inr rfl);obtain ⟨k1,k2,k3,k4,k5,k6,k7,k8,k9⟩:=jbz u (by omega) u.length (Nat.le_refl _) l[i];have hins:qx cmpL u l[i]=u.take u.length++l[i]::u.drop u.length:=by
   unfold qx;rw [t1,t2,List.drop_length,if_neg (by simp)]
  rw [hins,jsS];simp only [cev];have hlt:js .lss false (vi (u.length:Nat)) (yF (u.map jC))=some (vb false):=by
   rw [jlJ,List.length_map,jh5,decide_eq_false (by omega)]
  simp only [hlt,Option.bind_some,jic,jta,Bool.false_eq_true,if_false,decide_false,decide_true,jh9,jc5,Q1,jgX,jb hi,ad,ld,ld2,jhe];simp only [jf,hlt,jb hi,ad,ld,ld2,e2];generalize hB:kT _ _ _=B;have hB':B=some (ltm l[i]):=by rw [<-hB];kernel_rfl
  rw [hB'];simp only [jf,k1,k2,k4,k5];rw [if_pos k3,if_pos k7,k6,if_pos k8,hck,Option.bind_some,k9]
 ·intro k hk ih hall;have hlt:((k:Nat):Int) < ((u.length:Nat):Int):=by omega
  have x1:Z7 u.length (vi (k:Nat))=some k:=yb hk;have r1:=QC hk;have e1:=JI u[k] l[i] (hzu _ (List.getElem_mem _)) (hz _ (List.getElem_mem _));rw [jsS];by_cases hc:cmpL u[k] l[i] < 0
  ·have ih:=ih λj h h'=>by
    by_cases hj:j=k
    ·subst hj;exact hc
    ·exact hall j (by omega) h'
   have hk1:ck ((k:Int)+1)=some (vi ((k+1:Nat):Int)):=jH (by omega) (by omega);generalize cmpL u[k] l[i]=d at *;simp only [jf,hlt,x1,r1,jb hi,zU,e1,hc,hk1];exact ih
  ·obtain ⟨t1,t2⟩:=jl0 (p:=λa=>decide (cmpL a l[i] < 0)) (Nat.le_of_lt hk) (λj h h'=>decide_eq_true (hall j h h')) (Or.inl ⟨hk,decide_eq_false hc⟩);have hins:qx cmpL u l[i]=if cmpL u[k] l[i]=0 then u else u.take k++l[i]::u.drop k:=by
    unfold qx;rw [t1,t2,jl hk];by_cases h0:cmpL u[k] l[i]=0
    ·rw [if_pos h0];exact if_pos (decide_eq_true h0)
    ·rw [if_neg h0];exact if_neg (λe=>h0 (of_decide_eq_true e))
   rw [hins];by_cases h0:cmpL u[k] l[i]=0
   ·rw [if_pos h0];rw [h0] at e1;simp only [jf,hlt,x1,r1,jb hi,zU,e1,hck]
   ·obtain ⟨k1,k2,k3,k4,k5,k6,k7,k8,k9⟩:=jbz u (by omega) k (Nat.le_of_lt hk) l[i];rw [if_neg h0];generalize cmpL u[k] l[i]=d at *;simp only [jf,hlt,x1,r1,jb hi,zU,e1,hc,h0,ad,ld,ld2,e2];generalize hB:kT _ _ _=B;have hB':B=some (ltm l[i]):=by rw [<-hB];kernel_rfl
    rw [hB'];simp only [jf,k1,k2,k4,k5];rw [if_pos k3,if_pos k7,k6,if_pos k8,hck,Option.bind_some,k9]
theorem jhp {u:List Lt} (hu:Asc cmpL u) (x:Lt) {y:Lt} :y∈qx cmpL u x↔y∈u\/y=x:=(Qm kK hu x).2 y
theorem Q8 (l:List Lt) (hl:l.length<=900) (hz:∀x∈l,Tz x.2):G 53 [.sl 3 (l.map jC)]=some (cm (zl cmpL l),[]):=by
 have key:=upto (P:=λi=>∀u:List Lt,Asc cmpL u->u.length<=i->(∀x∈u,Tz x.2)->jd1 (.sl 3 (l.map jC)) (vi (i:Nat)) (u.map jC) []=some (cm ((l.drop i).foldl (qx cmpL) u),[])) (n:=l.length) ?_ ?_ 0 (Nat.zero_le _) [] List.Pairwise.nil (Nat.le_refl _) (λx h=>by cases h)
 ·rw [List.drop_zero] at key;simp only [Int.natCast_zero,List.map_nil] at key;rw [g53,key];rfl
 ·intro u _ _ _;rw [jsR,List.drop_length];simp only [jf];rfl
 ·intro i hi ih u ha hu hzu;have hlt:(i:Int) < ((l.length:Nat):Int):=by omega
  have:=jhF l (by omega) hz i hi u (by omega) hzu 0 (Nat.zero_le _) (λj h=>absurd h (Nat.not_lt_zero _));simp only [Int.natCast_zero] at this;have h2:=ih (qx cmpL u l[i]) (Qm kK ha l[i]).1 (by have:=jcp cmpL u l[i];omega) λx hx=>by
   rcases (jhp ha l[i]).1 hx with h|h
   ·exact hzu x h
   ·rw [h];exact hz _ (List.getElem_mem _)
  rw [jsR,jl hi,List.foldl_cons];simp only [jf,hlt,this,h2]
theorem CN.ren_tz {p:UInt8} (hp:YG p=true) {c:jK} (h:CN c):∀x∈c.map (λl=>(l.1,jB (jF p (ji c)) l.2)),Rx' x.2/\Tz x.2:=λx hx=>⟨(h.ren hp x hx).1.rx,(h.ren hp x hx).1.tz (by have:=(h.ren hp x hx).2;omega)⟩
theorem Z8 (p:UInt8) (c:jK) (h:CN c) (ns:List (List UInt8)) (hn:∀n∈ns,jh n=true) (hr:∀x∈c.map (λl=>(l.1,jB (jF p ns) l.2)),Rx' x.2/\Tz x.2):G 73 [cm c,.mp ((yR p 0 ns).map kn)]=some (cm (zl cmpL (c.map λl=>(l.1,jB (jF p ns) l.2))),[]):=by
 have h8:=h.1;have e3:=jg2 (c.map λl=>(l.1,jB (jF p ns) l.2)) (by rw [List.length_map];omega) (λx hx=>(hr x hx).1) λx hx=>(hr x hx).2;generalize hd:c.map (λl=>(l.1,jB (jF p ns) l.2))=d at *;have hdl:d.length=c.length:=by rw [<-hd,List.length_map]
 have key:=upto (P:=λi=>jkW (.mp ((yR p 0 ns).map kn)) (.sl 3 (c.map jC)) (vi (c.length:Nat)) (vi (i:Nat)) ((d.take i).map jC) []=some (cm (zl cmpL d),[])) (n:=c.length) ?_ ?_ 0 (Nat.zero_le _)
 ·simp only [Int.natCast_zero,List.take_zero,List.map_nil] at key;rw [g73];simp only [jf,key]
 ·rw [jsV,<-hdl,List.take_length];simp only [jf,e3]
 ·intro i hi ih;have hi2:i < d.length:=by omega
  have hlt:(i:Int) < ((c.length:Nat):Int):=by omega
  have h5:=jv hi (by show c.length<=9223372036854775807;omega)
  have e1:=jiq p ns hn c[i].2 (h.rx _ (List.getElem_mem _)) (h.tz _ (List.getElem_mem _));have hdi:d[i]=(c[i].1,jB (jF p ns) c[i].2):=by simp only [<-hd,List.getElem_map]
  have ta:=QM (f:=jC) hi2;have tl:=take_len (f:=jC) (Nat.le_of_lt hi2);have hf:jO (i+1) 48=true:=jc7 (by omega);rw [hdi] at ta;generalize (d.take i).map jC=R at *;generalize jB (jF p ns) c[i].2=u at *;rw [jsV];simp only [jf,hlt,jb hi,zU,e1];generalize hB:kT _ _ _=B;have hB':B=some (ltm (c[i].1,u)):=by rw [<-hB];kernel_rfl
  rw [hB'];have hck:ck ((i:Int)+1)=some (vi ((i+1:Nat):Int)):=jH (by omega) (by omega);simp only [jf,tl,hf,ta,hck,ih]
theorem jfR (p:UInt8) (c:jK) (h:CN c) (ns:List (List UInt8)) (hl:ns.length<=1000) (hr:∀x∈c.map (λl=>(l.1,jB (jF p ns) l.2)),Rx' x.2/\Tz x.2):G 79 [cm c,strs ns,sv [p]]=some (cm (zl cmpL (c.map λl=>(l.1,jB (jF p ns) l.2))),[]):=by
 have h8:=h.1;have e3:=Q8 (c.map λl=>(l.1,jB (jF p ns) l.2)) (by rw [List.length_map];omega) (λx hx=>(hr x hx).2);generalize hd:c.map (λl=>(l.1,jB (jF p ns) l.2))=d at *;have hdl:d.length=c.length:=by rw [<-hd,List.length_map]
 have key:=upto (P:=λi=>jkZ (strs ns) (sv [p]) (vi (i:Nat)) (.sl 3 (c.map jC)) ((d.take i).map jC) []=some (cm (zl cmpL d),[])) (n:=c.length) ?_ ?_ 0 (Nat.zero_le _)
 ·simp only [Int.natCast_zero,List.take_zero,List.map_nil] at key;rw [g79];simp only [jf,key]
 ·rw [jsZ,<-hdl,List.take_length];have hlt:¬((d.length:Nat):Int) < ((c.length:Nat):Int):=by omega
  simp only [jf,hlt,e3]
 ·intro i hi ih;have hi2:i < d.length:=by omega
  have hlt:(i:Int) < ((c.length:Nat):Int):=by omega
  have h5:=jv hi (by show c.length<=9223372036854775807;omega)
  have e1:=jhE p ns hl c[i].2 (h.tz _ (List.getElem_mem _));have hdi:d[i]=(c[i].1,jB (jF p ns) c[i].2):=by simp only [<-hd,List.getElem_map]
  have ta:=QM (f:=jC) hi2;have tl:=take_len (f:=jC) (Nat.le_of_lt hi2);have hf:jO (i+1) 48=true:=jc7 (by omega);have ld:∀l:Lt,zn (.elt (jC l) 0)=some (vb l.1):=λl=>rfl;have ad:∀(l:Lt) (n:Nat),qL (.elt (jC l) 0) n=some (.elt (jC l) n):=λl n=>by rw [Jh,Nat.zero_add]
  have ld2:∀l:Lt,jP 2 (.elt (jC l) 1)=some (tm l.2):=λl=>rfl;rw [hdi] at ta;generalize (d.take i).map jC=R at *;generalize jB (jF p ns) c[i].2=u at *;rw [jsZ];simp only [jf,hlt,jb hi,ad,ld,ld2,e1];generalize hB:kT _ _ _=B;have hB':B=some (ltm (c[i].1,u)):=by rw [<-hB];kernel_rfl
  rw [hB'];have hck:ck ((i:Int)+1)=some (vi ((i+1:Nat):Int)):=jH (by omega) (by omega);simp only [jf,tl,hf,ta,hck,ih]
theorem jaq (p:UInt8) (hp:YG p=true) (c:jK) (h:CN c):G 73 [cm c,.mp ((yR p 0 (ji c)).map kn)]=some (cm (renC p c),[]):=Z8 p c h (ji c) (λn=>zF) (h.ren_tz hp)
theorem jhG (p:UInt8) (hp:YG p=true) (c:jK) (h:CN c):G 79 [cm c,strs (ji c),sv [p]]=some (cm (renC p c),[]):=jfR p c h (ji c) (by have:=zE h;omega) (h.ren_tz hp)
theorem jeo (c:jK) (h:CN c):G 75 [cm c]=some (strs (ji c),[]):=jcW c (by have:=h.1;omega) h.rx h.tz λl hl=>by have:=(h.2 l hl).2;omega
theorem jmN (c:jK) (h:CN c):G 80 [cm c]=some (strs (ji c),[]):=jcJ c (by have:=h.1;omega) h.tz λl hl=>by have:=(h.2 l hl).2;omega
theorem jc1:∀(k i:Nat),k+i=10-> ∀c:jK,CN c->jkK (vi (i:Nat)) (.sl 3 (c.map jC)) []=some (cm (normF k c),[])
 | 0,i,hk,c,h=>by
  have hi:((i:Nat):Int)=10:=by omega
  rw [jsH,normF,hi];simp only [jf]
 | k+1,i,hk,c,h=>by
  have hlt:((i:Nat):Int) < 10:=by omega
  have e1:=KG c h;rw [jsH,normF];cases hn:zf c<;>rw [hn] at e1
  ·have hl:=zE h;have e2:=jeo c h;have e3:=jir 88 (ji c) (kI c) (by omega);have e4:=jaq 88 (by decide) c h;have hck:ck ((i:Int)+1)=some (vi ((i+1:Nat):Int)):=jH (by omega) (by omega);have ih:=jc1 k (i+1) (by omega) (renC 88 c) (h.renC (by decide));rw [if_neg Bool.false_ne_true];simp only [jf,hlt,e1,e2,e3,e4,hck,ih]
  ·rw [if_pos rfl];simp only [jf,hlt,e1]
theorem jf2 (c:jK) (h:CN c):G 30 [cm c]=some (cm (normC c),[]):=by
 have e1:=jdP c (by have:=h.1;omega) h.tz
 have e2:=jc1 10 0 rfl c h;simp only [Int.natCast_zero] at e2;rw [g30];simp only [jf,e1,e2];rfl
theorem jc2:∀(k i:Nat),k+i=10-> ∀c:jK,CN c->jkM (vi (i:Nat)) (.sl 3 (c.map jC)) []=some (.tup [cm (normF k c),vb (kC (normF k c))],[])
 | 0,i,hk,c,h=>by
  have hi:((i:Nat):Int)=10:=by omega
  have e0:=J7 c (by have:=h.1;omega) h.tz
  rw [jsJ,normF,hi];simp only [jf,e0]
 | k+1,i,hk,c,h=>by
  have hlt:((i:Nat):Int) < 10:=by omega
  have e0:=J7 c (by have:=h.1;omega) h.tz
  have e1:=jdV c h;rw [jsJ,normF];cases hn:zf c<;>rw [hn] at e1
  ·have e2:=jmN c h;have e4:=jhG 88 (by decide) c h;have hck:ck ((i:Int)+1)=some (vi ((i+1:Nat):Int)):=jH (by omega) (by omega);have ih:=jc2 k (i+1) (by omega) (renC 88 c) (h.renC (by decide));rw [if_neg Bool.false_ne_true];simp only [jf,hlt,e1,e2,e4,hck,ih]
  ·rw [if_pos rfl];simp only [jf,hlt,e1,e0]
theorem jaR (c:jK) (h:CN c) (ha:Asc cmpL c):G 32 [cm c]=some (.tup [cm (normC c),vb (kC (normC c))],[]):=by
 have e1:=Q8 c (by have:=h.1;omega) h.tz
 rw [jhO ha] at e1;have e2:=jc2 10 0 rfl c h;simp only [Int.natCast_zero] at e2;rw [g32];simp only [jf,e1,e2];rfl
mutual
def wT:T->List Key
 | .mk n us=>kU (.mk n us)::wTL us
def wTL:List T->List Key
 | []=>[]
 | t::ts=>wT t++wTL ts
end
def Q9:List Key->List Key->Int
 | [],[]=>0
 | [],_::_=> -1
 | _::_,[]=>1
 | a::x,b::y=>if cK a b≠0 then cK a b else Q9 x y
mutual
theorem jph:∀(a b:T) (x y:List Key),Q9 (wT a++x) (wT b++y)=if kE a b≠0 then kE a b else Q9 x y
 | .mk n us,.mk m vs,x,y=>by
  have e:=qE (.mk n us) (.mk m vs);rw [wT,wT,List.cons_append,List.cons_append,Q9];by_cases h:cK (kU (.mk n us)) (kU (.mk m vs))=0
  ·rw [if_neg (by simpa using h)] at e ⊢;have e:kE (.mk n us) (.mk m vs)=kx us vs:=e;have hk:=Q7 ((yI.zero _ _).1 h);have hl:us.length=vs.length:=hk.2;rw [e,jlw us vs x y hl]
  ·rw [if_pos h] at e ⊢;rw [e,if_pos h]
theorem jlw:∀(us vs:List T) (x y:List Key),us.length=vs.length->Q9 (wTL us++x) (wTL vs++y)=if kx us vs≠0 then kx us vs else Q9 x y
 | [],[],x,y,_=>by
  rw [kx,if_neg (λh=>h rfl)];rfl
 | [],_::_,_,_,h=>by cases h
 | _::_,[],_,_,h=>by cases h
 | a::us,b::vs,x,y,h=>by
  rw [wTL,wTL,List.append_assoc,List.append_assoc,jph a b,jlw us vs x y (Nat.succ.inj h),kx];by_cases h0:kE a b=0
  ·simp [h0]
  ·simp [h0]
end
theorem J1 (a b:T):kE a b=Q9 (wT a) (wT b):=by
 have h:=jph a b [] [];rw [List.append_nil,List.append_nil] at h;rw [h];by_cases h0:kE a b=0
 ·rw [if_neg (λh'=>h' h0),h0];rfl
 ·rw [if_pos h0]
def rK (f:List UInt8->List UInt8) (k:Key):Key:=if k.1=0 then (0,(f k.2.1,0)) else k
theorem jfv (a b:List UInt8):cK (0,(a,0)) (0,(b,0))=jT a b:=by
 unfold cK;by_cases h:jT a b=0
 ·simp [jV,h]
 ·simp [jV,h]
theorem jjp {m k:Key} (h:¬m.1=0) (hk:k.1=0):0 < cK m k:=by
 unfold cK;have:0 < jV m.1 k.1:=by
  rw [hk];unfold jV;split
  ·omega
  ·split<;>omega
 rw [if_pos (by omega)];exact this
theorem J8 (a b:Key) (x y:List Key):Q9 (a::x) (b::y)=if cK a b≠0 then cK a b else Q9 x y:=rfl
theorem jnu {U S:List UInt8->Prop} {f:List UInt8->List UInt8} {v:List UInt8} (hv:U v/\ ¬S v) (fS:∀n,S n->f n=n) (fv:∀n,U n-> ¬S n->n≠v->jT (f v) (f n) < 0) (so:∀s n,S s->U n-> ¬S n->jT s n < 0) (sn:∀s n,S s->U n-> ¬S n->jT s (f n) < 0) :
  ∀(P R M:List Key),(∀k∈P,k.1=0->S k.2.1/\k.2.2=0)->(∀k∈M,k.1=0->U k.2.1/\k.2.2=0)->Q9 (P++(0,(v,0))::R) M<=0->Q9 (M.map (rK f)) ((P++(0,(v,0))::R).map (rK f))<=0-> ∃R',M=P++(0,(v,0))::R':=by
 intro P;induction P with
 | nil=>
  intro R M _ hM h1 h2;cases M with
  | nil=>exact absurd h1 (by show ¬(1:Int)<=0;decide)
  | cons m M=>
   rw [List.nil_append,J8] at h1;rw [List.nil_append,List.map_cons,List.map_cons,J8] at h2;by_cases h0:cK (0,(v,0)) m=0
   ·exact ⟨M,by rw [<-(yI.zero _ _).1 h0];rfl⟩
   ·rw [if_pos h0] at h1;have hr:rK f (0,(v,0))=(0,(f v,0)):=rfl;rw [hr] at h2;by_cases hm:m.1=0
    ·obtain ⟨u1,u2⟩:=hM m List.mem_cons_self hm;obtain ⟨m1,n,m3⟩:=m;have hm:m1=0:=hm;have u2:m3=0:=u2;have u1:U n:=u1;subst hm u2;rw [jfv] at h0 h1;have hne:n≠v:=λe=>h0 (by rw [e];exact (zv.zero _ _).2 rfl);by_cases hs:S n
     ·have:=so n v hs hv.1 hv.2;have:=zv.flip n v;omega
     ·have h3:=fv n u1 hs hne;have h4:=zv.flip (f v) (f n);have hr2:rK f (0,(n,0))=(0,(f n,0)):=rfl;rw [hr2,jfv,if_pos (by omega)] at h2;omega
    ·have hr2:rK f m=m:=if_neg hm;have:=jjp (k:=(0,(f v,0))) hm rfl;rw [hr2,if_pos (by omega)] at h2;omega
 | cons p P ih=>
  intro R M hP hM h1 h2;cases M with
  | nil=>exact absurd h1 (by show ¬(1:Int)<=0;decide)
  | cons m M=>
   rw [List.cons_append,J8] at h1;rw [List.cons_append,List.map_cons,List.map_cons,J8] at h2;have hp:=hP p List.mem_cons_self;have hrp:rK f p=p:=by
    by_cases h:p.1=0
    ·obtain ⟨s1,s2⟩:=hp h;obtain ⟨p1,n,p3⟩:=p;have h:p1=0:=h;have s2:p3=0:=s2;have s1:S n:=s1;subst h s2;show (0,(f n,0))=_;rw [fS n s1]
    ·exact if_neg h
   rw [hrp] at h2;by_cases h0:cK p m=0
   ·have e:=(yI.zero _ _).1 h0;subst e;rw [if_neg (λh=>h h0)] at h1;rw [hrp,if_neg (λh=>h h0)] at h2;obtain ⟨R',e⟩:=ih R M (λk hk=>hP k (List.mem_cons_of_mem _ hk)) (λk hk=>hM k (List.mem_cons_of_mem _ hk)) h1 h2;exact ⟨R',by rw [e];rfl⟩
   ·rw [if_pos h0] at h1;have hfl:=yI.flip p m;have same:rK f m=m->False:=λe=>by
     rw [e,if_pos (by omega)] at h2;omega
    by_cases hm:m.1=0
    ·obtain ⟨u1,u2⟩:=hM m List.mem_cons_self hm;by_cases hs:S m.2.1
     ·refine (same ?_).elim;obtain ⟨m1,n,m3⟩:=m;have hm:m1=0:=hm;have u2:m3=0:=u2;have hs:S n:=hs;subst hm u2;show (0,(f n,0))=_;rw [fS n hs]
     ·by_cases h:p.1=0
      ·obtain ⟨s1,s2⟩:=hp h;obtain ⟨m1,n,m3⟩:=m;obtain ⟨p1,s,p3⟩:=p;have hm:m1=0:=hm;have u2:m3=0:=u2;have h:p1=0:=h;have s2:p3=0:=s2;have u1:U n:=u1;have s1:S s:=s1;have hs:¬S n:=hs;subst hm u2 h s2;have h3:=sn s n s1 u1 hs;have h4:=zv.flip s (f n);have hr2:rK f (0,(n,0))=(0,(f n,0)):=rfl;rw [hr2,jfv,if_pos (by omega)] at h2;omega
      ·have:=jjp (m:=p) (k:=m) h hm;omega
    ·exact (same (if_neg hm)).elim
def wV:List Key->List (List UInt8)
 | []=>[]
 | k::w=>if k.1=0 then k.2.1::wV w else wV w
theorem YD:∀x y:List Key,wV (x++y)=wV x++wV y
 | [],_=>rfl
 | k::x,y=>by
  rw [List.cons_append,wV,wV,YD x y];split<;>rfl
theorem Qp {n:List UInt8} (h:jh n=true):kU (.mk n [])=(0,(n,0)):=by
 unfold kU vF;show ((if jh n then 0 else 1),(n,0))=_;rw [if_pos h]
theorem qh {n:List UInt8} {us:List T} (h:jh n=false):kU (.mk n us)=(1,(n,us.length)):=by
 unfold kU vF;show ((if jh n then 0 else 1),(n,us.length))=_;rw [h,if_neg Bool.false_ne_true]
mutual
theorem jpz:∀(t:T) (l:List (List UInt8)),zO t=true->yt l t=(wV (wT t)).foldl Kd l
 | .mk n us,l,h=>by
  rw [zO] at h;rw [yt,wT];cases hv:jh n with
  | true=>
   rw [hv,if_pos rfl] at h;have:us = []:=List.isEmpty_iff.1 h;subst this;rw [if_pos rfl,Qp hv,wV,if_pos rfl];rfl
  | false=>
   rw [hv,if_neg Bool.false_ne_true,Bool.and_eq_true,Bool.and_eq_true] at h;rw [if_neg Bool.false_ne_true,qh hv,wV,if_neg Nat.one_ne_zero];exact jah us l h.2.2
theorem jah:∀(ts:List T) (l:List (List UInt8)),Jg ts=true->Ko l ts=(wV (wTL ts)).foldl Kd l
 | [],_,_=>rfl
 | t::ts,l,h=>by
  rw [Jg,Bool.and_eq_true] at h;rw [Ko,wTL,YD,List.foldl_append,jpz t l h.1,jah ts _ h.2]
end
section
variable {f:List UInt8->List UInt8}
mutual
theorem jp1:∀(t:T),zO t=true->(∀n∈wV (wT t),jh (f n)=true)->wT (jB f t)=(wT t).map (rK f)
 | .mk n us,h,hf=>by
  rw [zO] at h;rw [jB];cases hv:jh n with
  | true=>
   rw [hv,if_pos rfl] at h;have:us = []:=List.isEmpty_iff.1 h;subst this;have hn:jh (f n)=true:=hf n (by rw [wT,Qp hv,wV,if_pos rfl];exact List.mem_cons_self);rw [if_pos rfl,wT,wT,Qp hv,Qp hn];rfl
  | false=>
   rw [hv,if_neg Bool.false_ne_true,Bool.and_eq_true,Bool.and_eq_true] at h;have hl:(zd f us).length=us.length:=by rw [Jm,List.length_map]
   rw [if_neg Bool.false_ne_true,wT,wT,qh hv,qh hv,hl,List.map_cons,jap us h.2.2 (λm hm=>hf m (by rw [wT,qh hv,wV,if_neg Nat.one_ne_zero];exact hm))]
   rfl
theorem jap:∀(ts:List T),Jg ts=true->(∀n∈wV (wTL ts),jh (f n)=true)->wTL (zd f ts)=(wTL ts).map (rK f)
 | [],_,_=>rfl
 | t::ts,h,hf=>by
  rw [Jg,Bool.and_eq_true] at h;rw [zd,wTL,wTL,List.map_append,jp1 t h.1 (λn hn=>hf n (by rw [wTL,YD];exact List.mem_append_left _ hn)),jap ts h.2 (λn hn=>hf n (by rw [wTL,YD];exact List.mem_append_right _ hn))]
end
end
theorem jb7 {t:T} (h:Bx t):jh t.name=false/\Jg t.args=true:=by
 rcases h with ⟨h1,_,h3⟩|⟨h1,h2⟩
 ·exact ⟨by rw [h1];decide,by rw [zG];exact List.all_eq_true.2 h3⟩
 ·exact ⟨YA h1,by rw [zG];exact List.all_eq_true.2 (zH h2)⟩
theorem jtB {t:T} (h:Bx t) (l:List (List UInt8)):yt l t=(wV (wT t)).foldl Kd l:=by
 obtain ⟨h1,h2⟩:=jb7 h;cases t with
 | mk n us=>
  have h1:jh n=false:=h1;have h2:Jg us=true:=h2;rw [yt,wT,h1,if_neg Bool.false_ne_true,qh h1,wV,if_neg Nat.one_ne_zero];exact jah us l h2
theorem jjm {f:List UInt8->List UInt8} {t:T} (h:Bx t) (hf:∀n∈wV (wT t),jh (f n)=true):wT (jB f t)=(wT t).map (rK f):=by
 obtain ⟨h1,h2⟩:=jb7 h;cases t with
 | mk n us=>
  have h1:jh n=false:=h1;have h2:Jg us=true:=h2;have hl:(zd f us).length=us.length:=by rw [Jm,List.length_map]
  rw [jB,h1,if_neg Bool.false_ne_true,wT,wT,qh h1,qh h1,hl,List.map_cons,jap us h2 (λm hm=>hf m (by rw [wT,qh h1,wV,if_neg Nat.one_ne_zero];exact hm))]
  rfl
theorem jgC:∀(y l:List (List UInt8)),∃r,y.foldl Kd l=l++r
 | [],l=>⟨[],by rw [List.append_nil];rfl⟩
 | n::y,l=>by
  obtain ⟨r,hr⟩:=jgC y (Kd l n);rw [List.foldl_cons,hr];unfold Kd;split
  ·exact ⟨r,rfl⟩
  ·exact ⟨n::r,by rw [List.append_assoc];rfl⟩
theorem KE:∀(y l:List (List UInt8)) (x:List UInt8),x∈y.foldl Kd l↔x∈l\/x∈y
 | [],l,x=>by simp
 | n::y,l,x=>by
  rw [List.foldl_cons,KE y,jl3,List.mem_cons,or_assoc]
def kq (c:jK):List (List UInt8):=c.flatMap λl=>wV (wT l.2)
theorem Jf (c:jK) (h:∀l∈c,Bx l.2):ji c=(kq c).foldl Kd []:=by
 have:∀(c:jK) (l:List (List UInt8)),(∀x∈c,Bx x.2)->c.foldl (λl x=>yt l x.2) l=(kq c).foldl Kd l:=by
  intro c;induction c with
  | nil=>intro l _;rfl
  | cons x c ih=>
   intro l hx;show c.foldl _ (yt l x.2)=List.foldl Kd l (wV (wT x.2)++kq c);rw [List.foldl_append,ih _ (λy hy=>hx y (List.mem_cons_of_mem _ hy)),jtB (hx x List.mem_cons_self)]
 exact this c [] h
theorem jmp {X Y:List (List UInt8)} {v:List UInt8} {ns:List (List UInt8)} (hn:(X++v::Y).foldl Kd []=ns) (hd:ns.Nodup) {k:Nat} (hX:∀x∈X,x∈ns.take k) (hv:¬v∈ns.take k) (hk:k < ns.length):X.foldl Kd []=ns.take k/\ns[k]=v:=by
 rw [List.foldl_append,List.foldl_cons] at hn;have hm:=KE X [];generalize X.foldl Kd []=l1 at *;have hnot:¬v∈l1:=λh=>by
  rcases (hm v).1 h with h|h
  ·cases h
  ·exact hv (hX v h)
 have hvn:Kd l1 v=l1++[v]:=by
  unfold Kd;rw [if_neg (λh=>hnot (List.contains_iff_mem.1 h))]
 obtain ⟨r,hr⟩:=jgC Y (Kd l1 v);rw [hn,hvn,List.append_assoc] at hr;have hr:ns=l1++v::r:=hr;have hsub:∀x∈l1,x∈ns.take k:=λx hx=>by
  rcases (hm x).1 hx with h|h
  ·cases h
  ·exact hX x h
 have hpair:=List.pairwise_iff_getElem.1 hd;have hlen:l1.length=k:=by
  rcases Nat.lt_trichotomy l1.length k with h|h|h
  ·exfalso;refine hv (List.mem_take_iff_getElem.2 ⟨l1.length,by omega,?_⟩);simp [hr]
  ·exact h
  ·exfalso;have h1:=hsub l1[k] (List.getElem_mem h);obtain ⟨i,hi,he⟩:=List.mem_take_iff_getElem.1 h1;refine hpair i k (by omega) hk (by omega) ?_;rw [he];simp [hr,h]
 subst hlen;refine ⟨by rw [hr,List.take_left],?_⟩;simp [hr]
theorem jkE {w:List Key} {k:Key} (h:k∈w) (h0:k.1=0):k.2.1∈wV w:=by
 induction w with
 | nil=>cases h
 | cons a w ih=>
  rw [wV];rcases List.mem_cons.1 h with e|h
  ·subst e;rw [if_pos h0];exact List.mem_cons_self
  ·split
   ·exact List.mem_cons_of_mem _ (ih h)
   ·exact ih h
mutual
theorem jpv:∀t:T,zO t=true-> ∀k∈wT t,k.1=0->k.2.2=0
 | .mk n us,h,k,hk,h0=>by
  rw [zO] at h;rw [wT] at hk;cases hv:jh n with
  | true=>
   rw [hv,if_pos rfl] at h;have:us = []:=List.isEmpty_iff.1 h;subst this;rw [Qp hv] at hk;rcases List.mem_cons.1 hk with e|hk
   ·rw [e]
   ·cases hk
  | false=>
   rw [hv,if_neg Bool.false_ne_true,Bool.and_eq_true,Bool.and_eq_true] at h;rw [qh hv] at hk;rcases List.mem_cons.1 hk with e|hk
   ·rw [e] at h0;cases h0
   ·exact jaf us h.2.2 k hk h0
theorem jaf:∀ts:List T,Jg ts=true-> ∀k∈wTL ts,k.1=0->k.2.2=0
 | [],_,k,hk,_=>by cases hk
 | t::ts,h,k,hk,h0=>by
  rw [Jg,Bool.and_eq_true] at h;rw [wTL] at hk;rcases List.mem_append.1 hk with hk|hk
  ·exact jpv t h.1 k hk h0
  ·exact jaf ts h.2 k hk h0
end
theorem Y6 {t:T} (h:Bx t):∀k∈wT t,k.1=0->k.2.2=0:=by
 obtain ⟨h1,h2⟩:=jb7 h;cases t with
 | mk n us=>
  have h1:jh n=false:=h1;have h2:Jg us=true:=h2;intro k hk h0;rw [wT,qh h1] at hk;rcases List.mem_cons.1 hk with e|hk
  ·rw [e] at h0;cases h0
  ·exact jaf us h2 k hk h0
theorem jdH {S:List UInt8->Prop} :∀w:List Key,(∀k∈w,k.1=0->k.2.2=0)->(∃x∈wV w,¬S x)-> ∃P v R,w=P++(0,(v,0))::R/\(∀k∈P,k.1=0->S k.2.1)/\ ¬S v
 | [],_,⟨x,hx,_⟩=>by cases hx
 | k::w,ha,⟨x,hx,hs⟩=>by
  by_cases h0:k.1=0/\ ¬S k.2.1
  ·have h2:=ha k List.mem_cons_self h0.1;obtain ⟨k1,n,k3⟩:=k;have h01:k1=0:=h0.1;have h2:k3=0:=h2;subst h01 h2;exact ⟨[],n,w,rfl,λk h=>(by cases h),h0.2⟩
  ·have hx':x∈wV w:=by
    rw [wV] at hx;by_cases h1:k.1=0
    ·rw [if_pos h1] at hx;rcases List.mem_cons.1 hx with e|hx
     ·exact absurd ⟨h1,e ▸ hs⟩ h0
     ·exact hx
    ·rwa [if_neg h1] at hx
   obtain ⟨P,v,R,e,h1,h2⟩:=jdH w (λk hk=>ha k (List.mem_cons_of_mem _ hk)) ⟨x,hx',hs⟩;refine ⟨k::P,v,R,by rw [e];rfl,λj hj h=> ?_,h2⟩;rcases List.mem_cons.1 hj with e|hj
   ·subst e;exact Classical.byContradiction λhn=>h0 ⟨h,hn⟩
   ·exact h1 j hj h
theorem jhM {U S:List UInt8->Prop} {f:List UInt8->List UInt8} (fS:∀n,S n->f n=n) (sn:∀s n,S s->U n-> ¬S n->jT s (f n) < 0):∀(x y:List Key),(∀k∈x,k.1=0->S k.2.1/\k.2.2=0)->(∀k∈y,k.1=0->U k.2.1/\k.2.2=0)->Q9 x y < 0->Q9 x (y.map (rK f)) < 0
 | [],[],_,_,h=>absurd h (by show ¬(0:Int) < 0;decide)
 | [],_::_,_,_,_=>by show (-1:Int) < 0;decide
 | _::_,[],_,_,h=>absurd h (by show ¬(1:Int) < 0;decide)
 | a::x,b::y,hx,hy,h=>by
  rw [J8] at h;rw [List.map_cons,J8];have ih:=jhM fS sn x y (λk hk=>hx k (List.mem_cons_of_mem _ hk)) (λk hk=>hy k (List.mem_cons_of_mem _ hk));have hfix:∀k:Key,(k.1=0->S k.2.1/\k.2.2=0)->rK f k=k:=λk hk=>by
   by_cases h0:k.1=0
   ·obtain ⟨s1,s2⟩:=hk h0;obtain ⟨k1,n,k3⟩:=k;have h0:k1=0:=h0;have s2:k3=0:=s2;have s1:S n:=s1;subst h0 s2;show (0,(f n,0))=_;rw [fS n s1]
   ·exact if_neg h0
  by_cases h0:cK a b=0
  ·have e:=(yI.zero _ _).1 h0;subst e;rw [if_neg (λh=>h h0)] at h;rw [hfix a (hx a List.mem_cons_self),if_neg (λh=>h h0)];exact ih h
  ·rw [if_pos h0] at h;by_cases hb:b.1=0/\ ¬S b.2.1
   ·obtain ⟨u1,u2⟩:=hy b List.mem_cons_self hb.1;by_cases ha:a.1=0
    ·obtain ⟨s1,s2⟩:=hx a List.mem_cons_self ha;obtain ⟨a1,s,a3⟩:=a;obtain ⟨b1,n,b3⟩:=b;have ha:a1=0:=ha;have s2:a3=0:=s2;have hb1:b1=0:=hb.1;have u2:b3=0:=u2;have hbs:¬S n:=hb.2;have s1:S s:=s1;have u1:U n:=u1;subst ha s2 hb1 u2;have h3:=sn s n s1 u1 hbs;have hr2:rK f (0,(n,0))=(0,(f n,0)):=rfl;rw [hr2,jfv,if_pos (by omega)];exact h3
    ·have:=jjp (m:=a) (k:=b) ha hb.1;omega
   ·have e:rK f b=b:=hfix b λh1=>⟨Classical.byContradiction λhn=>hb ⟨h1,hn⟩,(hy b List.mem_cons_self h1).2⟩;rw [e,if_pos h0];exact h
theorem jbE:∀j,j < 10-> ∀i,i < j->jT (kw 88 i) (kw 88 j) < 0:=by decide +kernel
theorem jd6 {S:List UInt8->Prop} :∀c:jK,(∃l∈c,∃x∈wV (wT l.2),¬S x)-> ∃A L B,c=A++L::B/\(∀a∈A,∀x∈wV (wT a.2),S x)/\ ∃x∈wV (wT L.2),¬S x
 | [],⟨l,hl,_⟩=>by cases hl
 | l::c,⟨m,hm,x,hx,hs⟩=>by
  by_cases h:∃x∈wV (wT l.2),¬S x
  ·exact ⟨[],l,c,rfl,λa ha=>(by cases ha),h⟩
  ·have hmc:m∈c:=by
    rcases List.mem_cons.1 hm with e|hm
    ·exact absurd ⟨x,e ▸ hx,hs⟩ h
    ·exact hm
   obtain ⟨A,L,B,e,h1,h2⟩:=jd6 c ⟨m,hmc,x,hx,hs⟩;refine ⟨l::A,L,B,by rw [e];rfl,λa ha y hy=> ?_,h2⟩;rcases List.mem_cons.1 ha with e|ha
   ·subst e;exact Classical.byContradiction λhn=>h ⟨y,hy,hn⟩
   ·exact h1 a ha y hy
theorem jfy {a b:Lt} (h:cmpL a b<=0):kE a.2 b.2<=0:=by
 unfold cmpL at h;by_cases h0:kE a.2 b.2=0
 ·omega
 ·rw [if_pos h0] at h;exact h
theorem job {c:jK} {a b:Lt} {l:jK} (h:Asc cmpL (a::l)) (hb:b∈a::l):cmpL a b<=0:=by
 rcases List.mem_cons.1 hb with e|hb
 ·rw [e,(kK.zero _ _).2 rfl];exact Int.le_refl _
 ·have:=(List.pairwise_cons.1 h).1 b hb;omega
theorem jgj {f:List UInt8->List UInt8} {t:T} (h:Bx t) (hv:∀n∈wV (wT t),jh (f n)=true) (hf:∀n∈wV (wT t),f n=n):jB f t=t:=by
 have e:=jjm h hv;have ar:=Y6 h;have:(wT t).map (rK f)=wT t:=by
  have:∀w:List Key,(∀k∈w,k.1=0->k.2.2=0/\f k.2.1=k.2.1)->w.map (rK f)=w:=by
   intro w;induction w with
   | nil=>intro _;rfl
   | cons k w ih=>
    intro hk;rw [List.map_cons,ih (λj hj=>hk j (List.mem_cons_of_mem _ hj))];congr 1;by_cases h0:k.1=0
    ·obtain ⟨s1,s2⟩:=hk k List.mem_cons_self h0;obtain ⟨k1,n,k3⟩:=k;have h0:k1=0:=h0;have s1:k3=0:=s1;have s2:f n=n:=s2;subst h0 s1;show (0,(f n,0))=_;rw [s2]
    ·exact if_neg h0
  exact this _ λk hk h0=>⟨ar k hk h0,hf _ (jkE hk h0)⟩
 rw [this] at e;refine (Y9.zero _ _).1 ?_;rw [J1,e,<-J1];exact (Y9.zero _ _).2 rfl
theorem jee (a b:jK):kq (a++b)=kq a++kq b:=List.flatMap_append ..
theorem jkD {f:List UInt8->List UInt8} :∀w:List Key,wV (w.map (rK f))=(wV w).map f
 | []=>rfl
 | k::w=>by
  rw [List.map_cons,wV,wV,jkD w];by_cases h:k.1=0
  ·have e:rK f k=(0,(f k.2.1,0)):=if_pos h;rw [e,if_pos rfl,if_pos h];rfl
  ·have e:rK f k=k:=if_neg h;rw [e,if_neg h,if_neg h]
theorem settle {c:jK} (h:CN c) (ha:Asc cmpL c) {k:Nat} (hk:k < (ji c).length) (h10:(ji c).length<=10) (hs:(ji c).take k=(List.range k).map (kw 88)) (hx:k=0\/ ∀x∈ji c,∃j,j < 10/\x=kw 88 j):∃r,ji (renC 88 c)=(List.range (k+1)).map (kw 88)++r:=by
 have hd:=kI c;have hbx:∀l∈c,Bx l.2:=λl hl=>(h.2 l hl).1;have hnf:=Jf c hbx;have hr:=h.renC (p:=88) (by decide);have hnr:=Jf (renC 88 c) (λl hl=>(hr.2 l hl).1);have hrc:renC 88 c=zl cmpL (c.map λl=>(l.1,jB (jF 88 (ji c)) l.2)):=rfl;have hUall:∀l∈c,∀x∈wV (wT l.2),x∈ji c:=λl hl x hx=>by
  rw [hnf,KE];exact Or.inr (List.mem_flatMap.2 ⟨l,hl,hx⟩)
 have hvar:∀n∈ji c,jh n=true:=λn=>zF;have hkf:∃l∈c,(ji c)[k]∈wV (wT l.2):=by
  have h1:=List.getElem_mem hk;have h2:(ji c)[k]∈kq c:=by
   have h3:=(KE (kq c) [] ((ji c)[k])).1 (by rw [<-hnf];exact h1)
   rcases h3 with h3|h3
   ·cases h3
   ·exact h3
  obtain ⟨l,hl,h4⟩:=List.mem_flatMap.1 h2;exact ⟨l,hl,h4⟩
 generalize ji c=ns at *;generalize hf:jF 88 ns=f at *;have hfi:∀i (hi:i < ns.length),f ns[i]=kw 88 i:=λi hi=>by rw [<-hf];exact yT hd hi
 have hpair:=List.pairwise_iff_getElem.1 hd;have hti:∀i (hi:i < k),ns[i]=kw 88 i:=λi hi=>by
  have h1:(ns.take k)[i]'(by rw [List.length_take];omega)=kw 88 i:=by
   have:∀(l:List (List UInt8)) (e:l=(List.range k).map (kw 88)) (hl:i < l.length),l[i]=kw 88 i:=λl e hl=>by subst e;simp
   exact this _ hs _
  rw [List.getElem_take] at h1;exact h1
 have hSi:∀n,n∈ns.take k-> ∃i,i < k/\n=kw 88 i/\f n=n:=λn hn=>by
  obtain ⟨i,hi,he⟩:=List.mem_take_iff_getElem.1 hn;have h1:=hti i (by omega);have h2:=hfi i (by omega);rw [he] at h1 h2;exact ⟨i,by omega,h1,by rw [h2,h1]⟩
 have hUi:∀n,n∈ns-> ¬n∈ns.take k-> ∃i,k<=i/\i < 10/\f n=kw 88 i/\(n=ns[k]\/k < i):=λn hn hns=>by
  obtain ⟨i,hi,he⟩:=List.getElem_of_mem hn;have hki:k<=i:=Nat.le_of_not_lt λhlt=>hns (List.mem_take_iff_getElem.2 ⟨i,by omega,he⟩);refine ⟨i,hki,by omega,by rw [<-he];exact hfi i hi,?_⟩;by_cases e:i=k
  ·subst e;exact Or.inl he.symm
  ·exact Or.inr (by omega)
 have hnk:¬ns[k]∈ns.take k:=λhm=>by
  obtain ⟨i,hi,he⟩:=List.mem_take_iff_getElem.1 hm;exact hpair i k (by omega) hk (by omega) he
 have hvf:∀n,n∈ns->jh (f n)=true:=λn hn=>by
  rw [<-hf];exact JX (by decide) (by omega) (hvar n hn)
 obtain ⟨l0,hl0,hl1⟩:=hkf;obtain ⟨A,L,B,rfl,hA,hL⟩:=jd6 (S:=λn=>n∈ns.take k) c ⟨l0,hl0,ns[k],hl1,hnk⟩;have hLm:L∈A++L::B:=List.mem_append_right _ List.mem_cons_self;obtain ⟨P,v,R,hw,hP,hv⟩:=jdH (S:=λn=>n∈ns.take k) (wT L.2) (Y6 (hbx L hLm)) hL;have hvns:v∈ns:=hUall L hLm v (by rw [hw,YD];exact List.mem_append_right _ List.mem_cons_self);have hflat:kq (A++L::B)=(kq A++wV P)++v::(wV R++kq B):=by
  rw [jee];show kq A++(wV (wT L.2)++kq B)=_;rw [hw,YD];show kq A++((wV P++v::wV R)++kq B)=_;simp
 have hX:∀x∈kq A++wV P,x∈ns.take k:=λx hx=>by
  rcases List.mem_append.1 hx with hx|hx
  ·obtain ⟨a,ha1,ha2⟩:=List.mem_flatMap.1 hx;exact hA a ha1 x ha2
  ·have:∀w:List Key,(∀k'∈w,k'.1=0->k'.2.1∈ns.take k)-> ∀x∈wV w,x∈ns.take k:=by
    intro w;induction w with
    | nil=>intro _ x hx;cases hx
    | cons a w ih=>
     intro hk' x hx;rw [wV] at hx;have ih:=ih (λj hj=>hk' j (List.mem_cons_of_mem _ hj)) x;split at hx
     ·rename_i h0;rcases List.mem_cons.1 hx with e|hx
      ·rw [e];exact hk' a List.mem_cons_self h0
      ·exact ih hx
     ·exact ih hx
   exact this P hP x hx
 rw [hflat] at hnf;obtain ⟨hXf,hvk⟩:=jmp hnf.symm hd hX hv hk;have fS:∀n,n∈ns.take k->f n=n:=λn hn=>by obtain ⟨i,_,_,e⟩:=hSi n hn;exact e
 have fvk:f v=kw 88 k:=by rw [<-hvk];exact hfi k hk
 have fv:∀n,n∈ns-> ¬n∈ns.take k->n≠v->jT (f v) (f n) < 0:=λn h1 h2 h3=>by
  obtain ⟨i,i1,i2,i3,i4⟩:=hUi n h1 h2;rw [fvk,i3];rcases i4 with e|i4
  ·exact absurd (e.trans hvk) h3
  ·exact jbE i i2 k i4
 have so:∀s n,s∈ns.take k->n∈ns-> ¬n∈ns.take k->jT s n < 0:=λs n h1 h2 h3=>by
  obtain ⟨i,i1,i2,_⟩:=hSi s h1;rcases hx with e|hx
  ·omega
  ·obtain ⟨j,j1,j2⟩:=hx n h2;have hkj:k<=j:=Nat.le_of_not_lt λhlt=>h3 (List.mem_take_iff_getElem.2 ⟨j,by omega,by rw [hti j hlt,j2]⟩);rw [i2,j2];exact jbE j j1 i (by omega)
 have sn:∀s n,s∈ns.take k->n∈ns-> ¬n∈ns.take k->jT s (f n) < 0:=λs n h1 h2 h3=>by
  obtain ⟨i,i1,i2,_⟩:=hSi s h1;obtain ⟨j,j1,j2,j3,_⟩:=hUi n h2 h3;rw [i2,j3];exact jbE j j2 i (by omega)
 have hPk:∀k'∈P,k'.1=0->k'.2.1∈ns.take k/\k'.2.2=0:=λk' hk' h0=>⟨hP k' hk' h0,Y6 (hbx L hLm) k' (by rw [hw];exact List.mem_append_left _ hk') h0⟩
 have hWk:∀l∈A++L::B,∀k'∈wT l.2,k'.1=0->k'.2.1∈ns/\k'.2.2=0:=λl hl k' hk' h0=>⟨hUall l hl _ (jkE hk' h0),Y6 (hbx l hl) k' hk' h0⟩;have hren:∀l∈A++L::B,wT (jB f l.2)=(wT l.2).map (rK f):=λl hl=>jjm (hbx l hl) λn hn=>hvf n (hUall l hl n hn);have hfixL:∀l∈A++L::B,(∀x∈wV (wT l.2),x∈ns.take k)->jB f l.2=l.2:=λl hl hS=>jgj (hbx l hl) (λn hn=>hvf n (hUall l hl n hn)) λn hn=>fS n (hS n hn);obtain ⟨ascA,ascB,ascAB⟩:=List.pairwise_append.1 ha;have hD:=zS kK ((L::B).map λl=>(l.1,jB f l.2));have hE:=zS kK ((A++L::B).map λl=>(l.1,jB f l.2));rw [<-hrc] at hE;generalize zl cmpL ((L::B).map λl=>(l.1,jB f l.2))=D at hD;have hAm:A.map (λl=>(l.1,jB f l.2))=A:=by
  have:∀a∈A,(λl:Lt=>(l.1,jB f l.2)) a=a:=λa ha1=>by
   show (a.1,jB f a.2)=a;rw [hfixL a (List.mem_append_left _ ha1) (hA a ha1)]
  rw [List.map_congr_left this,List.map_id']
 have hAD:Asc cmpL (A++D):=by
  refine List.pairwise_append.2 ⟨ascA,hD.1,λa ha1 d hd1=> ?_⟩;obtain ⟨b,hb,rfl⟩:=List.mem_map.1 ((hD.2 d).1 hd1);have hab:=ascAB a ha1 b hb;have hbm:b∈A++L::B:=List.mem_append_right _ hb;have ham:a∈A++L::B:=List.mem_append_left _ ha1;by_cases h0:kE a.2 b.2=0
  ·have e:=(Y9.zero _ _).1 h0;have:jB f b.2=b.2:=hfixL b hbm (by rw [<-e];exact hA a ha1);rw [this];exact hab
  ·have h1:kE a.2 b.2 < 0:=by
    have:=jfy (Int.le_of_lt hab);omega
   rw [J1] at h1;have h2:=jhM (U:=λn=>n∈ns) (S:=λn=>n∈ns.take k) fS sn (wT a.2) (wT b.2) (λk' hk' h0=>⟨hA a ha1 _ (jkE hk' h0),(hWk a ham k' hk' h0).2⟩) (hWk b hbm) h1;rw [<-hren b hbm,<-J1] at h2;unfold cmpL;rw [if_pos (by show kE a.2 (jB f b.2)≠0;omega)];exact h2
 have hEq:renC 88 (A++L::B)=A++D:=jbw kK hE.1 hAD λx=>by
  rw [hE.2,List.map_append,hAm,List.mem_append,List.mem_append,hD.2]
 have hLD:(L.1,jB f L.2)∈D:=(hD.2 _).2 (List.mem_map.2 ⟨L,List.mem_cons_self,rfl⟩);cases D with
 | nil=>cases hLD
 | cons M D=>
  obtain ⟨M0,hM0,rfl⟩:=List.mem_map.1 ((hD.2 M).1 List.mem_cons_self);have hM0m:M0∈A++L::B:=List.mem_append_right _ hM0;have c1:=jfy (job (c:=[]) hD.1 hLD);have c2:=jfy (job (c:=[]) ascB hM0);rw [J1,hw] at c2;have c1:kE (jB f M0.2) (jB f L.2)<=0:=c1;rw [J1,hren M0 hM0m,hren L hLm,hw] at c1;obtain ⟨R',hR'⟩:=jnu (U:=λn=>n∈ns) (S:=λn=>n∈ns.take k) ⟨hvns,hv⟩ fS fv so sn P R (wT M0.2) hPk (hWk M0 hM0m) c2 c1;have hwM:wV (wT (jB f M0.2))=wV P++kw 88 k::(wV R').map f:=by
   rw [hren M0 hM0m,jkD,hR',YD,List.map_append];have e1:(wV P).map f=wV P:=by
    have:∀x∈wV P,f x=x:=λx hx=>fS x (hX x (List.mem_append_right _ hx));rw [List.map_congr_left this,List.map_id']
   rw [e1,wV,if_pos rfl,List.map_cons,fvk]
  rw [hnr,hEq,jee];show ∃r,(kq A++(wV (wT (jB f M0.2))++kq D)).foldl Kd []=_;rw [hwM,show kq A++((wV P++kw 88 k::(wV R').map f)++kq D)=(kq A++wV P)++kw 88 k::((wV R').map f++kq D) by simp,List.foldl_append,hXf,List.foldl_cons];have hnot:¬kw 88 k∈ns.take k:=λhm=>by
   obtain ⟨i,i1,i2,_⟩:=hSi _ hm;have h1:=jbE k (by omega) i i1;rw [i2,(zv.zero _ _).2 rfl] at h1;omega
  have hvn:Kd (ns.take k) (kw 88 k)=ns.take k++[kw 88 k]:=by
   unfold Kd;rw [if_neg (λh=>hnot (List.contains_iff_mem.1 h))]
  obtain ⟨r,hr⟩:=jgC ((wV R').map f++kq D) (Kd (ns.take k) (kw 88 k));refine ⟨r,?_⟩;rw [hr,hvn,hs,List.range_succ,List.map_append];rfl
theorem Qt {α:Type} [DecidableEq α]:∀ {l m:List α},l.Nodup->(∀x∈l,x∈m)->l.length<=m.length
 | [],_,_,_=>Nat.zero_le _
 | a::l,m,hd,hs=>by
  obtain ⟨h1,h2⟩:=List.pairwise_cons.1 hd;have ham:=hs a List.mem_cons_self;have ih:=Qt (l:=l) (m:=m.erase a) h2 λx hx=>(List.mem_erase_of_ne (λe=>h1 x hx e.symm)).2 (hs x (List.mem_cons_of_mem _ hx));rw [List.length_erase_of_mem ham] at ih;have:=List.length_pos_of_mem ham;rw [List.length_cons];omega
theorem jeF {c:jK} (h:CN c) (h10:(ji c).length<=10):(∀x∈ji (renC 88 c),∃j,j < 10/\x=kw 88 j)/\(ji (renC 88 c)).length<=10:=by
 have hr:=h.renC (p:=88) (by decide);have key:∀x∈ji (renC 88 c),∃j,j < 10/\x=kw 88 j:=by
  intro x hx;rw [Jf (renC 88 c) (λl hl=>(hr.2 l hl).1)] at hx;rcases (KE _ _ _).1 hx with hx|hx
  ·cases hx
  ·obtain ⟨l,hl,hx⟩:=List.mem_flatMap.1 hx;obtain ⟨l0,h0,rfl⟩:=List.mem_map.1 ((zS kK _).2 l |>.1 hl);have hu:∀n∈wV (wT l0.2),n∈ji c:=λn hn=>by
    rw [Jf c (λl hl=>(h.2 l hl).1),KE];exact Or.inr (List.mem_flatMap.2 ⟨l0,h0,hn⟩)
   have e:=jjm (f:=jF 88 (ji c)) (h.2 l0 h0).1 λn hn=>JX (by decide) (by omega) (zF (hu n hn));have hx:x∈wV (wT (jB (jF 88 (ji c)) l0.2)):=hx;rw [e,jkD] at hx;obtain ⟨n,hn,rfl⟩:=List.mem_map.1 hx;obtain ⟨i,hi,he⟩:=List.getElem_of_mem (hu n hn);refine ⟨i,by omega,?_⟩;rw [<-he];exact yT (kI c) hi
 refine ⟨key,?_⟩;have:=Qt (l:=ji (renC 88 c)) (m:=(List.range 10).map (kw 88)) (kI _) λx hx=>by
  obtain ⟨j,hj,e⟩:=key x hx;exact List.mem_map.2 ⟨j,List.mem_range.2 hj,e.symm⟩
 simpa using this
theorem jf0:∀(j k:Nat),j+k=10-> ∀c:jK,CN c->Asc cmpL c->(ji c).length<=10->(∀i,i < k-> ∀h:i < (ji c).length,(ji c)[i]=kw 88 i)->(k=0\/ ∀x∈ji c,∃j,j < 10/\x=kw 88 j)->zf (normF j c)=true:=by
 have full:∀(k:Nat) (c:jK),(∀i,i < k-> ∀h:i < (ji c).length,(ji c)[i]=kw 88 i)->(ji c).length<=k->zf c=true:=λk c hs hl=>by
  unfold zf;refine decide_eq_true (List.ext_getElem (by simp) λi h1 h2=> ?_);rw [hs i (by omega) h1];simp
 intro j;induction j with
 | zero=>
  intro k hk c _ _ hl hs _;rw [normF];exact full k c hs (by omega)
 | succ j ih=>
  intro k hk c hc ha hl hs hx;rw [normF];cases hn:zf c with
  | true=>rw [if_pos rfl];exact hn
  | false=>
   rw [if_neg Bool.false_ne_true];have hk2:k < (ji c).length:=Nat.lt_of_not_le λhle=>by
    rw [full k c hs hle] at hn;cases hn
   have ht:(ji c).take k=(List.range k).map (kw 88):=by
    refine List.ext_getElem (by simp;omega) λi h1 h2=> ?_
    have hik:i < k:=by simpa using h2
    rw [List.getElem_take,hs i hik (by omega)];simp
   obtain ⟨r,hr⟩:=settle hc ha hk2 hl ht hx;obtain ⟨n1,n2⟩:=jeF hc hl;refine ih (k+1) (by omega) (renC 88 c) (hc.renC (by decide)) (zS kK _).1 n2 (λi hi h=> ?_) (Or.inr n1);have:∀(l:List (List UInt8)) (e:l=(List.range (k+1)).map (kw 88)++r) (hl:i < l.length),l[i]=kw 88 i:=λl e hl=>by
    subst e;rw [List.getElem_append_left (by simpa using hi)];simp
   exact this _ hr h
theorem jfZ {c:jK} (hc:CN c) (ha:Asc cmpL c) (hl:(ji c).length<=10):zf (normC c)=true:=jf0 10 0 rfl c hc ha hl (λi hi=>absurd hi (Nat.not_lt_zero _)) (Or.inl rfl)
end Go.Proofs.YtdbgbieenhcldaaGreatDoor
