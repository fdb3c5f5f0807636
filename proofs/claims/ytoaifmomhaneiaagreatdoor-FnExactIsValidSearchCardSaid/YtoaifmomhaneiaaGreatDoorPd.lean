/- Pd -/
import Derived.Test.YtoaifmomhaneiaaGreatDoorPb
namespace Go.Proofs.YtoaifmomhaneiaaGreatDoor
open Go Go.RowKit Go.Proofs.YtoaifmomhaneiaaGreatDoor.Abs
set_option linter.unusedSimpArgs false
set_option linter.unusedVariables false
set_option maxHeartbeats 1000000
def Rx' (t:T):Prop:=yH t=true\/(t.name = [61]/\ ∀u∈t.args,yH u=true)
theorem Rx'.args {t:T} (h:Rx' t):∀u∈t.args,Rx' u:=λu hu=>Or.inl (by
 rcases h with h|h
 .exact zM h u hu
 .exact h.2 u hu)
theorem jgM (ts us:List T) (hl:ts.length<=1048576) (hlen:ts.length=us.length) (ih:∀t∈ts,∀u∈us,G 230 [tm t,tm u]=some (vi (qk t u),[])) :
  ∀i,i<=ts.length->jnV (jQ ts) (jQ us) (.fn 230 []) (jQ ts) (vi (ts.length:Nat)) (vi (i:Nat))=some (vi (yF (ts.drop i) (us.drop i)),[]):=by
 refine upto ?_ ?_
 .rw [jzl,j6,yF];simp only [jd,hlen]
 .intro i hi ih';have hlt:(i:Int) < ((ts.length:Nat):Int):=by omega
  have hi2:i < us.length:=by omega
  have hge:¬((us.length:Nat):Int)<=(i:Int):=by omega
  have h5:=jm hi (by show ts.length<=9223372036854775807;omega)
  have e1:=ih ts[i] (jo _) us[i] (jo _);rw [jzl,jh hi,jh hi2,yF];by_cases hc:qk ts[i] us[i]=0
  .rw [jq (λh=>h hc)];rw [hc] at e1;simp only [jd,hlt,ja hi,ja hi2,jf,hge,qD (f:=230) rfl,JD,e1,h5,ih']
  .rw [jp hc];generalize qk ts[i] us[i]=c at *;simp only [jd,hlt,ja hi,ja hi2,jf,hge,qD (f:=230) rfl,JD,e1,hc]
theorem jib:∀a:T,Rx' a->Tz a-> ∀b:T,Rx' b->Tz b->G 230 [tm a,tm b]=some (vi (qk a b),[]):=by
 refine T.ind λa ih ha za b hb zb=> ?_;have va:=yM a (ha.imp id λh=>h.1);have vb':=yM b (hb.imp id λh=>h.1);have hz:=za;unfold Tz at hz;rw [kQ] at hz;have e1:=jcV a.name b.name;have e2:=jhH a.args.length b.args.length;have e3:=jz0 (zE a.name b.name) (zF a.args.length b.args.length);have e4:a.args.length=b.args.length->G 274 [jQ a.args,jQ b.args,.fn 230 []]=some (vi (yF a.args b.args),[]):=λhlen=>by
  have key:=jgM a.args b.args (by omega) hlen (λt ht u hu=>ih t ht (ha.args t ht) (za.args t ht) u (hb.args u hu) (zb.args u hu)) 0 (jD _);simp only [jP,kg] at key;rw [jMi];simp only [jd,key]
 rw [jLN,QA];unfold cK qB vF;cases h1:ju a.name<;>cases h2:ju b.name<;>rw [h1] at va<;>rw [h2] at vb'
 .show _=some (vi (if (if zF 1 1≠0 then zF 1 1 else if zE a.name b.name≠0 then zE a.name b.name else zF a.args.length b.args.length)≠0 then (if zF 1 1≠0 then zF 1 1 else if zE a.name b.name≠0 then zE a.name b.name else zF a.args.length b.args.length) else yF a.args b.args),[]);rw [jq (show ¬zF 1 1≠0 by decide)];by_cases hz0:(if zE a.name b.name≠0 then zE a.name b.name else zF a.args.length b.args.length)=0
  .have hlen:a.args.length=b.args.length:=by
    split at hz0
    .rename_i h;exact absurd hz0 h
    .exact (jcT.zero _ _).1 hz0
   rw [jq (λh=>h hz0)];rw [hz0] at e3;simp only [jd,va,vb',e1,e2,e3,e4 hlen]
  .rw [jp hz0];generalize (if zE a.name b.name≠0 then zE a.name b.name else zF a.args.length b.args.length)=c at *;simp only [jd,va,vb',e1,e2,e3,hz0]
 .have:(if (if zF 1 0≠0 then zF 1 0 else if zE a.name b.name≠0 then zE a.name b.name else zF a.args.length b.args.length)≠0 then (if zF 1 0≠0 then zF 1 0 else if zE a.name b.name≠0 then zE a.name b.name else zF a.args.length b.args.length) else yF a.args b.args)=1:=by
   rw [jp (show zF 1 0≠0 by decide),jp (show zF 1 0≠0 by decide)];rfl
  show _=some (vi (if (if zF 1 0≠0 then zF 1 0 else if zE a.name b.name≠0 then zE a.name b.name else zF a.args.length b.args.length)≠0 then (if zF 1 0≠0 then zF 1 0 else if zE a.name b.name≠0 then zE a.name b.name else zF a.args.length b.args.length) else yF a.args b.args),[]);rw [this];simp only [jd,va,vb']
 .have:(if (if zF 0 1≠0 then zF 0 1 else if zE a.name b.name≠0 then zE a.name b.name else zF a.args.length b.args.length)≠0 then (if zF 0 1≠0 then zF 0 1 else if zE a.name b.name≠0 then zE a.name b.name else zF a.args.length b.args.length) else yF a.args b.args) = -1:=by
   rw [jp (show zF 0 1≠0 by decide),jp (show zF 0 1≠0 by decide)];rfl
  show _=some (vi (if (if zF 0 1≠0 then zF 0 1 else if zE a.name b.name≠0 then zE a.name b.name else zF a.args.length b.args.length)≠0 then (if zF 0 1≠0 then zF 0 1 else if zE a.name b.name≠0 then zE a.name b.name else zF a.args.length b.args.length) else yF a.args b.args),[]);rw [this];simp only [jd,va,vb']
 .show _=some (vi (if (if zF 0 0≠0 then zF 0 0 else if zE a.name b.name≠0 then zE a.name b.name else zF a.args.length b.args.length)≠0 then (if zF 0 0≠0 then zF 0 0 else if zE a.name b.name≠0 then zE a.name b.name else zF a.args.length b.args.length) else yF a.args b.args),[]);rw [jq (show ¬zF 0 0≠0 by decide)];by_cases hz0:(if zE a.name b.name≠0 then zE a.name b.name else zF a.args.length b.args.length)=0
  .have hlen:a.args.length=b.args.length:=by
    split at hz0
    .rename_i h;exact absurd hz0 h
    .exact (jcT.zero _ _).1 hz0
   rw [jq (λh=>h hz0)];rw [hz0] at e3;simp only [jd,va,vb',e1,e2,e3,e4 hlen]
  .rw [jp hz0];generalize (if zE a.name b.name≠0 then zE a.name b.name else zF a.args.length b.args.length)=c at *;simp only [jd,va,vb',e1,e2,e3,hz0]
theorem jvS (x y:List UInt8):G 214 [sv x,sv y]=some (vi (zE x y),[]):=by
 rw [jLz,jbx];cases h1:yT x y<;>cases h2:yT y x<;>simp only [jd,jg1,h1,h2]
theorem jjM (n m:List UInt8) (ts us:List T) (hl:ts.length<=1048576) (hlen:ts.length=us.length) (ih:∀t∈ts,∀u∈us,G 169 [tm t,tm u]=some (vi (qk t u),[])) :
  ∀i,i<=ts.length->jiT (vi (i:Nat)) (sv n) (jQ ts) (sv m) (jQ us)=some (vi (yF (ts.drop i) (us.drop i)),[]):=by
 refine upto ?_ ?_
 .rw [jyt,j6,yF];simp only [jd]
 .intro i hi ih';have hlt:(i:Int) < ((ts.length:Nat):Int):=by omega
  have hi2:i < us.length:=by omega
  have h5:=jm hi (by show ts.length<=9223372036854775807;omega)
  have e1:=ih ts[i] (jo _) us[i] (jo _);rw [jyt,jh hi,jh hi2,yF];by_cases hc:qk ts[i] us[i]=0
  .rw [jq (λh=>h hc)];rw [hc] at e1;simp only [jd,hlt,ja hi,ja hi2,jf,e1,h5,ih']
  .rw [jp hc];generalize qk ts[i] us[i]=c at *;simp only [jd,hlt,ja hi,ja hi2,jf,e1,hc]
theorem jsS (a b:T):qk a b=if ju a.name=true/\ju b.name=false then -1 else if ju a.name=false/\ju b.name=true then 1 else if ¬a.name=b.name then zE a.name b.name else if a.args.length < b.args.length then -1 else if b.args.length < a.args.length then 1 else yF a.args b.args:=by
 rw [QA];unfold cK qB vF;have hn:=ZD.zero a.name b.name;have hzr:zF 1 1=0/\zF 0 0=0/\zF 0 1 = -1/\zF 1 0=1:=by decide
 obtain ⟨z1,z2,z3,z4⟩:=hzr;have hz:zF a.args.length b.args.length=if a.args.length < b.args.length then -1 else if b.args.length < a.args.length then 1 else 0:=rfl;cases h1:ju a.name<;>cases h2:ju b.name<;>simp only [K5,Jk,KU,z1,z2,z3,z4,hz]
 all_goals have hs:=(ZD.zero b.name b.name).2 rfl
 all_goals by_cases e:a.name=b.name
 all_goals by_cases l1:a.args.length < b.args.length
 all_goals by_cases l2:b.args.length < a.args.length
 all_goals first
  | (simp [e,hs,l1,l2];done)
  | (have ne:¬zE a.name b.name=0:=λh=>e (hn.1 h);simp only [ne_eq,e,ne,not_false_eq_true,not_true_eq_false,Jk,KU,and_true,true_and,and_false,false_and,reduceCtorEq];done)
  | simp [l1,l2]
theorem joA:∀a:T,Tz a-> ∀b:T,Tz b->G 169 [tm a,tm b]=some (vi (qk a b),[]):=by
 refine T.ind λa ih za b zb=> ?_;have va:=zy a.name (((kJ a).1 za.wf).1);have vb':=zy b.name (((kJ b).1 zb.wf).1);have hz:=za;unfold Tz at hz;rw [kQ] at hz;have e1:=jvS a.name b.name;have e4:a.args.length=b.args.length->jiT (vi 0) (sv a.name) (jQ a.args) (sv b.name) (jQ b.args)=some (vi (yF a.args b.args),[]):=λhlen=>by
  have key:=jjM a.name b.name a.args b.args (by omega) hlen (λt ht u hu=>ih t ht (za.args t ht) u (zb.args u hu)) 0 (jD _);simp only [jP,kg] at key;exact key
 rw [jK0,jsS];have main:∀p:Bool,G 177 [sv a.name]=some (vb p,[])->G 177 [sv b.name]=some (vb p,[])->_:=λp _ _=>trivial;clear main;cases h1:ju a.name<;>cases h2:ju b.name<;>rw [h1] at va<;>rw [h2] at vb'
 all_goals by_cases en:a.name=b.name
 all_goals try (exfalso;rw [en,h2] at h1;cases h1;done)
 all_goals by_cases l1:a.args.length < b.args.length
 all_goals by_cases l2:b.args.length < a.args.length
 all_goals have l1':(((a.args.length:Nat):Int) < ((b.args.length:Nat):Int))=(a.args.length < b.args.length):=propext (by omega)
 all_goals have l2':(((b.args.length:Nat):Int) < ((a.args.length:Nat):Int))=(b.args.length < a.args.length):=propext (by omega)
 all_goals first
  | (have e4:=e4 (by omega);rw [en] at e4;simp only [jd,va,vb',e1,en,l1,l2,l1',l2',e4,and_true,true_and,and_false,false_and];done)
  | (simp only [jd,va,vb',e1,en,l1,l2,l1',l2',and_true,true_and,and_false,false_and];done)
  | (simp only [jd,va,vb',e1,en,l1,l2,l1',l2',and_true,true_and,and_false,false_and])
abbrev j8 (l:Lt):List A:=[vb l.1,sv l.2.name,.sl 2 (l.2.args.map jw)]
abbrev ltm (l:Lt):A:= .agg [vb l.1,sv l.2.name,.sl 2 (l.2.args.map jw)]
theorem juF (b:Bool):G 232 [vb b]=some (vi (fl b:Nat),[]):=by
 rw [jLP];cases b<;>simp only [jd]<;>rfl
theorem YP (a b:Lt) (ha:Rx' a.2) (za:Tz a.2) (hb:Rx' b.2) (zb:Tz b.2):G 185 [ltm a,ltm b]=some (vi (cmpL a b),[]):=by
 have e1:=jib a.2 ha za b.2 hb zb;have e2:=juF a.1;have e3:=juF b.1;have e4:=jhH (fl a.1) (fl b.1);have e5:=jz0 (qk a.2 b.2) (zF (fl a.1) (fl b.1));have e6:cmpL a b=if qk a.2 b.2≠0 then qk a.2 b.2 else zF (fl a.1) (fl b.1):=rfl;rw [jLc,e6];generalize (if qk a.2 b.2≠0 then qk a.2 b.2 else zF (fl a.1) (fl b.1))=c at *;generalize zF (fl a.1) (fl b.1)=d at *;generalize qk a.2 b.2=f at *;simp only [jd,e1,e2,e3,e4,e5]
theorem jem (a b:Lt) (za:Tz a.2) (zb:Tz b.2):G 138 [ltm a,ltm b]=some (vi (cmpL a b),[]):=by
 have e1:=joA a.2 za b.2 zb;have e6:cmpL a b=if qk a.2 b.2≠0 then qk a.2 b.2 else zF (fl a.1) (fl b.1):=rfl;rw [jKD,e6];by_cases h:qk a.2 b.2=0
 .rw [jq (λh'=>h' h)];rw [h] at e1;obtain ⟨p,t⟩:=a;obtain ⟨q,u⟩:=b;have d1:zF (fl false) (fl true) = -1:=by decide
  have d2:zF (fl true) (fl false)=1:=by decide
  have d3:zF (fl true) (fl true)=0:=by decide
  have d4:zF (fl false) (fl false)=0:=by decide
  cases p<;>cases q<;>simp only [jd,e1,d1,d2,d3,d4]
 .rw [jp h];generalize qk a.2 b.2=c at *;simp only [jd,e1,h]
def JP (t:T):Bool:=if t.name = [61] then jcZ t else qN t.name && kZ t
theorem jl9 (t:T) (hw:JO t) (hs:tsz t<=1048576):G 137 [tm t]=some (vb (JP t),[]):=by
 unfold JP;by_cases he:t.name = [61]
 .rw [jp he];exact jeJ t hw hs he
 .have e1:=QG t.name ((kJ t).1 hw).1;have e2:=Zd t hw hs;rw [jq he,jEm];cases h:qN t.name<;>rw [h] at e1
  .simp only [jd,he,e1,jH]
  .simp only [jd,he,e1,e2,jJ]
theorem jjG (t:T) (hw:JO t) (hs:tsz t<=1048576):G 228 [tm t]=some (vb (JP t),[]):=by
 unfold JP;by_cases he:t.name = [61]
 .rw [jp he];exact jca t hw hs he
 .have e0:=qv t;rw [kA he] at e0;have e1:=jc6 t.name ((kJ t).1 hw).1;have e2:=jc7 t hw hs;rw [jq he,jFN];cases h:qN t.name<;>rw [h] at e1
  .simp only [jd,e0,e1,jH]
  .simp only [jd,e0,e1,e2,jJ]
abbrev cm (c:zg):A:= .agg [.sl 3 (c.map j8)]
def qx (c:zg):Bool:=c.all (λl=>JP l.2) && (jpO c && decide (c.length<=8))
theorem jus {t:T} (h:JP t=true):Rx' t:=by
 unfold JP at h;by_cases he:t.name = [61]
 .rw [jp he] at h;unfold jcZ at h;rw [jy,kK,jy,jy] at h;refine Or.inr ⟨he,λu hu=> ?_⟩;obtain ⟨n,us⟩:=t
  match us,h.1 with
  | [a,b],_=>
   have hu:u ∈ [a,b]:=hu;simp only [kW,jcv,jdF] at hu;rcases hu with rfl|rfl
   .exact h.2.2.1
   .exact h.2.2.2
 .rw [jq he,jy] at h;have h2:=h.2;unfold kZ at h2;rw [jy] at h2;exact Or.inl h2.2
theorem jfI (l:Lt) (hz:Tz l.2):G 184 [ltm l]=some (vb (JP l.2),[]):=by
 have e:=jjG l.2 hz.wf hz;rw [jLb];simp only [jd,e]
def jcu:Option Lt->zg->Bool
 | _,[]=>true
 | none,l::r=>JP l.2 && jcu (some l) r
 | some p,l::r=>JP l.2 && (decide (cmpL p l < 0) && jcu (some l) r)
theorem jmY:∀(p:Lt) (c:zg),jcu (some p) c=(c.all (λl=>JP l.2) && jpO (p::c))
 | p,[]=>rfl
 | p,l::r=>by
  rw [jcu,jmY l r,zB,jpO];cases JP l.2<;>cases decide (cmpL p l < 0)<;>simp
theorem jmX (c:zg):(jcu none c && decide (c.length<=8))=qx c:=by
 unfold qx;cases c with
 | nil=>rfl
 | cons l r=>rw [jcu,jmY,zB];cases JP l.2<;>simp [jk4]
theorem ze (l:Lt):ky 3 (.elt (j8 l) 0)=some (ltm l):=rfl
theorem jsj (c:zg) (hl:c.length<=1048576) (hz:∀l∈c,Tz l.2):∀i,i<=c.length-> ∀p:Option Lt,(p=none↔i=0)->(∀q,p=some q->JP q.2=true/\ ∃h:i - 1 < c.length,c[i - 1]=q)->
  jni (.sl 3 (c.map j8)) (vi (c.length:Nat)) (vi (i:Nat)) (.sl 3 (c.map j8))=some (vb (jcu p (c.drop i) && decide (c.length<=8)),[]):=by
 refine upto ?_ ?_
 .intro p _ _;have e:decide (((c.length:Nat):Int)<=8)=decide (c.length<=8):=by congr 1;exact propext (by omega)
  rw [jyp,j6,<-e];have:jcu p []=true:=by cases p<;>rfl
  rw [this];simp only [jd,jJ]
 .intro i hi ih p hp hq;have hlt:(i:Int) < ((c.length:Nat):Int):=by omega
  have h5:=jm hi (by show c.length<=9223372036854775807;omega)
  have e1:=jfI c[i] (hz _ (jo hi));have ix:=ja (k:=3) (f:=j8) hi;have e1:G 184 [.agg [vb c[i].1,sv c[i].2.name,jQ c[i].2.args]]=some (vb (JP c[i].2),[]):=e1;rw [jyp,jh hi];cases ha:JP c[i].2 with
  | false=>
   rw [ha] at e1;have:jcu p (c[i]::c.drop (i+1))=false:=by cases p<;>rw [jcu,ha]<;>rfl
   rw [this];simp only [jd,hlt,ix,ze,e1,jH]
  | true=>
   rw [ha] at e1;have ih1:=ih (some c[i]) (by simp) (λq hq=>by cases hq;exact ⟨ha,by simpa using hi,rfl⟩);cases p with
   | none=>
    have h0:i=0:=hp.1 rfl;have hg:¬(0:Int) < (i:Int):=by omega
    rw [jcu,ha,jJ,<-ih1];simp only [jd,hlt,ix,ze,e1,hg,h5]
   | some q=>
    obtain ⟨hqa,hq1,hq2⟩:=hq q rfl;have hi0:¬i=0:=λh=>by have:=hp.2 h;cases this
    have hg:(0:Int) < (i:Int):=by omega
    have c1:ck ((i:Int) - 1)=some (vi ((i - 1:Nat):Int)):=by rw [show (i:Int) - 1=((i - 1:Nat):Int) by omega,jZ (by omega) (by omega)]
    have ix2:=ja (k:=3) (f:=j8) hq1;rw [hq2] at ix2;have hqz:Tz q.2:=by rw [<-hq2];exact hz _ (jo hq1)
    have e2:=YP q c[i] (jus hqa) hqz (jus ha) (hz _ (jo hi));have e2:G 185 [.agg [vb q.1,sv q.2.name,jQ q.2.args],.agg [vb c[i].1,sv c[i].2.name,jQ c[i].2.args]]=some (vi (cmpL q c[i]),[]):=e2;rw [jcu,ha,jJ];by_cases hc:cmpL q c[i] < 0
    .have hc':¬(0:Int)<=cmpL q c[i]:=by omega
     rw [jW hc,jJ,<-ih1];generalize cmpL q c[i]=d at *;simp only [jd,hlt,ix,ze,e1,hg,c1,ix2,e2,hc',h5]
    .have hc':(0:Int)<=cmpL q c[i]:=by omega
     rw [kA hc];generalize cmpL q c[i]=d at *;simp only [jd,hlt,ix,ze,e1,hg,c1,ix2,e2,hc',jH]
theorem jaO (c:zg) (hl:c.length<=1048576) (hz:∀l∈c,Tz l.2):G 148 [cm c]=some (vb (qx c),[]):=by
 have key:=jsj c hl hz 0 (jD _) none (by simp) (λq h=>by cases h);rw [kg,jmX] at key;simp only [jP] at key;rw [jKL];simp only [jd,key]
theorem jsk (c:zg) (hl:c.length<=1048576) (hz:∀l∈c,Tz l.2):∀i,i<=c.length-> ∀p:Option Lt,(p=none↔i=0)->(∀q,p=some q-> ∃h:i - 1 < c.length,c[i - 1]=q)->
  juo (vi (i:Nat)) (.sl 3 (c.map j8))=some (vb (jcu p (c.drop i)),[]):=by
 refine upto ?_ ?_
 .intro p _ _;rw [jDd,j6];have:jcu p []=true:=by cases p<;>rfl
  rw [this];simp only [jd]
 .intro i hi ih p hp hq;have hlt:(i:Int) < ((c.length:Nat):Int):=by omega
  have h5:=jm hi (by show c.length<=9223372036854775807;omega)
  have e1:=jl9 c[i].2 (hz _ (jo hi)).wf (hz _ (jo hi));have ix:=ja (k:=3) (f:=j8) hi;have ad:yI (.elt (j8 c[i]) 0) 1=some (.elt (j8 c[i]) 1):=rfl;have ld:ky 2 (.elt (j8 c[i]) 1)=some (tm c[i].2):=rfl;rw [jDd,jh hi];cases ha:JP c[i].2 with
  | false=>
   rw [ha] at e1;have:jcu p (c[i]::c.drop (i+1))=false:=by cases p<;>rw [jcu,ha]<;>rfl
   rw [this];simp only [jd,hlt,ix,ad,ld,e1]
  | true=>
   rw [ha] at e1;have ih1:=ih (some c[i]) (by simp) (λq hq=>by cases hq;exact ⟨by simpa using hi,rfl⟩);cases p with
   | none=>
    have h0:i=0:=hp.1 rfl;have hg:¬(0:Int) < (i:Int):=by omega
    rw [jcu,ha,jJ,<-ih1];simp only [jd,hlt,ix,ad,ld,e1,hg,h5]
   | some q=>
    obtain ⟨hq1,hq2⟩:=hq q rfl;have hi0:¬i=0:=λh=>by have:=hp.2 h;cases this
    have hg:(0:Int) < (i:Int):=by omega
    have c1:ck ((i:Int) - 1)=some (vi ((i - 1:Nat):Int)):=by rw [show (i:Int) - 1=((i - 1:Nat):Int) by omega,jZ (by omega) (by omega)]
    have ix2:=ja (k:=3) (f:=j8) hq1;rw [hq2] at ix2;have hqz:Tz q.2:=by rw [<-hq2];exact hz _ (jo hq1)
    have e2:=jem q c[i] hqz (hz _ (jo hi));rw [jcu,ha,jJ];by_cases hc:cmpL q c[i] < 0
    .have hc':¬(0:Int)<=cmpL q c[i]:=by omega
     rw [jW hc,jJ,<-ih1];generalize cmpL q c[i]=d at *;simp only [jd,hlt,ix,ad,ld,ze,e1,hg,c1,ix2,e2,hc',h5]
    .have hc':(0:Int)<=cmpL q c[i]:=by omega
     rw [kA hc];generalize cmpL q c[i]=d at *;simp only [jd,hlt,ix,ad,ld,ze,e1,hg,c1,ix2,e2,hc',jH]
theorem jdS (c:zg) (hl:c.length<=1048576) (hz:∀l∈c,Tz l.2):G 98 [cm c]=some (vb (qx c),[]):=by
 have key:=jsk c hl hz 0 (jD _) none (by simp) (λq h=>by cases h);rw [kg] at key;simp only [jP] at key;rw [g98,<-jmX];by_cases h8:c.length<=8
 .have h8':¬(8:Int) < ((c.length:Nat):Int):=by omega
  rw [jW h8,ja8];simp only [jd,h8',key]
 .have h8':(8:Int) < ((c.length:Nat):Int):=by omega
  rw [kA h8,yb];simp only [jd,h8']
theorem jE6 (l:List (List UInt8)) (n:List UInt8):(vnA l n).length<=l.length+1:=by
 unfold vnA;split
 .omega
 .simp
theorem jDi {n:Nat} (h:n<=4194304):jK n 16=true:=by
 unfold jK;exact jW ⟨by omega,by omega⟩
theorem jfR:∀(t:T) (l:List (List UInt8)),(Z3 l t).length<=l.length+nodes t:=by
 refine T.ind λt ih l=> ?_;have hn:=jS t;rw [joW];split
 .have:=jE6 l t.name;omega
 .have key:∀us:List T,(∀u∈us,u∈t.args)-> ∀l:List (List UInt8),(jdg l us).length<=l.length+js us:=by
   intro us;induction us with
   | nil=>intro _ l;simp [jdg,js]
   | cons u us ih2=>
    intro hu l;have h1:=ih u (hu u (by simp)) l;have h2:=ih2 (λv hv=>hu v (by simp [hv])) (Z3 l u);rw [jdg,js];omega
  have:=key t.args (λ_ h=>h) l;omega
theorem jtp:∀t:T,Tz t-> ∀l:List (List UInt8),l.length+nodes t<=4000000->jiK (tm t) (l.map cs)=some (.top,[.sl 1 ((Z3 l t).map cs)]):=by
 refine T.ind λt ih ht l hl=> ?_;have hz:=ht;unfold Tz at hz;rw [kQ] at hz;have hn:=jS t;have e0:=zy t.name (((kJ t).1 ht.wf).1);have e1:=joD l t.name (by show l.length<=9223372036854775807;omega);have key:=upto (P:=λi=>∀l:List (List UInt8),l.length+js (t.args.drop i)<=4000000->jcD (vi (i:Nat)) (sv t.name) (jQ t.args) (l.map cs)=some (.top,[.sl 1 ((jdg l (t.args.drop i)).map cs)])) (n:=t.args.length) ?_ ?_ 0 (jD _);rotate_left
 .intro l _;rw [jjK,j6];simp only [jd];rfl
 .intro i hi ihi l hl;have hlt:(i:Int) < ((t.args.length:Nat):Int):=by omega
  have h5:=jm hi (by show t.args.length<=9223372036854775807;omega)
  rw [jh hi,js] at hl;have q:=ih t.args[i] (jo hi) (ht.args _ (jo hi)) l (by omega);have hln:=jfR t.args[i] l;have q2:=ihi (Z3 l t.args[i]) (by omega);rw [jjK,jh hi,jdg];generalize Z3 l t.args[i]=l' at *;have hr:hR 1 (A.top,[.sl 1 (l'.map cs)]) 0=some (l'.map cs):=rfl;simp only [jd,hlt,ja hi,jf,q,hr,h5,q2]
 have e2:je8 (vi 0) (sv t.name) (jQ t.args) (l.map cs)=some (.top,[.sl 1 ((jdg l t.args).map cs)]):=by
  have key:=key l (by rw [kg];omega)
  rw [kg] at key;have:je8 (vi 0) (sv t.name) (jQ t.args) (l.map cs)=jcD (vi 0) (sv t.name) (jQ t.args) (l.map cs):=by rw [jyu,jjK]
  rw [this];exact key
 rw [jDM,joW];cases hv:ju t.name<;>rw [hv] at e0
 .rw [jq kx];simp only [jd,e0,e2]
 .rw [jp rfl];unfold vnA;cases hc:l.contains t.name<;>rw [hc] at e1
  .have f:jK (l.length+1) 16=true:=jDi (by omega);rw [jq kx,zV];simp only [jd,e0,e1,f];rfl
  .rw [jp rfl];simp only [jd,e0,e1]
theorem jjS (c:zg) (hl:c.length<=1000) (hz:∀l∈c,Tz l.2) (hs:∀l∈c,nodes l.2<=1000):G 139 [cm c]=some (.sl 1 ((zi c).map cs),[]):=by
 have key:=upto (P:=λi=>∀l:List (List UInt8),l.length<=1000 * i->jiQ (vi (i:Nat)) (.sl 3 (c.map j8)) (l.map cs)=some (.sl 1 (((c.drop i).foldl (λl x=>Z3 l x.2) l).map cs),[])) (n:=c.length) ?_ ?_ 0 (jD _)
 .have key:=key [] (by simp);rw [kg] at key;have key:jiQ (vi 0) (.sl 3 (c.map j8)) []=some (.sl 1 ((zi c).map cs),[]):=key;rw [jKE];simp only [jd,key]
 .intro l _;rw [jyn,j6];simp only [jd];rfl
 .intro i hi ih l hll;have hlt:(i:Int) < ((c.length:Nat):Int):=by omega
  have h5:=jm hi (by show c.length<=9223372036854775807;omega)
  have ix:=ja (k:=3) (f:=j8) hi;have ad:yI (.elt (j8 c[i]) 0) 1=some (.elt (j8 c[i]) 1):=rfl;have ld:ky 2 (.elt (j8 c[i]) 1)=some (tm c[i].2):=rfl;have hn:=hs _ (jo hi);have q:=jtp c[i].2 (hz _ (jo hi)) l (by omega);have hol:=jfR c[i].2 l;have q2:=ih (Z3 l c[i].2) (by omega);rw [jyn,jh hi,K6];generalize Z3 l c[i].2=l' at *;have hr:hR 1 (A.top,[.sl 1 (l'.map cs)]) 0=some (l'.map cs):=rfl;simp only [jd,hlt,ix,ad,ld,q,hr,h5,q2]
theorem jpY:∀t:T,Rx' t->Tz t-> ∀l:List (List UInt8),l.length+nodes t<=4000000->jbc (sv t.name) (jQ t.args) (l.map cs)=some (.top,[.sl 1 ((Z3 l t).map cs)]):=by
 refine T.ind λt ih hk ht l hl=> ?_;have hz:=ht;unfold Tz at hz;rw [kQ] at hz;have hn:=jS t;have e0:=yM t (hk.imp id λh=>h.1);have e1:=Zv l t.name (by show l.length<=9223372036854775807;omega);have key:=upto (P:=λi=>∀l:List (List UInt8),l.length+js (t.args.drop i)<=4000000->jaE (jQ t.args) (vi (t.args.length:Nat)) (vi (i:Nat)) (l.map cs)=some (.top,[.sl 1 ((jdg l (t.args.drop i)).map cs)])) (n:=t.args.length) ?_ ?_ 0 (jD _);rotate_left
 .intro l _;rw [jda,j6];simp only [jd];rfl
 .intro i hi ihi l hl;have hlt:(i:Int) < ((t.args.length:Nat):Int):=by omega
  have h5:=jm hi (by show t.args.length<=9223372036854775807;omega)
  rw [jh hi,js] at hl;have q:=ih t.args[i] (jo hi) (hk.args _ (jo hi)) (ht.args _ (jo hi)) l (by omega);have hln:=jfR t.args[i] l;have q2:=ihi (Z3 l t.args[i]) (by omega);rw [jda,jh hi,jdg];generalize Z3 l t.args[i]=l' at *;have hr:hR 1 (A.top,[.sl 1 (l'.map cs)]) 0=some (l'.map cs):=rfl;simp only [jd,hlt,ja hi,jf,q,hr,h5,q2]
 have e2:jcH (jQ t.args) (vi (t.args.length:Nat)) (vi 0) (l.map cs)=some (.top,[.sl 1 ((jdg l t.args).map cs)]):=by
  have key:=key l (by rw [kg];omega)
  rw [kg] at key;have:∀n:A,jcH (jQ t.args) n (vi 0) (l.map cs)=jaE (jQ t.args) n (vi 0) (l.map cs):=λn=>by rw [jqJ,jda]
  rw [this];exact key
 rw [jxt,joW];cases hv:ju t.name<;>rw [hv] at e0
 .rw [jq kx];by_cases hl0:((t.args.length:Nat):Int)=0
  .simp only [jd,hl0,e0];rw [hl0] at e2;exact e2
  .simp only [jd,hl0,e2]
 .have ha:t.args = []:=by
   rcases hk with h|h
   .exact JC h hv
   .rw [h.1] at hv;exact absurd hv (by decide)
  have hl0:((t.args.length:Nat):Int)=0:=by rw [ha];rfl
  rw [jp rfl];unfold vnA;cases hc:l.contains t.name<;>rw [hc] at e1
  .have f:jK (l.length+1) 16=true:=jDi (by omega);rw [jq kx,zV];simp only [jd,hl0,e0,e1,f];rfl
  .rw [jp rfl];simp only [jd,hl0,e0,e1]
theorem jj4 (c:zg) (hl:c.length<=1000) (hk:∀l∈c,Rx' l.2) (hz:∀l∈c,Tz l.2) (hs:∀l∈c,nodes l.2<=1000):G 186 [cm c]=some (.sl 1 ((zi c).map cs),[]):=by
 have key:=upto (P:=λi=>∀l:List (List UInt8),l.length<=1000 * i->jiX (.sl 3 (c.map j8)) (vi (c.length:Nat)) (vi (i:Nat)) (l.map cs)=some (.sl 1 (((c.drop i).foldl (λl x=>Z3 l x.2) l).map cs),[])) (n:=c.length) ?_ ?_ 0 (jD _)
 .have key:=key [] (by simp);rw [kg] at key;have key:jiX (.sl 3 (c.map j8)) (vi (c.length:Nat)) (vi 0) []=some (.sl 1 ((zi c).map cs),[]):=key;rw [jLd];simp only [jd,key]
 .intro l _;rw [jyF,j6];simp only [jd];rfl
 .intro i hi ih l hll;have hlt:(i:Int) < ((c.length:Nat):Int):=by omega
  have h5:=jm hi (by show c.length<=9223372036854775807;omega)
  have ix:=ja (k:=3) (f:=j8) hi;have hn:=hs _ (jo hi);have q:=jpY c[i].2 (hk _ (jo hi)) (hz _ (jo hi)) l (by omega);have hol:=jfR c[i].2 l;have q2:=ih (Z3 l c[i].2) (by omega);rw [jyF,jh hi,K6];generalize Z3 l c[i].2=l' at *;have hr:hR 1 (A.top,[.sl 1 (l'.map cs)]) 0=some (l'.map cs):=rfl;simp only [jd,hlt,ix,ze,q,hr,h5,q2]
abbrev JR:=List (T × T)
def jpQ:jz->Bool
 | []=>true
 | [_]=>true
 | p::q::s=>yT p.1 q.1 && jpQ (q::s)
noncomputable def jI (s:jz):Bool:=decide (s.length<=12) && (jpQ s && s.all λq=>ju q.1 && (kZ q.2 && !dq q.2.name q.1))
def zC (s u:jz):jz:=JU (s.map (λq=>(q.1,sub u q.2))++u.filter λq=>(look s q.1).isNone)
def jx (x y:T):List UInt8 × T:=if ju x.name=false\/(ju y.name=true/\yT x.name y.name=true) then (y.name,x) else (x.name,y)
noncomputable def y7 (s:jz) (l r:T) (rest:JR):Option (jz × JR):=
 if jG (sub s l)=false\/jG (sub s r)=false then none
 else if dq (sub s l) (sub s r) then some (s,rest)
 else if ju (sub s l).name=true\/ju (sub s r).name=true then
  (if (jx (sub s l) (sub s r)).1∈kT (jx (sub s l) (sub s r)).2\/jI [jx (sub s l) (sub s r)]=false\/jI (zC s [jx (sub s l) (sub s r)])=false then none else some (zC s [jx (sub s l) (sub s r)],rest))
 else if (sub s l).name=(sub s r).name/\(sub s l).args.length=(sub s r).args.length then some (s,(sub s l).args.zip (sub s r).args++rest) else none
noncomputable def zZ:Nat->jz->JR->Option (Option jz)
 | _,s,[]=>some (some s)
 | 0,_,_::_=>none
 | k+1,s,p::rest=>(match y7 s p.1 p.2 rest with|none=>some none|some q=>zZ k q.1 q.2)
def Exx (t:T):Prop:=(yH t=true\/(t.name = [61]/\t.args.length=2/\ ∀u∈t.args,yH u=true))/\nodes t<=31
def IdS (s:jz):Prop:=∀q∈s,∀x∈kT q.2,look s x=none
def ZY (s:jz) (es:JR):Prop:=jI s=true/\IdS s/\ ∀p∈es,Exx p.1/\Exx p.2
theorem j7 {s:jz} (h:jI s=true):s.length<=12/\jpQ s=true/\ ∀q∈s,ju q.1=true/\kZ q.2=true/\q.2.name≠q.1:=by
 unfold jI at h;rw [jy,kK,jy,z7] at h;refine ⟨h.1,h.2.1,λq hq=> ?_⟩;have:=h.2.2 q hq;rw [jy,jy,JF] at this;exact ⟨this.1,this.2.1,λe=>by rw [e,jdO] at this;exact absurd this.2.2 (by decide)⟩
theorem jd4 {t:T} (h:kZ t=true):yH t=true:=by
 unfold kZ at h;rw [jy] at h;exact h.2
theorem vsv {t:T} (h:ju t.name=true):kT t = [t.name]:=by rw [Qg,h,jp rfl]
theorem vsf {t:T} (h:ju t.name=false):kT t=yv t.args:=by rw [Qg,h,jq kx]
theorem qy {x:List UInt8} :∀ {ts:List T},x∈yv ts↔ ∃t∈ts,x∈kT t
 | []=>by simp [yv]
 | t::ts=>by rw [yv,kM,qy];simp
theorem jkY {s:jz} (hs:IdS s):∀(w:T) {x:List UInt8},x∈kT (sub s w)->look s x=none:=by
 refine T.ind (p:=λw=>∀ {x:List UInt8},x∈kT (sub s w)->look s x=none) λw ih=> ?_;intro x hx;cases hv:ju w.name with
 | true=>
  rw [KP hv,jct] at hx;cases hl:look s w.name with
  | some r=>rw [hl] at hx;exact hs _ (J8 hl) x hx
  | none=>
   rw [hl] at hx;have hx:x∈kT (.mk w.name []):=hx;rw [vsv (t:= .mk w.name []) hv,kG] at hx;rw [hx];exact hl
 | false=>
  rw [JN hv,vsf (t:= .mk w.name (w.args.map (sub s))) hv,qy] at hx;obtain ⟨t,ht,hx⟩:=hx;obtain ⟨a,ha,rfl⟩:=yP.1 ht;exact ih a ha hx
theorem jm0 {n:List UInt8} {t:T} :∀(w:T) {x:List UInt8},x∈kT (sub [(n,t)] w)->(x∈kT w/\x≠n)\/x∈kT t:=by
 refine T.ind (p:=λw=>∀ {x:List UInt8},x∈kT (sub [(n,t)] w)->(x∈kT w/\x≠n)\/x∈kT t) λw ih=> ?_;intro x hx;cases hv:ju w.name with
 | true=>
  rw [KP hv,jct] at hx;by_cases hn:n=w.name
  .have:look [(n,t)] w.name=some t:=by rw [look,jp hn]
   rw [this] at hx;exact Or.inr hx
  .have:look [(n,t)] w.name=none:=by rw [look,jq hn,look]
   rw [this] at hx;have hx:x∈kT (.mk w.name []):=hx;rw [vsv (t:= .mk w.name []) hv,kG] at hx;left;rw [vsv hv,hx];exact ⟨by simp [T.name],λe=>hn e.symm⟩
 | false=>
  rw [JN hv,vsf (t:= .mk w.name (w.args.map (sub [(n,t)]))) hv,qy] at hx;obtain ⟨u,hu,hx⟩:=hx;obtain ⟨a,ha,rfl⟩:=yP.1 hu;rcases ih a ha hx with ⟨h1,h2⟩|h
  .left;rw [vsf hv,qy];exact ⟨⟨a,ha,h1⟩,h2⟩
  .exact Or.inr h
theorem jtW {s:jz} :∀(w:T),yH w=true->(∀x∈kT w,look s x=none)->sub s w=w:=by
 refine T.ind λw ih=> ?_;intro hk h;cases hv:ju w.name with
 | true=>
  rw [KP hv,jct,h w.name (by rw [vsv hv];simp)]
  have ha:=JC hk hv;show T.mk w.name []=w;rw [<-ha,T.eta]
 | false=>
  rw [JN hv];have:w.args.map (sub s)=w.args:=by
   conv=>rhs;rw [<-List.map_id w.args]
   refine jhj λa ha=>ih a ha (zM hk a ha) λx hx=>h x ?_;rw [vsf hv,qy];exact ⟨a,ha,hx⟩
  rw [this,T.eta]
theorem jkr {s:jz} {n:List UInt8} {t:T} {q:List UInt8 × T} :q∈Y4 s n t↔q∈s\/q=(n,t):=by
 unfold Y4;have e:=jk6 (p:=λp:List UInt8 × T=>yT p.1 n) (l:=s);constructor
 .intro h;rcases kM.1 h with h|h
  .left;rw [<-e];exact jb7 _ h
  .rcases kW.1 h with h|h
   .exact Or.inr h
   .left;rw [<-e];exact jgh _ h
 .rintro (h|h)
  .rw [<-e] at h;rcases kM.1 h with h|h
   .exact jb7 _ h
   .exact jgh _ (JE _ h)
  .rw [h];exact jgh _ (jba ..)
theorem jAh (s:jz) (n:List UInt8) (t:T):(Y4 s n t).length=s.length+1:=by
 unfold Y4;have e:=congrArg List.length (jk6 (p:=λp:List UInt8 × T=>yT p.1 n) (l:=s));rw [ym] at e;rw [ym,yd];omega
theorem QJ:∀(m s:jz),(∀q∈m,q.2.name≠q.1)->(m.foldl (λs p=>J5 s p.1 p.2) s).length=s.length+m.length/\ ∀q,q∈m.foldl (λs p=>J5 s p.1 p.2) s↔q∈s\/q∈m
 | [],s,_=>⟨rfl,λq=>by simp⟩
 | p::m,s,h=>by
  rw [K6];have e:J5 s p.1 p.2=Y4 s p.1 p.2:=jq (h p (by simp));obtain ⟨h1,h2⟩:=QJ m (J5 s p.1 p.2) λq hq=>h q (by simp [hq]);refine ⟨by rw [h1,e,jAh,yd];omega,λq=> ?_⟩;rw [h2,e,jkr,kW,Ya]
theorem jsU {s:jz} (hs:jI s=true) (hi:IdS s) {n:List UInt8} {t:T} (hn:ju n=true) (hd:look s n=none) (ht:∀x∈kT t,look s x=none) (ho:n ∉ kT t) (htn:t.name≠n) :
  (zC s [(n,t)]).length=s.length+1/\IdS (zC s [(n,t)])/\(∀q,q∈zC s [(n,t)]↔(∃p∈s,q=(p.1,sub [(n,t)] p.2))\/q=(n,t))/\ ∀q∈s.map (λq=>(q.1,sub [(n,t)] q.2))++[(n,t)],q.2.name≠q.1:=by
 obtain ⟨_,_,hv⟩:=j7 hs;have hf:([(n,t)]:jz).filter (λq=>(look s q.1).isNone) = [(n,t)]:=by simp [hd]
 have hname:∀q∈s.map (λq=>(q.1,sub [(n,t)] q.2))++[(n,t)],q.2.name≠q.1:=by
  intro q hq;rcases kM.1 hq with hq|hq
  .obtain ⟨p,hp,rfl⟩:=yP.1 hq;intro e;have e:(sub [(n,t)] p.2).name=p.1:=e;have hx:p.1∈kT (sub [(n,t)] p.2):=by rw [vsv (by rw [e];exact (hv p hp).1),e];simp
   have hk:look s p.1≠none:=λh=>JJ.1 h p hp rfl;rcases jm0 _ hx with ⟨h1,_⟩|h1
   .exact hk (hi p hp _ h1)
   .exact hk (ht _ h1)
  .simp only [kG] at hq;rw [hq];exact htn
 obtain ⟨f1,f2⟩:=QJ _ [] hname;have hm:∀q,q∈zC s [(n,t)]↔(∃p∈s,q=(p.1,sub [(n,t)] p.2))\/q=(n,t):=by
  intro q;unfold zC JU;rw [hf,f2];simp only [jcv,false_or,kM,yP,kG];constructor
  .rintro (⟨p,h1,h2⟩|h)
   .exact Or.inl ⟨p,h1,h2.symm⟩
   .exact Or.inr h
  .rintro (⟨p,h1,h2⟩|h)
   .exact Or.inl ⟨p,h1,h2.symm⟩
   .exact Or.inr h
 refine ⟨?_,?_,hm,hname⟩
 .unfold zC JU;rw [hf,f1,ym,jM];simp
 .intro q hq x hx;have hxn:x≠n/\look s x=none:=by
   rcases (hm q).1 hq with ⟨p,hp,rfl⟩|rfl
   .rcases jm0 _ hx with ⟨h1,h2⟩|h1
    .exact ⟨h2,hi p hp _ h1⟩
    .exact ⟨λe=>ho (e ▸ h1),ht _ h1⟩
   .exact ⟨λe=>ho (e ▸ hx),ht _ hx⟩
  refine JJ.2 λp hp e=> ?_;rcases (hm p).1 hp with ⟨p',hp',rfl⟩|rfl
  .exact JJ.1 hxn.2 p' hp' e
  .exact hxn.1 e.symm
def mz (s:jz):JR->Nat
 | []=>0
 | p::r=>nodes (sub s p.1)+nodes (sub s p.2)+mz s r
theorem jmk (s:jz):∀a b:JR,mz s (a++b)=mz s a+mz s b
 | [],b=>by simp [mz]
 | p::a,b=>by rw [Qn,mz,mz,jmk s a b];omega
theorem jzP {s:jz} :∀(a b:List T),(∀u∈a,sub s u=u)->(∀u∈b,sub s u=u)->mz s (a.zip b)<=js a+js b
 | [],_,_,_=>by simp [mz]
 | _::_,[],_,_=>by simp [mz]
 | x::a,y::b,h1,h2=>by
  have:=jzP a b (λu hu=>h1 u (by simp [hu])) (λu hu=>h2 u (by simp [hu]));rw [List.zip_cons_cons,mz,h1 x (by simp),h2 y (by simp)];simp only [js];omega
theorem Exx.sub {s:jz} (hs:jI s=true) {t:T} (h:Exx t):yH (sub s t)=true\/((sub s t).name = [61]/\(sub s t).args.length=2/\ ∀u∈(sub s t).args,yH u=true):=by
 obtain ⟨_,_,hv⟩:=j7 hs;have ho:∀q∈s,yH q.2=true:=λq hq=>(jd4 (hv q hq).2.1);rcases h.1 with h|⟨h1,h2,h3⟩
 .exact Or.inl (jbY ho t h)
 .have hvn:ju t.name=false:=by rw [h1];decide
  right;rw [JN hvn];refine ⟨h1,by show (t.args.map _).length=2;rw [jM,h2],λu hu=> ?_⟩;obtain ⟨a,ha,rfl⟩:=yP.1 hu;exact jbY ho a (h3 a ha)
theorem kP {t:T} (h:jG t=true):nodes t<=30:=by
 simp only [jG,jy,kK] at h;exact h.1
theorem juD {t:T} (h:yH t=true\/(t.name = [61]/\t.args.length=2/\ ∀u∈t.args,yH u=true)):∀u∈t.args,yH u=true:=by
 rcases h with h|h
 .exact zM h
 .exact h.2.2
theorem zl {s:jz} {l r:T} {rest:JR} (h:ZY s ((l,r)::rest)) {s':jz} {es:JR} (hst:y7 s l r rest=some (s',es)):ZY s' es/\((s'=s/\mz s' es < mz s ((l,r)::rest))\/s'.length=s.length+1):=by
 obtain ⟨hv,hi,he⟩:=h;obtain ⟨el,er⟩:=he (l,r) (by simp);have hrest:∀p∈rest,Exx p.1/\Exx p.2:=λp hp=>he p (by simp [hp]);have xl:=el.sub hv;have xr:=er.sub hv;have nl:=qH (sub s l);have vl:=λ{x} (hx:x∈kT (sub s l))=>jkY hi l hx;have vr:=λ{x} (hx:x∈kT (sub s r))=>jkY hi r hx;have hmz:mz s ((l,r)::rest)=nodes (sub s l)+nodes (sub s r)+mz s rest:=rfl;unfold y7 at hst;split at hst
 .cases hst
 rename_i hsm;have hs1:jG (sub s l)=true:=by
  cases h:jG (sub s l) with
  | true=>rfl
  | false=>exact absurd (Or.inl h) hsm
 have hs2:jG (sub s r)=true:=by
  cases h:jG (sub s r) with
  | true=>rfl
  | false=>exact absurd (Or.inr h) hsm
 split at hst
 .cases hst;exact ⟨⟨hv,hi,hrest⟩,Or.inl ⟨rfl,by rw [hmz];omega⟩⟩
 split at hst
 .rename_i hvar;split at hst
  .cases hst
  rename_i hno;cases hst;have h1:(jx (sub s l) (sub s r)).1 ∉ kT (jx (sub s l) (sub s r)).2:=λh=>hno (Or.inl h);have h2:jI (zC s [jx (sub s l) (sub s r)])=true:=by
   cases h:jI (zC s [jx (sub s l) (sub s r)]) with
   | true=>rfl
   | false=>exact absurd (Or.inr (Or.inr h)) hno
  have h3:jI [jx (sub s l) (sub s r)]=true:=by
   cases h:jI [jx (sub s l) (sub s r)] with
   | true=>rfl
   | false=>exact absurd (Or.inr (Or.inl h)) hno
  have hb:look s (jx (sub s l) (sub s r)).1=none/\ ∀x∈kT (jx (sub s l) (sub s r)).2,look s x=none:=by
   unfold jx;split
   .rename_i hc;have hy:ju (sub s r).name=true:=by
     rcases hc with hc|hc
     .rcases hvar with h|h
      .rw [hc] at h;cases h
      .exact h
     .exact hc.1
    exact ⟨vr (by rw [vsv hy];simp),λx hx=>vl hx⟩
   .rename_i hc;have hx:ju (sub s l).name=true:=by
     cases h:ju (sub s l).name with
     | true=>rfl
     | false=>exact absurd (Or.inl h) hc
    exact ⟨vl (by rw [vsv hx];simp),λx hx=>vr hx⟩
  obtain ⟨_,_,h4⟩:=j7 h3;obtain ⟨k1,_,k3⟩:=h4 _ (List.mem_singleton_self _);generalize jx (sub s l) (sub s r)=p at *;obtain ⟨n,t⟩:=p;obtain ⟨c1,c2,_,_⟩:=jsU hv hi k1 hb.1 hb.2 h1 k3;exact ⟨⟨h2,c2,hrest⟩,Or.inr c1⟩
 .rename_i hnv;split at hst
  .rename_i hnm;cases hst;have v1:ju (sub s l).name=false:=by
    cases h:ju (sub s l).name with
    | false=>rfl
    | true=>exact absurd (Or.inl h) hnv
   have v2:ju (sub s r).name=false:=by
    cases h:ju (sub s r).name with
    | false=>rfl
    | true=>exact absurd (Or.inr h) hnv
   have a1:∀u∈(sub s l).args,yH u=true/\nodes u<=31/\sub s u=u:=λu hu=>by
    have hk:=juD xl u hu;have:=Je hu;have:=kP hs1;exact ⟨hk,by omega,jtW u hk λx hx=>vl (by rw [vsf v1,qy];exact ⟨u,hu,hx⟩)⟩
   have a2:∀u∈(sub s r).args,yH u=true/\nodes u<=31/\sub s u=u:=λu hu=>by
    have hk:=juD xr u hu;have:=Je hu;have:=kP hs2;exact ⟨hk,by omega,jtW u hk λx hx=>vr (by rw [vsf v2,qy];exact ⟨u,hu,hx⟩)⟩
   refine ⟨⟨hv,hi,λp hp=> ?_⟩,Or.inl ⟨rfl,?_⟩⟩
   .rcases kM.1 hp with hp|hp
    .have hm:=List.of_mem_zip (a:=p.1) (b:=p.2) hp;exact ⟨⟨Or.inl (a1 _ hm.1).1,(a1 _ hm.1).2.1⟩,⟨Or.inl (a2 _ hm.2).1,(a2 _ hm.2).2.1⟩⟩
    .exact hrest p hp
   .have:=jzP (s:=s) (sub s l).args (sub s r).args (λu hu=>(a1 u hu).2.2) (λu hu=>(a2 u hu).2.2);have e1:=jS (sub s l);have e2:=jS (sub s r);rw [jmk,hmz];omega
  .cases hst
theorem jt0:∀(m1 m2:Nat) (s:jz) (es:JR),ZY s es->13 - s.length<=m1->mz s es<=m2-> ∃k res,zZ k s es=some res:=by
 intro m1;induction m1 with
 | zero=>
  intro m2 s es h h1;have:=(j7 h.1).1;omega
 | succ m1 ih1=>
  intro m2;induction m2 with
  | zero=>
   intro s es h _ h2;cases es with
   | nil=>exact ⟨0,_,rfl⟩
   | cons p es=>
    have:=qH (sub s p.1);simp only [mz] at h2;omega
  | succ m2 ih2=>
   intro s es h h1 h2;cases es with
   | nil=>exact ⟨0,_,rfl⟩
   | cons p es=>
    obtain ⟨l,r⟩:=p;cases hst:y7 s l r es with
    | none=>exact ⟨1,none,by rw [zZ,hst]⟩
    | some q=>
     obtain ⟨s',es'⟩:=q;obtain ⟨hinv,hor⟩:=zl h hst;have hl:=(j7 h.1).1;rcases hor with ⟨e,hlt⟩|e
     .obtain ⟨k,res,hk⟩:=ih2 s' es' hinv (by rw [e];exact h1) (by omega)
      exact ⟨k+1,res,by rw [zZ,hst];exact hk⟩
     .obtain ⟨k,res,hk⟩:=ih1 (mz s' es') s' es' hinv (by omega) (kH _);exact ⟨k+1,res,by rw [zZ,hst];exact hk⟩
theorem jAT:∀(k:Nat) (s:jz) (es:JR) {u:jz},ZY s es->zZ k s es=some (some u)->jI u=true/\IdS u:=by
 intro k;induction k with
 | zero=>
  intro s es u h hu;cases es with
  | nil=>simp only [zZ,kY] at hu;rw [<-hu];exact ⟨h.1,h.2.1⟩
  | cons p es=>simp [zZ] at hu
 | succ k ih=>
  intro s es u h hu;cases es with
  | nil=>simp only [zZ,kY] at hu;rw [<-hu];exact ⟨h.1,h.2.1⟩
  | cons p es=>
   obtain ⟨l,r⟩:=p;rw [zZ] at hu;cases hst:y7 s l r es with
   | none=>rw [hst] at hu;simp at hu
   | some q=>
    rw [hst] at hu;exact ih q.1 q.2 (zl h hst).1 hu
def Bx (t:T):Prop:=(t.name = [61]/\t.args.length=2/\ ∀u∈t.args,yH u=true)\/(qN t.name=true/\yH t=true)
theorem Bx.rx {t:T} (h:Bx t):Rx' t:=h.elim (λh=>Or.inr ⟨h.1,h.2.2⟩) λh=>Or.inl h.2
theorem Bx.ax {t:T} (h:Bx t):yH t=true\/(t.name = [61]/\t.args.length=2/\ ∀u∈t.args,yH u=true):=h.elim Or.inr λh=>Or.inl h.2
theorem Bx.args {t:T} (h:Bx t):∀u∈t.args,yH u=true:=h.elim (λh=>h.2.2) λh=>zM h.2
theorem jtX {n:List UInt8} (h:qN n=true):ju n=false:=by
 cases hv:ju n with
 | false=>rfl
 | true=>rw [jkR hv] at h;cases h
theorem Bx.nv {t:T} (h:Bx t):ju t.name=false:=h.elim (λh=>by rw [h.1];decide) λh=>jtX h.1
theorem jFv {t:T} (h:t.args.length=2):t.args = [jaJ t,jcp t]:=by
 obtain ⟨n,us⟩:=t
 match us,h with
 | [a,b],_=>rfl
theorem jfn {t:T} :JP t=true↔Bx t/\jG t=true:=by
 unfold JP Bx;by_cases he:t.name = [61]
 .rw [jp he];unfold jcZ;rw [jy,jy,jy,kK];constructor
  .rintro ⟨h1,h2,h3,h4⟩;refine ⟨Or.inl ⟨he,h1,λu hu=> ?_⟩,h2⟩;rw [jFv h1] at hu;simp only [kW,jcv,jdF] at hu;rcases hu with rfl|rfl
   .exact h3
   .exact h4
  .rintro ⟨h|h,h2⟩
   .obtain ⟨_,_,ma,mb⟩:=K8 h.2.1;exact ⟨h.2.1,h2,h.2.2 _ ma,h.2.2 _ mb⟩
   .rw [he] at h;exact absurd h.1 (by decide)
 .rw [jq he];unfold kZ;rw [jy,jy];constructor
  .rintro ⟨h1,h2,h3⟩;exact ⟨Or.inr ⟨h1,h3⟩,h2⟩
  .rintro ⟨h|h,h2⟩
   .exact absurd h.1 he
   .exact ⟨h.1,h2,h.2⟩
theorem Bx.atom {t:T} (h:Bx t):JP t=jG t:=by
 cases hs:jG t with
 | true=>exact jfn.2 ⟨h,hs⟩
 | false=>
  cases ha:JP t with
  | false=>rfl
  | true=>rw [(jfn.1 ha).2] at hs;cases hs
theorem Bx.tsz {t:T} (h:Bx t):tsz t<=10 * nodes t:=by
 rcases h with h|h
 .rw [kQ,jS,h.1,h.2.1];have:=juX h.2.2;simp only [yd,qM];omega
 .exact jgY t h.2
theorem Bx.tz {t:T} (h:Bx t) (hn:nodes t<=100000):Tz t:=by have:=h.tsz;unfold Tz;omega
theorem Bx.exx {t:T} (h:Bx t) (hn:nodes t<=31):Exx t:=⟨h.ax,hn⟩
theorem Bx.sub {s:jz} (hs:jI s=true) {t:T} (h:Bx t):Bx (sub s t):=by
 obtain ⟨_,_,hv⟩:=j7 hs;have ho:∀q∈s,yH q.2=true:=λq hq=>jd4 (hv q hq).2.1;have hn:=h.nv;rcases h with h|h
 .left;rw [jkP hn,jf7 hn,jM];refine ⟨h.1,h.2.1,λu hu=> ?_⟩;obtain ⟨a,ha,rfl⟩:=yP.1 hu;exact jbY ho a (h.2.2 a ha)
 .right;rw [jkP hn];exact ⟨h.1,jbY ho t h.2⟩
theorem Yw {s:jz} (hs:jI s=true):∀q∈s,nodes q.2<=30:=λq hq=>by
 have:=((j7 hs).2.2 q hq).2.1;unfold kZ at this;rw [jy] at this;exact kP this.1
theorem Zq {s:jz} (hs:jI s=true):∀q∈s,yH q.2=true:=λq hq=>jd4 ((j7 hs).2.2 q hq).2.1
theorem jhf:jI []=true:=by unfold jI;simp [jpQ]
mutual
theorem jmD (f:List UInt8->List UInt8):∀t:T,nodes (zv f t)<=nodes t
 | .mk n us=>by
  rw [zv];split
  .have:=qH (.mk n us);show 1+0<=_;omega
  .have:=jkB f us;simp only [nodes];omega
theorem jkB (f:List UInt8->List UInt8):∀ts:List T,js (Z5 f ts)<=js ts
 | []=>kH _
 | t::ts=>by have:=jmD f t;have:=jkB f ts;simp only [Z5,js];omega
end
mutual
theorem jB5 (f:List UInt8->List UInt8):∀t:T,Qp (zv f t)<=Qp t
 | .mk n us=>by
  rw [zv];split
  .rw [ZZ (.mk n us)];show 1+0<=_;omega
  .have:=jrH f us;simp only [Qp];omega
theorem jrH (f:List UInt8->List UInt8):∀ts:List T,jab (Z5 f ts)<=jab ts
 | []=>kH _
 | t::ts=>by have:=jB5 f t;have:=jrH f ts;simp only [Z5,jab];omega
end
theorem jf1 {f:List UInt8->List UInt8} {t:T} (h:ju t.name=false):(zv f t).name=t.name:=by rw [jbP,h,jq kx];rfl
theorem jdo {f:List UInt8->List UInt8} {t:T} (h:ju t.name=false):(zv f t).args=t.args.map (zv f):=by rw [jbP,h,jq kx];rfl
theorem jAm {f:List UInt8->List UInt8} (hf:∀n,ju n=true->ju (f n)=true):∀t:T,yH t=true->yH (zv f t)=true:=by
 refine T.ind λt ih h=> ?_;cases hv:ju t.name with
 | true=>rw [jbP,hv,jp rfl];exact jzW _ (hf _ hv)
 | false=>
  have hk:=h;rw [yW,hv,jq kx,jy,jy,kK] at h;rw [yW,jf1 hv,jdo hv,hv,jq kx,jy,jy,kK,jM,J2,z7];refine ⟨h.1,h.2.1,λu hu=> ?_⟩;obtain ⟨a,ha,rfl⟩:=yP.1 hu;exact ih a ha (zM hk a ha)
theorem Bx.ren {f:List UInt8->List UInt8} (hf:∀n,ju n=true->ju (f n)=true) {t:T} (h:Bx t):Bx (zv f t):=by
 have hn:=h.nv;rcases h with h|h
 .left;rw [jf1 hn,jdo hn,jM];refine ⟨h.1,h.2.1,λu hu=> ?_⟩;obtain ⟨a,ha,rfl⟩:=yP.1 hu;exact jAm hf a (h.2.2 a ha)
 .right;rw [jf1 hn];exact ⟨h.1,jAm hf t h.2⟩
theorem jgN:∀d:Nat,d < 10->JX (UInt8.ofNat (48+d))=true:=by decide
theorem Jq {u:Nat} (h:u < 10):Lib.decDigits u = [UInt8.ofNat (48+u)]:=Lib.decDigits_one h
theorem Za {u:Nat} (h:¬u < 10):Lib.decDigits u=Lib.decDigits (u / 10)++[UInt8.ofNat (48+u % 10)]:=by rw [Lib.decDigits,dif_neg h]
theorem KJ:∀(k u:Nat),u < 10 ^ (k+1)->(Lib.decDigits u).all JX=true/\(Lib.decDigits u).length<=k+1
 | 0,u,h=>by rw [Jq (by omega)];exact ⟨by rw [zB,jgN u (by omega),jam];rfl,by simp⟩
 | k+1,u,h=>by
  by_cases hu:u < 10
  .rw [Jq hu];exact ⟨by rw [zB,jgN u hu,jam];rfl,by simp⟩
  .obtain ⟨h1,h2⟩:=KJ k (u / 10) (by rw [Nat.pow_succ] at h;omega)
   rw [Za hu,List.all_append,h1,ym];exact ⟨by rw [zB,jgN (u % 10) (by omega),jam];rfl,by simp only [yd,qM];omega⟩
theorem jxJ:∀a:Nat,a < 10-> ∀b:Nat,b < 10->UInt8.ofNat (48+a)=UInt8.ofNat (48+b)->a=b:=by decide
theorem juB (a b:Nat) (h1:a < 10) (h2:b < 10) (h:UInt8.ofNat (48+a)=UInt8.ofNat (48+b)):a=b:=jxJ a h1 b h2 h
theorem jsZ:∀(u v:Nat),Lib.decDigits u=Lib.decDigits v->u=v:=by
 intro u;induction u using Nat.strongRecOn with
 | ind u ih=>
  intro v h;by_cases hu:u < 10<;>by_cases hv:v < 10
  .rw [Jq hu,Jq hv] at h;exact juB u v hu hv (by simpa using h)
  .have h2:=congrArg List.length h;rw [Jq hu,Za hv,ym,Lib.decDigits_length] at h2;have:=Lib.nDigits_pos (v / 10);simp only [yd,qM] at h2;omega
  .have h2:=congrArg List.length h;rw [Jq hv,Za hu,ym,Lib.decDigits_length] at h2;have:=Lib.nDigits_pos (u / 10);simp only [yd,qM] at h2;omega
  .rw [Za hu,Za hv] at h;obtain ⟨h1,h2⟩:=List.append_inj' h rfl;have e1:=ih (u / 10) (by omega) (v / 10) h1;have e2:=juB (u % 10) (v % 10) (by omega) (by omega) (by simpa using h2);omega
theorem jzT {p:UInt8} {i j:Nat} (h:J1 p i=J1 p j):i=j:=by
 unfold J1 at h;exact jsZ i j (by simpa using h)
theorem jzU {p:UInt8} (hp:upc p=true) {i:Nat} (hi:i < 1000):ju (J1 p i)=true:=by
 obtain ⟨h1,h2⟩:=KJ 2 i (by omega);show (upc p && ((Lib.decDigits i).all JX && decide ((Lib.decDigits i).length<=3)))=true;rw [hp,h1,jW (by omega)];rfl
theorem jCx {l:List (List UInt8)} {n x:List UInt8} :x∈vnA l n↔x∈l\/x=n:=by
 unfold vnA;split
 .rename_i h;rw [jhp] at h;exact ⟨Or.inl,λh'=>h'.elim id λe=>e ▸ h⟩
 .simp
theorem jw2 {l:List (List UInt8)} {n:List UInt8} (h:l.Nodup):(vnA l n).Nodup:=by
 unfold vnA;split
 .exact h
 .rename_i hc;rw [jhp] at hc;refine jk8.2 ⟨h,by simp,λa ha b hb=> ?_⟩;simp only [kG] at hb;rintro rfl;exact hc (hb ▸ ha)
mutual
theorem jre:∀(t:T) (l:List (List UInt8)) (x:List UInt8),x∈Z3 l t↔x∈l\/x∈kT t
 | .mk n us,l,x=>by
  rw [Z3,kT];split
  .rw [jCx];simp
  .exact jrd us l x
theorem jrd:∀(ts:List T) (l:List (List UInt8)) (x:List UInt8),x∈jdg l ts↔x∈l\/x∈yv ts
 | [],l,x=>by simp [jdg,yv]
 | t::ts,l,x=>by rw [jdg,yv,jrd ts,jre t,kM,Ya]
end
mutual
theorem jkc:∀(t:T) {l:List (List UInt8)},l.Nodup->(Z3 l t).Nodup
 | .mk n us,l,h=>by
  rw [Z3];split
  .exact jw2 h
  .exact jkb us h
theorem jkb:∀(ts:List T) {l:List (List UInt8)},l.Nodup->(jdg l ts).Nodup
 | [],l,h=>h
 | t::ts,l,h=>by rw [jdg];exact jkb ts (jkc t h)
end
theorem jj3:∀(c:zg) (l:List (List UInt8)) (x:List UInt8),x∈c.foldl (λl x=>Z3 l x.2) l↔x∈l\/ ∃y∈c,x∈kT y.2
 | [],l,x=>by simp
 | y::c,l,x=>by rw [K6,jj3 c,jre,Ya];simp
theorem jeP {c:zg} {x:List UInt8} :x∈zi c↔ ∃y∈c,x∈kT y.2:=by unfold zi;rw [jj3];simp
theorem jbJ (c:zg):(zi c).Nodup:=by
 have:∀(c:zg) (l:List (List UInt8)),l.Nodup->(c.foldl (λl x=>Z3 l x.2) l).Nodup:=by
  intro c;induction c with
  | nil=>intro l h;exact h
  | cons y c ih=>intro l h;exact ih _ (jkc y.2 h)
 exact this c [] List.nodup_nil
theorem jeQ {c:zg} {x:List UInt8} (h:x∈zi c):ju x=true:=by
 obtain ⟨y,_,hx⟩:=jeP.1 h;exact jAV y.2 hx
def CN (c:zg):Prop:=c.length<=8/\ ∀l∈c,Bx l.2/\nodes l.2<=30
theorem Ke {c:zg} (h:CN c):(zi c).length<=240:=by
 have:∀(c:zg) (l:List (List UInt8)),(∀y∈c,nodes y.2<=30)->(c.foldl (λl x=>Z3 l x.2) l).length<=l.length+30 * c.length:=by
  intro c;induction c with
  | nil=>intro l _;simp
  | cons y c ih=>
   intro l h;have h1:=jfR y.2 l;have h2:=h y (by simp);have h3:=ih (Z3 l y.2) λz hz=>h z (by simp [hz]);rw [K6,yd];omega
 have h2:=this c [] λy hy=>(h.2 y hy).2;have h3:=h.1;rw [qM] at h2;unfold zi;omega
theorem jlQ {p:UInt8} {l:List (List UInt8)} {i:Nat} (hl:l.Nodup) (hi:i < l.length):zx p l l[i]=J1 p i:=by
 unfold zx;have:l.findIdx? (λx=>decide (x=l[i]))=some i:=by
  rw [jt3];refine ⟨hi,by simp,λj hj=> ?_⟩;simp only [kK,JF,jcg];intro e;exact (jhq.1 hl) j i (by omega) hi hj e
 rw [this]
theorem jlR {p:UInt8} (hp:upc p=true) {l:List (List UInt8)} (hl:l.length<=1000) {n:List UInt8} (hn:ju n=true):ju (zx p l n)=true:=by
 unfold zx;split
 .rename_i i h;have:=(jt3.1 h).1;exact jzU hp (by omega)
 .exact hn
theorem jqw {α:Type} (c:α->α->Int) (l:List α) (x:α):(jcr c l x).length<=l.length+1:=by
 unfold jcr;split
 .omega
 .have:=congrArg List.length (jk6 (p:=λa=>decide (c a x < 0)) (l:=l));rw [ym] at this;rw [ym,yd];omega
theorem jgT {α:Type} (c:α->α->Int) (l:List α):(qb c l).length<=l.length:=by
 have:∀(l m:List α),(l.foldl (jcr c) m).length<=m.length+l.length:=by
  intro l;induction l with
  | nil=>intro m;simp
  | cons x l ih=>
   intro m;have h1:=jqw c m x;have h2:=ih (jcr c m x);rw [K6,yd];omega
 have:=this l [];simpa [qb] using this
theorem jgU {l:zg} {x:Lt} :x∈qb cmpL l↔x∈l:=(jdT KH l).2 x
theorem jq3 {l:zg} (h:Asc cmpL l):qb cmpL l=l:=by
 obtain ⟨h1,h2⟩:=jdT KH l;exact jog KH h1 h h2
theorem CN.make {l:zg} (hl:l.length<=8) (h:∀x∈l,Bx x.2/\nodes x.2<=30):CN (qb cmpL l):=⟨by have:=jgT cmpL l;omega,λx hx=>h x (jgU.1 hx)⟩
theorem CN.ren {p:UInt8} (hp:upc p=true) {c:zg} (h:CN c):∀x∈c.map (λl=>(l.1,zv (zx p (zi c)) l.2)),Bx x.2/\nodes x.2<=30:=by
 intro x hx;obtain ⟨l,hl,rfl⟩:=yP.1 hx;have hn:=Ke h;have:=jmD (zx p (zi c)) l.2;have:=(h.2 l hl).2;exact ⟨(h.2 l hl).1.ren λn hn=>jlR hp (by omega) hn,by show nodes (zv (zx p (zi c)) l.2)<=30;omega⟩
theorem CN.renC {p:UInt8} (hp:upc p=true) {c:zg} (h:CN c):CN (renC p c):=CN.make (by rw [jM];exact h.1) (h.ren hp)
theorem CN.normF:∀(k:Nat) {c:zg},CN c->CN (normF k c)
 | 0,c,h=>h
 | k+1,c,h=>by
  rw [Go.Proofs.YtoaifmomhaneiaaGreatDoor.normF];split
  .exact h
  .exact CN.normF k (CN.renC (by decide) h)
theorem CN.normC {c:zg} (h:CN c):CN (normC c):=CN.normF 10 h
theorem KQ {c:zg} (h:qx c=true):CN c/\Asc cmpL c/\(∀l∈c,JP l.2=true):=by
 unfold qx at h;rw [jy,jy,z7,kK,jpP] at h;exact ⟨⟨h.2.2,λl hl=>⟨(jfn.1 (h.1 l hl)).1,kP (jfn.1 (h.1 l hl)).2⟩⟩,h.2.1,h.1⟩
theorem CN.tz {c:zg} (h:CN c):∀l∈c,Tz l.2:=λl hl=>(h.2 l hl).1.tz (by have:=(h.2 l hl).2;omega)
theorem CN.rx {c:zg} (h:CN c):∀l∈c,Rx' l.2:=λl hl=>(h.2 l hl).1.rx
theorem jlS {f:List UInt8->List UInt8} :∀ {xs bs:List T},(∀u∈xs,∀v∈bs,qk (zv f u) (zv f v)=qk u v)->yF (xs.map (zv f)) (bs.map (zv f))=yF xs bs
 | [],_,_=>rfl
 | _::_,[],_=>rfl
 | x::xs,b::bs,h=>by
  rw [kV,kV,yF,yF,h x (by simp) b (by simp),jlS λu hu v hv=>h u (by simp [hu]) v (by simp [hv])]
theorem Rx'.va {t:T} (h:Rx' t) (hv:ju t.name=true):t.args = []:=h.elim (λh=>JC h hv) λh=>by rw [h.1] at hv;exact absurd hv (by decide)
theorem jBq {L:List (List UInt8)} {f:List UInt8->List UInt8} (hf:∀n∈L,ju (f n)=true) (hc:∀n∈L,∀m∈L,zE (f n) (f m)=zE n m):∀a:T,Rx' a->(∀x∈kT a,x∈L)-> ∀b:T,Rx' b->(∀x∈kT b,x∈L)->qk (zv f a) (zv f b)=qk a b:=by
 refine T.ind λa ih ra la b rb lb=> ?_;have hk:cK (qB (zv f a)) (qB (zv f b))=cK (qB a) (qB b):=by
  have v1:∀t:T,Rx' t->(∀x∈kT t,x∈L)->ju t.name=true->qB t=(0,(t.name,0))/\qB (zv f t)=(0,(f t.name,0))/\t.name∈L:=λt rt lt hv=>by
   have ha:=rt.va hv;have hm:t.name∈L:=lt _ (by rw [vsv hv];simp);have e1:vF t.name=0:=by unfold vF;rw [hv,jp rfl]
   have e2:vF (f t.name)=0:=by unfold vF;rw [hf _ hm,jp rfl]
   refine ⟨by unfold qB;rw [e1,ha];rfl,?_,hm⟩
   rw [jbP,hv,jp rfl];show (vF (f t.name),(f t.name,0))=_;rw [e2]
  have v2:∀t:T,ju t.name=false->qB (zv f t)=qB t/\(qB t).1=1:=λt hv=>by
   refine ⟨by unfold qB;rw [jf1 hv,jdo hv,jM],?_⟩
   show vF t.name=1;unfold vF;rw [hv,jq kx]
  cases va:ju a.name<;>cases vb:ju b.name
  .rw [(v2 a va).1,(v2 b vb).1]
  .obtain ⟨p1,p2,_⟩:=v1 b rb lb vb;obtain ⟨q1,q2⟩:=v2 a va;rw [q1,p1,p2];have e:∀z:Key,z.1=0->cK (qB a) z=1:=λz hz=>by
    have:zF (qB a).1 z.1=1:=by rw [q2,hz];decide
    unfold cK;rw [this,jp (by decide)]
   rw [e _ rfl,e _ rfl]
  .obtain ⟨p1,p2,_⟩:=v1 a ra la va;obtain ⟨q1,q2⟩:=v2 b vb;rw [q1,p1,p2];have e:∀z:Key,z.1=0->cK z (qB b) = -1:=λz hz=>by
    have:zF z.1 (qB b).1 = -1:=by rw [q2,hz];decide
    unfold cK;rw [this,jp (by decide)]
   rw [e _ rfl,e _ rfl]
  .obtain ⟨p1,p2,p3⟩:=v1 a ra la va;obtain ⟨q1,q2,q3⟩:=v1 b rb lb vb;rw [p1,p2,q1,q2];unfold cK;simp only;rw [hc _ p3 _ q3]
 rw [QA,QA a b,hk];by_cases h0:cK (qB a) (qB b)=0
 .rw [jq (λh=>h h0),jq (λh=>h h0)];cases va:ju a.name with
  | true=>
   have:(zv f a).args = []:=by rw [jbP,va,jp rfl];rfl
   rw [this,ra.va va];rfl
  | false=>
   have vb:ju b.name=false:=by rw [<-(jjI ((jbu.zero _ _).1 h0)).1];exact va
   rw [jdo va,jdo vb];exact jlS λu hu v hv=>ih u hu (ra.args u hu) (λx hx=>la x (by rw [vsf va,qy];exact ⟨u,hu,hx⟩)) v (rb.args v hv) λx hx=>lb x (by rw [vsf vb,qy];exact ⟨v,hv,hx⟩)
 .rw [jp h0,jp h0]
def jY (d:zg):zg:=d.map λl=>(l.1,zv (zx 89 (zi d)) l.2)
def jX (c:zg):Bool:=qx c && KM c
theorem kL {c:zg} (h:jX c=true):CN c/\Asc cmpL c/\qx c=true/\KM c=true:=by
 unfold jX at h;rw [jy] at h;exact ⟨(KQ h.1).1,(KQ h.1).2.1,h.1,h.2⟩
theorem jvD (p q:UInt8) (x y:List UInt8):zE (p::x) (p::y)=zE (q::x) (q::y):=by
 have e:yT (p::x) (p::y)=yT (q::x) (q::y):=by
  rw [Qa,Qa];congr 1;simp [List.cons_lt_cons_iff]
 unfold zE;rw [e];simp
theorem jeS {d:zg} (h:KM d=true) {n:List UInt8} (hn:n∈zi d):∃i,i < (zi d).length/\n=J1 88 i/\zx 89 (zi d) n=J1 89 i:=by
 obtain ⟨i,hi,rfl⟩:=jlg.1 hn;unfold KM at h;rw [kK] at h;refine ⟨i,hi,?_,jlQ (jbJ d) hi⟩;have:=congrArg (λl=>l[i]?) h;simp only [kh hi,qu,jb3 hi,JG] at this;exact Yx this
theorem jvx {d:zg} (h:jX d=true):Asc cmpL (jY d):=by
 obtain ⟨hc,ha,_,hn⟩:=kL h;have hl:=Ke hc;unfold Asc jY;rw [List.pairwise_map];refine List.Pairwise.imp_of_mem ?_ ha;intro x y hx hy hlt;have e:qk (zv (zx 89 (zi d)) x.2) (zv (zx 89 (zi d)) y.2)=qk x.2 y.2:=by
  refine jBq (L:=zi d) (λn hn'=>jlR (by decide) (by omega) (jeQ hn')) (λn h1 m h2=> ?_) x.2 (hc.rx x hx) (λz hz=>jeP.2 ⟨x,hx,hz⟩) y.2 (hc.rx y hy) (λz hz=>jeP.2 ⟨y,hy,hz⟩);obtain ⟨i,_,rfl,e1⟩:=jeS hn h1;obtain ⟨j,_,rfl,e2⟩:=jeS hn h2;rw [e1,e2];exact jvD _ _ _ _
 show cmpL (x.1,zv (zx 89 (zi d)) x.2) (y.1,zv (zx 89 (zi d)) y.2) < 0;unfold cmpL at hlt ⊢;simp only;rw [e];exact hlt
theorem apart_eq {d:zg} (h:jX d=true):renC 89 d=jY d:=jq3 (jvx h)
theorem jpM {d:zg} (h:jX d=true):CN (jY d):=⟨by unfold jY;rw [jM];exact (kL h).1.1,(kL h).1.ren (by decide)⟩
theorem jgG (d:zg):(jY d).length=d.length:=by unfold jY;rw [jM]
open Classical in
noncomputable def jaj (a b:T):Option jz:=if h:∃r k,zZ k [] [(a,b)]=some r then h.choose else none
theorem jvm {a b:T} (ha:Exx a) (hb:Exx b):ZY [] [(a,b)]:=⟨jhf,(λ_ h=>(jcv h).elim:IdS []),λp hp=>by rw [kG.1 hp];exact ⟨ha,hb⟩⟩
theorem jdA {a b:T} (ha:Exx a) (hb:Exx b):∃k,zZ k [] [(a,b)]=some (jaj a b):=by
 obtain ⟨k,r,h⟩:=jt0 13 _ [] [(a,b)] (jvm ha hb) (by simp) (kH _);have hex:∃r k,zZ k [] [(a,b)]=some r:=⟨r,k,h⟩;unfold jaj;rw [dif_pos hex];exact hex.choose_spec
theorem Yv {a b:T} (ha:Exx a) (hb:Exx b) {u:jz} (h:jaj a b=some u):jI u=true:=by
 obtain ⟨k,hk⟩:=jdA ha hb;rw [h] at hk;exact (jAT k _ _ (jvm ha hb) hk).1
noncomputable def Q9 (s:jz) (l:zg):Option zg:=if (l.all λx=>jG (sub s x.2)) && qx (qb cmpL (l.map λx=>(x.1,sub s x.2))) then some (qb cmpL (l.map λx=>(x.1,sub s x.2))) else none
noncomputable def JW (s:jz) (l:zg):Option zg:=(Q9 s l).bind λc=>if jX (normC c) then some (normC c) else none
abbrev cz:A:= .agg [.sl 3 []]
def Zh (o:Option zg):Option Out:=match o with|some c=>some (.tup [cm c,vb true],[])|none=>some (.tup [cz,vb false],[])
theorem ZN {s:jz} {l:zg} {c:zg} (h:JW s l=some c):jX c=true:=by
 unfold JW at h;rw [zJ] at h;obtain ⟨d,_,h⟩:=h;split at h
 .rename_i hn;cases h;exact hn
 .cases h
theorem jfl {s:jz} {l:zg} {c:zg} (h:Q9 s l=some c):qx c=true/\Asc cmpL c:=by
 unfold Q9 at h;split at h
 .rename_i hn;cases h;rw [jy] at hn;exact ⟨hn.2,(jdT KH _).1⟩
 .cases h
def atI:List Int->T->Option T
 | [],t=>some t
 | i::p,t=>if 0<=i/\i < (t.args.length:Int) then atI p (t.args.getD i.toNat (.mk [] [])) else none
theorem jxp:∀ {p:List Int} {t u:T},atI p t=some u-> ∃q:List Nat,p=q.map (λn:Nat=>(n:Int))/\okP q t/\u=atT q t
 | [],t,u,h=>by simp only [atI,kY] at h;exact ⟨[],rfl,trivial,h.symm⟩
 | i::p,t,u,h=>by
  rw [atI] at h;split at h;rotate_left
  .cases h
  rename_i hi;obtain ⟨q,e,h1,h2⟩:=jxp h;refine ⟨i.toNat::q,?_,⟨by omega,h1⟩,h2⟩;rw [kV,<-e];congr 1;omega
theorem jzV:∀ {p:List Nat} {t:T},p≠ []->okP p t->(∀u∈t.args,yH u=true)->yH (atT p t)=true/\nodes (atT p t)<=nodes t
 | [],t,h,_,_=>absurd rfl h
 | i::p,t,_,h,ha=>by
  obtain ⟨h1,h2⟩:=h;rw [atT];rw [ql h1] at h2 ⊢;have hm:t.args[i]∈t.args:=jo h1;have hk:=ha _ hm;have hn:=Je hm;by_cases hp:p = []
  .subst hp;exact ⟨hk,by show nodes t.args[i]<=_;omega⟩
  .have:=jzV hp h2 (zM hk);exact ⟨this.1,by omega⟩
theorem jpl {s:T} (hs:yH s=true):∀ {p:List Nat} {t:T},okP p t->yH t=true->yH (zq s p t)=true
 | [],t,_,_=>hs
 | i::p,t,h,hk=>by
  obtain ⟨h1,h2⟩:=h;rw [ql h1] at h2;have hv:ju t.name=false:=by
   cases hv:ju t.name with
   | false=>rfl
   | true=>rw [JC hk hv] at h1;simp at h1
  have hk':=hk;rw [yW,hv,jq kx,jy,jy,kK] at hk;rw [zq,ql h1,yW];show (if ju t.name=true then _ else (qN t.name && (decide ((t.args.set i (zq s p t.args[i])).length<=4) && jka (t.args.set i (zq s p t.args[i])))))=true;rw [hv,jq kx,jsq,hk.1,jW hk.2.1,J2,jJ,jJ,z7];intro u hu;rcases jpo hu with hu|hu
  .exact zM hk' u hu
  .rw [hu];exact jpl hs h2 (zM hk' _ (jo h1))
theorem jCB {s:T} (hs:yH s=true) {p:List Nat} {t:T} (hp:p≠ []) (h:okP p t) (hb:Bx t):Bx (zq s p t):=by
 match p,hp,h with
 | i::p,_,⟨h1,h2⟩=>
  rw [ql h1] at h2;rcases hb with hb|hb
  .left;rw [zq,ql h1];refine ⟨hb.1,by show (t.args.set i _).length=2;rw [jsq];exact hb.2.1,λu hu=> ?_⟩;rcases jpo (show u∈t.args.set i (zq s p t.args[i]) from hu) with hu|hu
   .exact hb.2.2 u hu
   .rw [hu];exact jpl hs h2 (hb.2.2 _ (jo h1))
  .right;refine ⟨hb.1,?_⟩;exact jpl (p:=i::p) hs ⟨h1,by rw [ql h1];exact h2⟩ hb.2
theorem jkZ (s:T):∀(p:List Nat) (t:T),okP p t->nodes (zq s p t)<=nodes t+nodes s
 | [],t,_=>by rw [zq];omega
 | i::p,t,h=>by
  obtain ⟨h1,h2⟩:=h;rw [ql h1] at h2;have ih:=jkZ s p t.args[i] h2;rw [zq,ql h1,jS t];show 1+js (t.args.set i (zq s p t.args[i]))<=_;have key:∀(ts:List T) (i:Nat) (h:i < ts.length) (u:T),nodes u<=nodes ts[i]+nodes s->js (ts.set i u)<=js ts+nodes s:=by
   intro ts;induction ts with
   | nil=>intro i h;simp at h
   | cons x xs ih2=>
    intro i h u hu;cases i with
    | zero=>simp only [jhh,js,List.getElem_cons_zero] at hu ⊢;omega
    | succ i=>
     have:=ih2 i (by simpa using h) u (by simpa using hu);simp only [jk2,js];omega
  have:=key t.args i h1 _ ih;omega
def EXB (t:T):Prop:=EX false t/\Bx t
theorem jdf {rs:List T} (hr:RS rs) {t u:T} (h:EXB t) (ho:jaT rs false t=some u):Tz u/\Bx u/\(jG u=true->EX false u)/\G 260 [tm u]=some (vb (jG u),[]):=by
 have hn:=jty hr t false h.1 ho;have hn0:=h.1.1.1;rw [jfQ] at ho;split at ho;rotate_left
 .cases ho
 rename_i us hus;cases ho;obtain ⟨g1,g2⟩:=jeU hus;have hk:∀v∈us,yH v=true:=g2 (λv=>yH v=true) (λv hv=>(h.1.2.1 v hv).1) λv hv u' hu'=>jBS hr.ok v (h.1.2.1 v hv).1 hu';have hb:Bx (.mk t.name us):=by
  rcases h.2 with h2|h2
  .exact Or.inl ⟨h2.1,g1.trans h2.2.1,hk⟩
  .refine Or.inr ⟨h2.1,?_⟩;have h3:=h2.2;rw [yW,jtX h2.1,jq kx,jy,jy,kK] at h3;rw [yW];show (if ju t.name=true then _ else (qN t.name && (decide (us.length<=4) && jka us)))=true;rw [jtX h2.1,jq kx,h2.1,g1,jW h3.2.1,J2,jJ,jJ,z7];exact hk
 have hz:Tz (.mk t.name us):=hb.tz (by omega);refine ⟨hz,hb,λhs=> ?_,jod hz hb.ax⟩;have hns:=kP hs;refine ⟨⟨by omega,hz⟩,λv hv=>⟨hk v hv,?_⟩,λh=>by cases h⟩;have:=Je (t:= .mk t.name us) hv;omega
theorem jtK (rs:List T) (hr:RS rs):∀(k n:Nat),k+n=51->1<=k-> ∀t:T,EXB t->ji2 (jQ rs) (vb false) (vi (n:Nat)) (sv []) (sv t.name) (jQ t.args) []=jrg (rwN rs false k n t):=by
 intro k;induction k with
 | zero=>intro n _ h;omega
 | succ k ih=>
  intro n hk _ t ht;have e1:=jv6 rs hr false t ht.1;rw [jEy,rwN];cases ho:jaT rs false t with
  | none=>
   rw [ho] at e1;have e1:G 269 [tm t,jQ rs,vb false]=some (.tup [tm t,vb false],[]):=e1;show _=some (A.tup [tm t,vi (n:Nat),vb true],[]);simp only [jd,e1]
  | some u=>
   rw [ho] at e1;have e1:G 269 [tm t,jQ rs,vb false]=some (.tup [tm u,vb true],[]):=e1;obtain ⟨hu,hb,hs,hA⟩:=jdf hr ht ho;have e2:G 260 [tm u]=some (vb (jG u),[]):=hA;by_cases h50:n=50
   .have hk0:k=0:=by omega
    have hn:((n:Nat):Int)=50:=by omega
    show _=jrg (if k=0\/jG u=false then none else rwN rs false k (n+1) u);rw [jp (Or.inl hk0)];show _=some (A.tup [.agg [sv [],.sl 2 []],vi 0,vb false],[]);simp only [jd,e1,hn]
   .have hn:¬((n:Nat):Int)=50:=by omega
    have hk0:¬k=0:=by omega
    show _=jrg (if k=0\/jG u=false then none else rwN rs false k (n+1) u);cases hsm:jG u with
    | false=>
     rw [hsm] at e2;rw [jp (Or.inr rfl)];show _=some (A.tup [.agg [sv [],.sl 2 []],vi 0,vb false],[]);simp only [jd,e1,hn,e2]
    | true=>
     rw [hsm] at e2;rw [jq (by simp [hk0])];have h5:ck ((n:Int)+1)=some (vi ((n+1:Nat):Int)):=jZ (by omega) (by omega);have:=ih (n+1) (by omega) (by omega) u ⟨hs hsm,hb⟩;rw [<-this];simp only [jd,e1,hn,e2,h5]
theorem jtJ (rs:List T) (hr:RS rs):∀(k n:Nat),k+n=51->1<=k-> ∀t:T,EXB t->jiS (jQ rs) (vb false) (vi (n:Nat)) (sv []) (sv t.name) (jQ t.args) []=jrg (rwN rs false k n t):=by
 intro k;induction k with
 | zero=>intro n _ h;omega
 | succ k ih=>
  intro n hk _ t ht;have e1:=jv4 rs hr t false ht.1;rw [jEr,rwN];cases ho:jaT rs false t with
  | none=>
   rw [ho] at e1;have e1:G 203 [tm t,jQ rs,vb false]=some (.tup [.agg [sv [],.sl 2 []],vb false],[]):=e1;show _=some (A.tup [tm t,vi (n:Nat),vb true],[]);simp only [jd,e1]
  | some u=>
   rw [ho] at e1;have e1:G 203 [tm t,jQ rs,vb false]=some (.tup [tm u,vb true],[]):=e1;obtain ⟨hu,hb,hs,hA⟩:=jdf hr ht ho;have e2:G 204 [tm u]=some (vb (jG u),[]):=jbF u hu.wf hu;by_cases h50:n=50
   .have hk0:k=0:=by omega
    have hn:((n:Nat):Int)=50:=by omega
    show _=jrg (if k=0\/jG u=false then none else rwN rs false k (n+1) u);rw [jp (Or.inl hk0)];show _=some (A.tup [.agg [sv [],.sl 2 []],vi 0,vb false],[]);simp only [jd,e1,hn]
   .have hn:¬((n:Nat):Int)=50:=by omega
    have hk0:¬k=0:=by omega
    show _=jrg (if k=0\/jG u=false then none else rwN rs false k (n+1) u);cases hsm:jG u with
    | false=>
     rw [hsm] at e2;rw [jp (Or.inr rfl)];show _=some (A.tup [.agg [sv [],.sl 2 []],vi 0,vb false],[]);simp only [jd,e1,hn,e2]
    | true=>
     rw [hsm] at e2;rw [jq (by simp [hk0])];have h5:ck ((n:Int)+1)=some (vi ((n+1:Nat):Int)):=jZ (by omega) (by omega);have:=ih (n+1) (by omega) (by omega) u ⟨hs hsm,hb⟩;rw [<-this];simp only [jd,e1,hn,e2,h5]
theorem jAp (rs:List T) (hr:RS rs) (t:T) (ht:EXB t):G 226 [tm t,jQ rs,vb false]=jrg (rwN rs false 51 0 t):=by
 have e1:=jdh t ht.1.1.2;have:=jtK rs hr 51 0 rfl (by decide) t ht;have:ji2 (jQ rs) (vb false) (vi 0) (sv []) (sv t.name) (jQ t.args) []=_:=this;rw [jLK];simp only [jd,e1,this]
theorem jAo (rs:List T) (hr:RS rs) (t:T) (ht:EXB t):G 155 [tm t,jQ rs,vb false]=jrg (rwN rs false 51 0 t):=by
 have e1:=Jp t ht.1.1.2;have:=jtJ rs hr 51 0 rfl (by decide) t ht;have:jiS (jQ rs) (vb false) (vi 0) (sv []) (sv t.name) (jQ t.args) []=_:=this;rw [jKR];simp only [jd,e1,this]
theorem Bx.exB {t:T} (h:Bx t) (hn:nodes t<=30):EXB t:=⟨⟨⟨by omega,h.tz (by omega)⟩,λu hu=>⟨h.args u hu,by have:=Je hu;omega⟩,λh=>by cases h⟩,h⟩
theorem jhb {rs:List T} (hr:RS rs):∀(k n:Nat) {t:T} {r:T × Nat},EXB t->rwN rs false k n t=some r->Bx r.1/\nodes r.1<=31
 | 0,n,t,r,_,h=>by simp [rwN] at h
 | k+1,n,t,r,ht,h=>by
  rw [rwN] at h;cases ho:jaT rs false t with
  | none=>rw [ho] at h;cases h;exact ⟨ht.2,ht.1.1.1⟩
  | some u=>
   rw [ho] at h;have h:(if k=0\/jG u=false then none else rwN rs false k (n+1) u)=some r:=h;split at h
   .cases h
   rename_i hc;obtain ⟨_,hb,hs,_⟩:=jdf hr ht ho;have hsm:jG u=true:=by
    cases hs':jG u with
    | true=>rfl
    | false=>exact absurd (Or.inr hs') hc
   exact jhb hr k (n+1) ⟨hs hsm,hb⟩ h
open Go Go.RowKit Go.Proofs.YtoaifmomhaneiaaGreatDoor.Abs Go.Sort
section
variable {α:Type} {c:α->α->Int}
theorem jrr {β γ:Type} (f:β->β->γ) (ys:List β):∀(xs:List β) (i j:Nat) (x y:β),xs[i]? = some x->ys[j]? = some y->(xs.flatMap λx=>ys.map λy=>f x y)[i * ys.length+j]? = some (f x y)
 | [],i,j,x,y,h,_=>by simp at h
 | a::xs,i,j,x,y,h,hy=>by
  have hj:=(KV.1 hy).1;rw [List.flatMap_cons];cases i with
  | zero=>simp at h;subst h;rw [Nat.zero_mul,yc,qL (by simpa using hj),qu,hy];rfl
  | succ i=>
   rw [JZ (by simp [z8];omega)]
   have:(i+1) * ys.length+j - (ys.map λy=>f a y).length=i * ys.length+j:=by simp [z8];omega
   rw [this];exact jrr f ys xs i j x y (by simpa using h) hy
theorem extract_all {β:Type} (e:Array β) {n:Nat} (h:e.size=n):e.extract 0 n=e:=by subst h;simp
theorem Law3.swo (h:Law3 c) {β:Type} (g:β->α) {lt:β->β->Bool} (hl:∀i j,lt i j=decide (c (g i) (g j) < 0)):SWO lt:=by
 refine ⟨λx=> ?_,λx y z h1 h2=> ?_,λx y z h1 h2=> ?_⟩
 .rw [hl,(h.zero _ _).2 rfl];rfl
 .rw [hl,kK] at *;exact h.trans _ _ _ h1 h2
 .rw [hl,jcg] at *;intro h3;have f1:=h.flip (g x) (g y);have f2:=h.flip (g y) (g z);by_cases e1:c (g x) (g y)=0
  .rw [(h.zero _ _).1 e1] at h3;exact h2 h3
  by_cases e2:c (g y) (g z)=0
  .rw [<-(h.zero _ _).1 e2] at h3;exact h1 h3
  have:=h.trans (g z) (g y) (g x) (by omega) (by omega);have f3:=h.flip (g x) (g z);omega
theorem jpb {γ:Type} {c:γ->γ->Int} (hc:Law3 c) (f:α->γ) (enc:α->List A) (k:Nat) (l:List α) (hl:l.length < 4611686018427387904):∃s:List α,s.Perm l/\s.Pairwise (λa b=>¬c (f b) (f a) < 0)/\jkK k (l.map enc) (l.flatMap λx=>l.map λy=>c (f x) (f y))=some (.top,[.sl k (s.map enc)]):=by
 cases l with
 | nil=>exact ⟨[],List.Perm.refl _,List.Pairwise.nil,rfl⟩
 | cons a l'=>
  generalize hcs:((a::l').flatMap λx=>(a::l').map λy=>c (f x) (f y))=cs;rw [kV];have hN:(l'.map enc).length+1=(a::l').length:=by simp
  let g:Fin ((l'.map enc).length+1)->α:=λi=>(a::l')[i.val]'(by rw [<-hN];exact i.isLt)
  have hg:∀i:Fin ((l'.map enc).length+1),(a::l')[i.val]? = some (g i):=λi=>kh _;have hT:∀i j,ltO (jh9 ((l'.map enc).length+1) cs) i j=decide (c (f (g i)) (f (g j)) < 0):=λi j=>by
   have:=jrr (λx y=>c (f x) (f y)) (a::l') (a::l') i.val j.val _ _ (hg i) (hg j);rw [hcs,<-hN] at this;unfold ltO jh9;rw [zO,this];rfl
  have hS:=hc.swo (λi=>f (g i)) hT;have hsz:(l'.map enc).length+1 < 4611686018427387904:=by rw [hN];exact hl
  generalize hd:(Array.ofFn (n:=(l'.map enc).length+1) id)=d;have hds:d.size=(l'.map enc).length+1:=by rw [<-hd];simp
  obtain ⟨hp,hs⟩:=pdq_sorts (ltO (jh9 ((l'.map enc).length+1) cs)) hS d 0 ((l'.map enc).length+1) (Lib.bitLen ((l'.map enc).length+1)) true true (jD _) (by omega) (Or.inl rfl);have hrow:jkK k (enc a::l'.map enc) cs=some (.top,[.sl k ((pdq (ltO (jh9 ((l'.map enc).length+1) cs)) d 0 ((l'.map enc).length+1) (Lib.bitLen ((l'.map enc).length+1)) true true).toList.map λi=>(enc a::l'.map enc).getD i.val [])]):=by
   unfold jkK;simp only;rw [jp ⟨hS,hsz⟩,hd]
  rw [hrow];generalize pdq (ltO (jh9 ((l'.map enc).length+1) cs)) d 0 ((l'.map enc).length+1) (Lib.bitLen ((l'.map enc).length+1)) true true=D at *;obtain ⟨p1,_,p3⟩:=hp;rw [extract_all D (by omega),extract_all d hds] at p3;refine ⟨D.toList.map g,?_,?_,?_⟩
  .have h1:(D.toList.map g).Perm (d.toList.map g):=p3.map g;have h2:d.toList.map g=a::l':=by
    refine Z9 λi=> ?_;rw [<-hd];by_cases hi:i < (l'.map enc).length+1
    .rw [qu,jb4,Ql (by simpa using hi)];simp only [Array.getElem_ofFn,JG,id];exact (hg ⟨i,hi⟩).symm
    .rw [yQ (by simp at hi ⊢;omega),yQ (by simp at hi ⊢;omega)]
   rw [h2] at h1;exact h1
  .rw [List.pairwise_map];rw [jhq];intro i j hi hj hij;have hD:D.size=(l'.map enc).length+1:=by omega
   rw [Zu] at hi hj;have:=hs i j (jD _) hij (by omega);rw [Qk D i hi,Qk D j hj,hT,jcg] at this;simpa using this
  .congr 3;rw [qY];refine congrArg (A.sl k) (jhj λi _=> ?_);rw [<-kV,zO,qu,hg i];rfl
end
theorem jjk {β:Type} (f:β->FuncId × List A) (r:β->Int):∀qs:List β,(∀b∈qs,K.pureF (f b).1=true/\G (f b).1 (f b).2=some (vi (r b),[]))->askAll K (MM K) (qs.map f)=some (qs.map λb=>(vi (r b),[]))
 | [],_=>rfl
 | b::qs,h=>by
  have ih:=jjk f r qs λb' hb=>h b' (by simp [hb]);obtain ⟨h1,h2⟩:=h b (by simp);rw [kV,kV];show (if K.pureF (f b).1 then (MM K (.call (f b).1 (f b).2)).bind λo=>(askAll K (MM K) (qs.map f)).bind λos=>some (o::os) else none)=_;have h2:MM K (.call (f b).1 (f b).2)=some (vi (r b),[]):=h2;rw [h1,jp rfl,h2,ih];rfl
theorem jmo {β:Type} (r:β->Int):∀qs:List β,jhV (qs.map λb=>(vi (r b),[]))=some (qs.map r)
 | []=>rfl
 | b::qs=>by
  rw [kV,kV,jhV,jmo r qs];rfl
theorem jqc {α γ:Type} {c:γ->γ->Int} (hc:Law3 c) (f:α->γ) (enc:α->List A) (k:Nat) (g:FuncId) (hp:K.pureF g=true) (l:List α) (hl:l.length < 4611686018427387904) (h:∀x∈l,∀y∈l,G g [.agg (enc x),.agg (enc y)]=some (vi (c (f x) (f y)),[])):∃s:List α,s.Perm l/\s.Pairwise (λa b=>¬c (f b) (f a) < 0)/\extRun K (MM K) (sfE k) [V.row 0,V.fn g []] [.row k (l.map enc)]=some (.top,[.sl k (s.map enc)]):=by
 obtain ⟨s,h1,h2,h3⟩:=jpb hc f enc k l hl;refine ⟨s,h1,h2,?_⟩;have hq:jr0 [V.row 0,V.fn g []] [.row k (l.map enc)]=some ((l.flatMap λx=>l.map λy=>(x,y)).map λq=>(g,[A.agg (enc q.1),A.agg (enc q.2)])):=by
  show some ((l.map enc).flatMap λx=>(l.map enc).map λy=>(g,[A.agg x,A.agg y]++[]))=_;congr 1;rw [List.flatMap_map,List.map_flatMap];refine congrArg (λh=>l.flatMap h) (funext λx=> ?_);rw [qY,qY];rfl
 have ha:=jjk (λq:α × α=>(g,[A.agg (enc q.1),A.agg (enc q.2)])) (λq=>c (f q.1) (f q.2)) (l.flatMap λx=>l.map λy=>(x,y)) λq hq=>by
  obtain ⟨x,hx,hq⟩:=List.mem_flatMap.1 hq;obtain ⟨y,hy,rfl⟩:=yP.1 hq;exact ⟨hp,h x hx y hy⟩
 have hc':((l.flatMap λx=>l.map λy=>(x,y)).map λq=>c (f q.1) (f q.2))=l.flatMap λx=>l.map λy=>c (f x) (f y):=by
  rw [List.map_flatMap];refine congrArg (λh=>l.flatMap h) (funext λx=> ?_);rw [qY];rfl
 have ho:=jmo (λq:α × α=>c (f q.1) (f q.2)) (l.flatMap λx=>l.map λy=>(x,y));rw [hc'] at ho;show (jr0 [V.row 0,V.fn g []] [.row k (l.map enc)]).bind _=_;rw [hq,yz,ha,yz];show (if Nat.beq k k then (jhV _).bind λcs=>jkK k (l.map enc) cs else none)=_;rw [Nat.beq_refl,jp rfl,ho];exact h3
theorem jDp:∀d:Nat,d < 10->Yq (sv [48,49,50,51,52,53,54,55,56,57]) (some (vi (d:Nat))) (some (vi ((d+1:Nat):Int)))=some (sv [UInt8.ofNat (48+d)])
 | 0,_=>rfl|1,_=>rfl|2,_=>rfl|3,_=>rfl|4,_=>rfl|5,_=>rfl|6,_=>rfl|7,_=>rfl|8,_=>rfl|9,_=>rfl
theorem jqH:∀n:Nat,n<=1000000->G 140 [vi (n:Nat)]=some (sv (Lib.decDigits n),[]):=by
 intro n;induction n using Nat.strongRecOn with
 | ind n ih=>
  intro hn;have h0:¬((n:Nat):Int) < 0:=by omega
  rw [jKF];by_cases h:n < 10
  .have h1:((n:Nat):Int) < 10:=by omega
   have h2:ck ((n:Int)+1)=some (vi ((n+1:Nat):Int)):=jZ (by omega) (by omega);have h3:=jDp n h;rw [Jq h];simp only [jd,h0,h1,h2,h3]
  .have h1:¬((n:Nat):Int) < 10:=by omega
   have hq:jr .quo false (vi (n:Nat)) (vi 10)=some (vi ((n / 10:Nat):Int)):=by
    show ck (((n:Nat):Int).tdiv 10)=_;rw [Int.tdiv_eq_ediv_of_nonneg (by omega)];exact jZ (by omega) (by omega)
   have hr:jr .rem false (vi (n:Nat)) (vi 10)=some (vi ((n % 10:Nat):Int)):=by
    show some (vi (((n:Nat):Int).tmod 10))=_;rw [Int.tmod_eq_emod_of_nonneg (by omega)];rfl
   have h2:ck (((n % 10:Nat):Int)+1)=some (vi ((n % 10+1:Nat):Int)):=jZ (by omega) (by omega);have h3:=jDp (n % 10) (by omega);have h4:=ih (n / 10) (by omega) (by omega);have hl:(Lib.decDigits (n / 10)).length + [UInt8.ofNat (48+n % 10)].length<=9223372036854775807:=by
    have:=(KJ 6 (n / 10) (by omega)).2;simp only [yd,qM];omega
   have h5:=jgZ false (Lib.decDigits (n / 10)) [UInt8.ofNat (48+n % 10)];rw [jp hl] at h5;rw [Za h];simp only [jd,h0,h1,hq,hr,h2,h3,h4,h5]
theorem juQ (n:Nat) (hn:n<=1000000):G 187 [vi (n:Nat)]=some (sv (Lib.decDigits n),[]):=by
 have:K.ext 187=some juP:=rfl;rw [jFi this];show (if -9223372036854775808<=((n:Nat):Int)/\((n:Nat):Int)<=9223372036854775807 then some (sv (Lib.itoa (n:Nat)),[]) else none)=_;rw [jp (by omega)];unfold Lib.itoa;rw [jq (by omega),jgg]
def jde:Nat->List (List UInt8)->Bool
 | _,[]=>true
 | i,n::r=>decide (n=J1 88 i) && jde (i+1) r
theorem jq9:∀(l:List (List UInt8)) (i:Nat),jde i l=decide (l=(List.range' i l.length).map (J1 88))
 | [],i=>by simp [jde]
 | n::r,i=>by
  rw [jde,jq9 r,yd,List.range'_succ,kV,<-Bool.decide_and];simp only [ZS]
theorem jjF (c:zg):KM c=jde 0 (zi c):=by
 rw [jq9,<-List.range_eq_range'];rfl
theorem jF5 (i:Nat) (h:i<=1000000):jr .add false (sv [88]) (sv (Lib.decDigits i))=some (sv (J1 88 i)):=by
 rw [jgZ,jp]
 .rfl
 .have:=(KJ 6 i (by omega)).2;simp only [yd,qM];omega
theorem jb9 (c:zg) (h:CN c):G 149 [cm c]=some (vb (KM c),[]):=by
 have hlen:=Ke h;have e0:=jj4 c (by have:=h.1;omega) h.rx h.tz λl hl=>by have:=(h.2 l hl).2;omega
 rw [jjF,jKM];generalize zi c=ns at *;have key:=upto (P:=λi=>jnj (strs ns) (vi (ns.length:Nat)) (vi (i:Nat))=some (vb (jde i (ns.drop i)),[])) (n:=ns.length) ?_ ?_ 0 (jD _)
 .simp only [jP,kg] at key;simp only [jd,e0,key]
 .rw [jyq,j6];simp only [jd,jde]
 .intro i hi ih;have hlt:(i:Int) < ((ns.length:Nat):Int):=by omega
  have h5:=jm hi (by show ns.length<=9223372036854775807;omega)
  have e1:=juQ i (by omega);have e2:=jF5 i (by omega);have ld:kq (.elt (cs ns[i]) 0)=some (sv ns[i]):=rfl;rw [jyq,jh hi,jde];by_cases hc:ns[i]=J1 88 i
  .rw [jW hc,jJ,<-ih];simp only [jd,hlt,ja hi,ld,e1,e2,hc,h5]
  .rw [kA hc,jH];simp only [jd,hlt,ja hi,ld,e1,e2,hc]
theorem jae (c:zg) (h:CN c):G 99 [cm c]=some (vb (KM c),[]):=by
 have hlen:=Ke h;have e0:=jjS c (by have:=h.1;omega) h.tz λl hl=>by have:=(h.2 l hl).2;omega
 rw [jjF,g99];generalize zi c=ns at *;have key:=upto (P:=λi=>jup (strs ns) (vi (i:Nat))=some (vb (jde i (ns.drop i)),[])) (n:=ns.length) ?_ ?_ 0 (jD _)
 .simp only [jP,kg] at key;simp only [jd,e0,key]
 .rw [jDe,j6];simp only [jd,jde]
 .intro i hi ih;have hlt:(i:Int) < ((ns.length:Nat):Int):=by omega
  have h5:=jm hi (by show ns.length<=9223372036854775807;omega)
  have e1:=jqH i (by omega);have e2:=jF5 i (by omega);have ld:kq (.elt (cs ns[i]) 0)=some (sv ns[i]):=rfl;rw [jDe,jh hi,jde];by_cases hc:ns[i]=J1 88 i
  .rw [jW hc,jJ,<-ih];simp only [jd,hlt,ja hi,ld,e1,e2,hc,h5]
  .rw [kA hc,jH];simp only [jd,hlt,ja hi,ld,e1,e2,hc]
theorem yG (c:zg) (hl:c.length<=1048576) (hz:∀l∈c,Tz l.2):G 109 [cm c]=some (vb (jX c),[]):=by
 have e1:=jaO c hl hz;unfold jX;rw [jKu];cases hv:qx c<;>rw [hv] at e1
 .simp only [jd,e1,jH]
 .have e2:=jb9 c (KQ hv).1;simp only [jd,e1,e2,jJ]
theorem qm (c:zg) (hl:c.length<=1048576) (hz:∀l∈c,Tz l.2):G 74 [cm c]=some (vb (jX c),[]):=by
 have e1:=jdS c hl hz;unfold jX;rw [g74];cases hv:qx c<;>rw [hv] at e1
 .simp only [jd,e1,jH]
 .have e2:=jae c (KQ hv).1;simp only [jd,e1,e2,jJ]
abbrev Nm':=List (List UInt8 × List UInt8)
abbrev kn (p:List UInt8 × List UInt8):List A:=[sv p.1,sv p.2]
def yN:Nm'->List UInt8->Option (List UInt8)
 | [],_=>none
 | p::m,n=>if p.1=n then some p.2 else yN m n
theorem jtr (n:List UInt8):∀(m:Nm') (k:Nat),∃j,Jr none (sv n) (m.map kn) k=some ((yN m n).map λr=>(j,sv r))
 | [],k=>⟨0,rfl⟩
 | p::m,k=>by
  rw [kV,yN,Jr,jxP];by_cases h:p.1=n
  .rw [jp h,jW h.symm];exact ⟨k,rfl⟩
  .rw [jq h,kA (λe=>h e.symm)];exact jtr n m (k+1)
theorem jEM (m:Nm') (n:List UInt8):Kq none true true [sv []] (.mp (m.map kn)) (sv n)=some (match yN m n with|some r=> .tup [sv r,vb true]|none=> .tup [sv [],vb false]):=by
 show ((some (m.map kn)).bind λxs=>(Jr none (sv n) xs 0).map (jq2 true true [sv []]))=_;obtain ⟨j,h⟩:=jtr n m 0;rw [yz,h];cases yN m n<;>rfl
theorem jDj {m:Nm'} {n:List UInt8} (h:yN m n=none) (r:List UInt8):jik none (m.map kn) (sv n) (sv r)=some ((m++[(n,r)]).map kn):=by
 obtain ⟨j,h2⟩:=jtr n m 0;show (Jr none (sv n) (m.map kn) 0).map _=_;rw [h2,h,zV];rfl
theorem jgS:∀(m:Nm') (p:List UInt8 × List UInt8) (n:List UInt8),yN (m++[p]) n=(match yN m n with|some r=>some r|none=>if p.1=n then some p.2 else none)
 | [],p,n=>rfl
 | q::m,p,n=>by
  rw [Qn,yN,yN,jgS m p n];by_cases h:q.1=n
  .rw [jp h,jp h]
  .rw [jq h,jq h]
def K3 (p:UInt8):Nat->List (List UInt8)->Nm'
 | _,[]=>[]
 | i,n::r=>(n,J1 p i)::K3 p (i+1) r
theorem jjX (p:UInt8) (n:List UInt8):∀(ns:List (List UInt8)) (k:Nat),yN (K3 p k ns) n=(ns.findIdx? λx=>decide (x=n)).map λi=>J1 p (k+i)
 | [],k=>rfl
 | x::ns,k=>by
  rw [K3,yN,jpn];by_cases h:x=n
  .rw [jp h,jp (jW h)];rfl
  .rw [jq h,jq (by simp [h]),jjX p n ns (k+1),Option.map_map];refine congrArg (λf=>Option.map f _) (funext λi=> ?_);show J1 p (k+1+i)=J1 p (k+(i+1));rw [show k+1+i=k+(i+1) by omega]
theorem jsP (p:UInt8) (ns:List (List UInt8)):(λn=>(yN (K3 p 0 ns) n).getD n)=zx p ns:=by
 funext n;rw [jjX];unfold zx;cases ns.findIdx? (λx=>decide (x=n)) with
 | none=>rfl
 | some i=>show J1 p (0+i)=_;rw [yc]
theorem jrq {p:UInt8} :∀ {ns:List (List UInt8)} {k:Nat},(∀n∈ns,ju n=true)-> ∀q∈K3 p k ns,ju q.1=true
 | [],k,_,q,h=>by cases h
 | x::ns,k,hv,q,h=>by
  rw [K3] at h;rcases kW.1 h with e|e
  .rw [e];exact hv x (by simp)
  .exact jrq (λn hn=>hv n (by simp [hn])) q e
theorem jEE (p:UInt8) (i:Nat) (h:i<=1000000):jr .add false (sv [p]) (sv (Lib.decDigits i))=some (sv (J1 p i)):=by
 rw [jgZ,jp]
 .rfl
 .have:=(KJ 6 i (by omega)).2;simp only [yd,qM];omega
theorem jrJ (p:UInt8) (ns:List (List UInt8)) (hn:ns.Nodup) (hl:ns.length<=1000):G 255 [strs ns,sv [p]]=some (.mp ((K3 p 0 ns).map kn),[]):=by
 have key:=upto (P:=λi=>∀m:Nm',(∀n∈ns.drop i,yN m n=none)->jnP (sv [p]) (strs ns) (vi (ns.length:Nat)) (vi (i:Nat)) (m.map kn)=some (.mp ((m++K3 p i (ns.drop i)).map kn),[])) (n:=ns.length) ?_ ?_ 0 (jD _) [] (λn _=>rfl)
 .rw [kg] at key;simp only [jP,ye,qQ] at key;rw [jL1];simp only [jd,key]
 .intro m _;rw [jzb,j6,K3,JD];simp only [jd]
 .intro i hi ih m hm;have hlt:(i:Int) < ((ns.length:Nat):Int):=by omega
  have h5:=jm hi (by show ns.length<=9223372036854775807;omega)
  have e1:=juQ i (by omega);have e2:=jEE p i (by omega);have ld:kq (.elt (cs ns[i]) 0)=some (sv ns[i]):=rfl;have hd:(ns.drop i).Nodup:=hn.sublist (List.drop_sublist i ns);rw [jh hi] at hm hd ⊢;have pt:=jDj (hm ns[i] (jba ..)) (J1 p i);have ih:=ih (m++[(ns[i],J1 p i)]) λn hn'=>by
   rw [jgS,hm n (JE _ hn')];show (if ns[i]=n then _ else none)=none;rw [jq];rintro e;exact (jho.1 hd).1 (e ▸ hn')
  rw [yf] at ih;rw [jzb,K3];simp only [jd,hlt,ja hi,ld,e1,e2,pt,h5,ih];rfl
theorem jvX {m:Nm'} (hm:∀p∈m,ju p.1=true) {n:List UInt8} (h:ju n=false):yN m n=none:=by
 induction m with
 | nil=>rfl
 | cons p m ih=>
  rw [yN,jq,ih λq hq=>hm q (by simp [hq])];intro e;rw [<-e,hm p (by simp)] at h;cases h
theorem jtF (m:Nm') (hm:∀p∈m,ju p.1=true):∀t:T,Rx' t->Tz t->G 277 [tm t,.mp (m.map kn)]=some (tm (zv (λn=>(yN m n).getD n) t),[]):=by
 refine T.ind λt ih hk ht=> ?_;have hz:=ht;unfold Tz at hz;rw [kQ] at hz;have e0:=jEM m t.name;rw [jMk,jbP];cases hv:ju t.name with
 | true=>
  have ha:=hk.va hv;rw [jp rfl];obtain ⟨n,us⟩:=t;have ha:us = []:=ha;subst ha;have lp:∀x:List UInt8,jgA (.mp (m.map kn)) (.sl 2 []) (vi 0) (vi 0) (sv []) (sv x) [] []=some (.agg [sv x,.sl 2 []],[]):=λx=>by
   rw [jti];simp only [jd]
  have e0:Kq none true true [sv []] (.mp (m.map kn)) (sv n)=some (match yN m n with|some r=> .tup [sv r,vb true]|none=> .tup [sv [],vb false]):=e0;show Option.bind (jeV 2 (.agg [sv n,.sl 2 []])) _=some (A.agg [sv ((yN m n).getD n),.sl 2 []],[]);cases hl:yN m n with
  | none=>
   rw [hl] at e0;have lp:=lp n;simp only [jd,e0,lp,Option.getD_none,jP]
  | some r=>
   rw [hl] at e0;have lp:=lp r;simp only [jd,e0,lp,jk3,jP]
 | false=>
  rw [jvX hm hv] at e0;rw [jq kx];have key:=(upto (P:=λi=>jgA (.mp (m.map kn)) (jQ t.args) (vi (t.args.length:Nat)) (vi i) (sv []) (sv t.name) [] (((t.args.map (zv λn=>(yN m n).getD n)).take i).map jw)=some (tm (.mk t.name (t.args.map (zv λn=>(yN m n).getD n))),[])) (n:=t.args.length) ?_ ?_ 0 (jD _))
  .simp only [jP,Jm,ye] at key;simp only [jd,e0,key]
  .rw [jti,qf (by rw [jM];omega)]
   simp only [jd];rfl
  .intro i hi ih';have hlt:(i:Int) < ((t.args.length:Nat):Int):=by omega
   have h5:=jm hi (by show t.args.length<=9223372036854775807;omega)
   have e2:=ih t.args[i] (jo _) (hk.args _ (jo _)) (ht.args _ (jo _));have hf:jK (i+1) 40=true:=jrk (by omega);have hi2:i < (t.args.map (zv λn=>(yN m n).getD n)).length:=by rw [jM];exact hi
   have hl:(((t.args.map (zv λn=>(yN m n).getD n)).take i).map jw).length=i:=by rw [jM,qe,jM];omega
   have ha:jU (((t.args.map (zv λn=>(yN m n).getD n)).take i).map jw) [[sv (zv (λn=>(yN m n).getD n) t.args[i]).name,jQ (zv (λn=>(yN m n).getD n) t.args[i]).args]]=((t.args.map (zv λn=>(yN m n).getD n)).take (i+1)).map jw:=by
    rw [show [sv (zv (λn=>(yN m n).getD n) t.args[i]).name,jQ (zv (λn=>(yN m n).getD n) t.args[i]).args]=jw (zv (λn=>(yN m n).getD n) t.args[i]) from (zn _).symm,jcf,kh hi2,zV,jex];rfl
   generalize ((t.args.map (zv λn=>(yN m n).getD n)).take i).map jw=R at *;generalize zv (λn=>(yN m n).getD n) t.args[i]=u at *;rw [jti];simp only [jd,hlt,ja hi,jf,e2,hl,hf,ha,h5,ih']
theorem jrI (p:UInt8) (ns:List (List UInt8)) (hv:∀n∈ns,ju n=true) (t:T) (hk:Rx' t) (ht:Tz t):G 277 [tm t,.mp ((K3 p 0 ns).map kn)]=some (tm (zv (zx p ns) t),[]):=by
 rw [jtF _ (jrq hv) t hk ht,jsP]
theorem jqU (p:UInt8) (ns:List (List UInt8)) (hn:ns.length<=1000):∀t:T,Tz t->G 257 [tm t,strs ns,sv [p]]=some (tm (zv (zx p ns) t),[]):=by
 refine T.ind λt ih ht=> ?_;have hz:=ht;unfold Tz at hz;rw [kQ] at hz;have e0:=zy t.name (((kJ t).1 ht.wf).1);rw [jL3,jbP];cases hv:ju t.name<;>rw [hv] at e0
 .rw [jq kx];have key:=(upto (P:=λi=>jnS (strs ns) (sv [p]) (vi i) (sv t.name) (jQ t.args) (sv []) (sv t.name) [] (((t.args.map (zv (zx p ns))).take i).map jw)=some (tm (.mk t.name (t.args.map (zv (zx p ns)))),[])) (n:=t.args.length) ?_ ?_ 0 (jD _))
  .simp only [jP,Jm,ye] at key;simp only [jd,e0,key]
  .rw [jze,qf (by rw [jM];omega)]
   simp only [jd];rfl
  .intro i hi ih';have hlt:(i:Int) < ((t.args.length:Nat):Int):=by omega
   have h5:=jm hi (by show t.args.length<=9223372036854775807;omega)
   have e2:=ih t.args[i] (jo _) (ht.args _ (jo _));have hf:jK (i+1) 40=true:=jrk (by omega);have hi2:i < (t.args.map (zv (zx p ns))).length:=by rw [jM];exact hi
   have hl:(((t.args.map (zv (zx p ns))).take i).map jw).length=i:=by rw [jM,qe,jM];omega
   have ha:jU (((t.args.map (zv (zx p ns))).take i).map jw) [[sv (zv (zx p ns) t.args[i]).name,jQ (zv (zx p ns) t.args[i]).args]]=((t.args.map (zv (zx p ns))).take (i+1)).map jw:=by
    rw [show [sv (zv (zx p ns) t.args[i]).name,jQ (zv (zx p ns) t.args[i]).args]=jw (zv (zx p ns) t.args[i]) from (zn _).symm,jcf,kh hi2,zV,jex];rfl
   generalize ((t.args.map (zv (zx p ns))).take i).map jw=R at *;generalize zv (zx p ns) t.args[i]=u at *;rw [jze];simp only [jd,hlt,ja hi,jf,e2,hl,hf,ha,h5,ih']
 .rw [jp rfl];have key:=(upto (P:=λi=>(∀j,(h:j < i)-> ∀h':j < ns.length,ns[j]≠t.name)->jnR (strs ns) (sv [p]) (vi i) (sv t.name) (jQ t.args) (sv []) []=some (tm (.mk (zx p ns t.name) []),[])) (n:=ns.length) ?_ ?_ 0 (jD _)) (λj h=>by omega)
  .simp only [jP] at key;simp only [jd,e0,key]
  .intro hall;have:zx p ns t.name=t.name:=by
    unfold zx;have:ns.findIdx? (λx=>decide (x=t.name))=none:=by
     rw [List.findIdx?_eq_none_iff];intro x hx;obtain ⟨j,hj,rfl⟩:=jlg.1 hx;simpa using hall j hj hj
    rw [this]
   rw [jzd,this];simp only [jd];rfl
  .intro i hi ih' hall;have hlt:(i:Int) < ((ns.length:Nat):Int):=by omega
   have h5:=jm hi (by show ns.length<=9223372036854775807;omega)
   have ld:kq (.elt (cs ns[i]) 0)=some (sv ns[i]):=rfl;rw [jzd];by_cases he:ns[i]=t.name
   .have e1:=jqH i (by omega);have e2:=jEE p i (by omega);have:zx p ns t.name=J1 p i:=by
     unfold zx;have:ns.findIdx? (λx=>decide (x=t.name))=some i:=by
      rw [jt3];exact ⟨hi,by simp [he],λj hj=>by simpa using hall j hj (by omega)⟩
     rw [this]
    rw [this];simp only [jd,hlt,ja hi,ld,he,e1,e2];rfl
   .have ih':=ih' λj hj hj'=>by
     by_cases h:j=i
     .subst h;exact he
     .exact hall j (by omega) hj'
    simp only [jd,hlt,ja hi,ld,he,h5,ih']
theorem jaU {n:Nat} (h:n<=1000000):jK n 48=true:=by
 unfold jK;exact jW ⟨by omega,by omega⟩
theorem ja3 {α:Type} {f:α->List A} {xs:List α} {i:Nat} (h:i < xs.length):jU ((xs.take i).map f) [f xs[i]]=(xs.take (i+1)).map f:=by
 rw [jcf,kh h,zV];rfl
theorem take_len {α:Type} {f:α->List A} {xs:List α} {i:Nat} (h:i<=xs.length):((xs.take i).map f).length=i:=by rw [jM,qe];omega
noncomputable def eqL (a b:Lt):Bool:=decide (a.1=b.1) && dq a.2 b.2
theorem jbA (a b:Lt):eqL a b=true↔a=b:=by
 obtain ⟨p,t⟩:=a;obtain ⟨q,u⟩:=b;unfold eqL;rw [jy,kK,Ji,Kz]
theorem Qb (a b:Lt) (ha:Tz a.2) (hb:Tz b.2):G 119 [ltm a,ltm b]=some (vb (eqL a b),[]):=by
 have e1:=zQ a.2 ha.wf b.2 hb.wf;unfold eqL;rw [jKy];by_cases h:a.1=b.1
 .rw [jW h,jJ];simp only [jd,h,e1]
 .rw [kA h,jH];simp only [jd,h]
theorem jcX (l:Lt) (h:Tz l.2):G 289 [ltm l]=some (ltm l,[]):=by
 have e1:=Jp l.2 h;rw [jMr];simp only [jd,e1];generalize hB:zo _ _ _=B;have hB':B=some (ltm l):=by rw [<-hB];kernel_rfl
 rw [hB'];simp only [jd]
noncomputable def cpG:Lt->List Lt->List Lt
 | _,[]=>[]
 | p,b::l=>if eqL b p then cpG b l else b::cpG b l
theorem jp3:∀(l:List Lt) (a:Lt),jfv eqL (a::l)=a::cpG a l
 | [],a=>rfl
 | b::l,a=>by
  rw [jfv,jp3 l b,cpG];show (if eqL a b then b::cpG b l else a::b::cpG b l)=_;by_cases h:a=b
  .subst h;rw [jp ((jbA a a).2 rfl),jp ((jbA a a).2 rfl)]
  .rw [jq (λe=>h ((jbA a b).1 e)),jq (λe=>h ((jbA b a).1 e).symm)]
theorem jGh {α:Type} {f:α->List A} {xs:List α} {i:Nat} (h:i < xs.length) (n:Nat):K2 (xs.map f) i 0 n=some (.agg ((f xs[i]).take n)):=by unfold K2;simp [h]
theorem jrO {xs:List Lt} {i:Nat} (h:i < xs.length):K2 (xs.map j8) i 0 3=some (ltm xs[i]):=jGh h 3
theorem jBV {α:Type} {f:α->List A} {xs:List α} {i:Nat} (h:i < xs.length):QI (jl (xs.map f)) (vi (i:Nat))=some i:=by
 rw [jks,jM];exact yp h
theorem jjt {α:Type} {R s:List α} {k i:Nat} (h:R.drop k=s.drop k) (hk:k<=i) (hi:i < R.length) (hs:i < s.length):R[i]=s[i]:=by
 have:=congrArg (λl=>l[i - k]?) h;simp only [jet,show k+(i - k)=i by omega,kh hi,kh hs] at this;exact Yx this
theorem jxF (s:List Lt) (hl:s.length<=1000000) (hz:∀x∈s,Tz x.2) (k:Nat) (hk:k < s.length):∀j,j<=s.length - k->1<=j-> ∀(w:Nat) (R:List Lt),R.length=s.length->R.drop (k+j - 1)=s.drop (k+j - 1)->w+1<=k+j-> ∀p:Lt,(∃h:k+j - 1 < s.length,s[k+j - 1]=p)->
  jcL (vi (w:Nat)) (nA k) (nA (s.length - k)) (vi (j:Nat)) (R.map j8)=some (.top,[.sl 3 ((R.take w++cpG p (s.drop (k+j))).map j8)]):=by
 refine upto ?_ ?_
 .intro _ w R hR hag hw p hp;have hd:s.drop (k+(s.length - k)) = []:=jvs (by omega);have hlt:¬((s.length - k:Nat):Int) < ((s.length - k:Nat):Int):=by omega
  have hlt':jr .lss false (vi ((s.length - k:Nat):Int)) (nA (s.length - k))=some (vb false):=by
   show some (vb (decide _))=_;rw [kA hlt]
  have b1:pB (z6 (R.map j8)) (zG (R.map j8) 0) none=some R.length:=by
   rw [qJ,show zG (R.map j8) 0=R.length by rw [qU,jM];rfl];exact yj (kH _)
  have b2:pB 0 R.length (some (vi (w:Nat)))=some w:=Jj (by omega);have ln:(qc (R.map j8) (0+w) (qV (j5 R.length w) [vb false,sv [],.sl 2 []])).length=R.length:=by
   rw [jaX];simp [qV,qS];omega
  have b3:pB (z6 (qc (R.map j8) (0+w) (qV (j5 R.length w) [vb false,sv [],.sl 2 []]))) (zG (qc (R.map j8) (0+w) (qV (j5 R.length w) [vb false,sv [],.sl 2 []])) 0) (some (vi (w:Nat)))=some w:=by
   rw [joZ,qU,ln];exact Jj (by omega)
  have tk:List.take (j5 w 0) (qc (R.map j8) (0+w) (qV (j5 R.length w) [vb false,sv [],.sl 2 []]))=(R.take w).map j8:=by
   rw [jaX,qS,jeu,yc,yf,jgj (by rw [qe,jM];omega),List.take_take,Nat.min_self,jev]
  have h1:zt (nA (s.length - k))=s.length - k:=rfl;rw [jqP];simp only [cev];rw [hd,cpG,JD,h1,hlt'];simp only [yz,YX,Yz,b1,b2,b3,tk]
 .intro j hj ih hj1 w R hR hag hw p hp;obtain ⟨hp1,hp2⟩:=hp;have hi:k+j < s.length:=by omega
  have hlt':jr .lss false (vi ((j:Nat):Int)) (nA (s.length - k))=some (vb true):=by
   show some (vb (decide (((j:Nat):Int) < ((s.length - k:Nat):Int))))=_;rw [jW (by omega)]
  have h1:zt (nA (s.length - k))=s.length - k:=rfl;have h2:zt (nA k)=k:=rfl;have x1:QI (s.length - k) (vi ((j:Nat):Int))=some j:=yp hj;have c1:jr .sub false (vi ((j:Nat):Int)) (vi 1)=some (vi ((j - 1:Nat):Int)):=by
   rw [jri,show ((j:Nat):Int) - 1=((j - 1:Nat):Int) by omega];exact jZ (by omega) (by omega)
  have x2:QI (s.length - k) (vi ((j - 1:Nat):Int))=some (j - 1):=yp (by omega);have a1:R[k+j]'(by omega)=s[k+j]:=jjt hag (by omega) (by omega) hi;have a2:R[k+(j - 1)]'(by omega)=p:=by
   rw [<-hp2];have:=jjt hag (i:=k+(j - 1)) (by omega) (by omega) (by omega);rw [this];congr 1;omega
  have r1:K2 (R.map j8) (k+j) 0 3=some (ltm s[k+j]):=by rw [jrO (by omega),a1]
  have r2:K2 (R.map j8) (k+(j - 1)) 0 3=some (ltm p):=by rw [jrO (by omega),a2]
  have zp:Tz p.2:=by rw [<-hp2];exact hz _ (jo _)
  have e1:=Qb s[k+j] p (hz _ (jo _)) zp;have h5:jr .add false (vi ((j:Nat):Int)) (vi 1)=some (vi ((j+1:Nat):Int)):=jm (i:=j) (n:=j+1) (by omega) (by omega);have hdr:s.drop (k+j)=s[k+j]::s.drop (k+(j+1)):=jh hi;have hag':R.drop (k+(j+1) - 1)=s.drop (k+(j+1) - 1):=by
   have:=congrArg (List.drop 1) hag;rw [jlf,jlf] at this;rwa [show k+j - 1+1=k+(j+1) - 1 by omega] at this
  have hx:∃h:k+(j+1) - 1 < s.length,s[k+(j+1) - 1]=s[k+j]:=⟨by omega,by congr 1⟩;rw [jqP];simp only [cev];rw [hdr,cpG,h1,h2,hlt'];cases hq:eqL s[k+j] p<;>rw [hq] at e1
  .rw [jq kx];have x3:QI R.length (vi (w:Nat))=some w:=yp (by omega);have rg:jd9 (R.map j8) w=some (j8 (R[w]'(by omega))):=by unfold jd9;simp [show w < R.length by omega]
   have co:∀x y:Lt,Jo (j8 x) 0 [vb y.1,sv y.2.name,jQ y.2.args]=j8 y:=λx y=>rfl;have rs:J6 (R.map j8) w (j8 s[k+j])=(R.set w s[k+j]).map j8:=by unfold J6;rw [jm5]
   have h6:jr .add false (vi ((w:Nat):Int)) (vi 1)=some (vi ((w+1:Nat):Int)):=jm (i:=w) (n:=w+1) (by omega) (by omega);have:=ih (by omega) (w+1) (R.set w s[k+j]) (by rw [jsq];exact hR) (by rw [List.drop_set_of_lt (by omega)];exact hag') (by omega) s[k+j] hx;have tk:(R.set w s[k+j]).take (w+1)=R.take w++[s[k+j]]:=by
    rw [jcf,List.take_set_of_le (kH _),List.getElem?_set_self (by omega)];rfl
   rw [tk,yf] at this;simp only [jd,x1,r1,c1,x2,r2,e1,x3,rg,co,rs,h6,h5];rw [this];rfl
  .rw [jp rfl];have:=ih (by omega) w R hR hag' (by omega) s[k+j] hx;simp only [jd,x1,r1,c1,x2,r2,e1,h5];exact this
theorem jxE (s:List Lt) (hl:s.length<=1000000) (hz:∀x∈s,Tz x.2):∀k,k<=s.length->1<=k-> ∀p:Lt,(∃h:k - 1 < s.length,s[k - 1]=p)->jfe (vi (k:Nat)) (s.map j8)=some (.top,[.sl 3 ((s.take k++cpG p (s.drop k)).map j8)]):=by
 refine upto ?_ ?_
 .intro _ p _;rw [jqO,j6,cpG,JD,jgk];simp only [jd]
 .intro k hk ih hk1 p hp;obtain ⟨hp1,hp2⟩:=hp;have hlt:((k:Nat):Int) < ((s.length:Nat):Int):=by omega
  have x1:QI (jl (s.map j8)) (vi (k:Nat))=some k:=jBV hk;have c1:ck (((k:Nat):Int) - 1)=some (vi ((k - 1:Nat):Int)):=by
   rw [show ((k:Nat):Int) - 1=((k - 1:Nat):Int) by omega];exact jZ (by omega) (by omega)
  have x2:QI (jl (s.map j8)) (vi ((k - 1:Nat):Int))=some (k - 1):=jBV hp1;have r1:=jrO hk;have r2:K2 (s.map j8) (k - 1) 0 3=some (ltm p):=by rw [jrO hp1,hp2]
  have zp:Tz p.2:=by rw [<-hp2];exact hz _ (jo _)
  have e1:=Qb s[k] p (hz _ (jo _)) zp;have h5:=jm hk (by show s.length<=9223372036854775807;omega);rw [jqO,jh hk,cpG];rw [jks,jM] at x1 x2;cases hq:eqL s[k] p<;>rw [hq] at e1
  .have ih:=ih (by omega) s[k] ⟨by omega,by congr 1⟩;rw [jcf,kh hk,yf] at ih;rw [jq kx];simp only [jd,hlt,x1,r1,c1,x2,r2,e1,h5];exact ih
  .have b1:pB (z6 (s.map j8)) (zG (s.map j8) 0) none=some s.length:=by
    rw [qJ,show zG (s.map j8) 0=s.length by rw [qU,jM];rfl];exact yj (kH _)
   have b2:pB 0 s.length (some (vi (k:Nat)))=some k:=Jj (by omega);have:=jxF s hl hz k hk 1 (by omega) (kH _) k s rfl rfl (kH _) s[k] ⟨by omega,rfl⟩;rw [jp rfl];simp only [jd,hlt,x1,r1,c1,x2,r2,e1,b1,b2,qS];exact this
theorem jsV (s:List Lt) (hl:s.length<=1000000) (hz:∀x∈s,Tz x.2):jsD (s.map j8)=some (.top,[.sl 3 ((jfv eqL s).map j8)]):=by
 rw [jD0]
 match s,hl,hz with
 | [],_,_=>simp only [jd];rfl
 | [a],_,_=>simp only [jd];rfl
 | a::b::r,hl,hz=>
  have:=jxE (a::b::r) hl hz 1 (by simp) (kH _) a ⟨by simp,rfl⟩;rw [jp3];have hlt:¬(((a::b::r).length:Nat):Int) < 2:=by simp only [yd];omega
  generalize hx:a::b::r=x at *;simp only [jd,hlt];rw [<-hx] at this ⊢;exact this
theorem jwI (l:List Lt) (hl:l.length<=1000000) (hk:∀x∈l,Rx' x.2) (hz:∀x∈l,Tz x.2):∃s:List Lt,s.Perm l/\s.Pairwise (λa b=>¬cmpL b a < 0)/\jxc (l.map j8)=some (.top,[.sl 3 (s.map j8)]):=by
 obtain ⟨s,h1,h2,h3⟩:=jqc KH id j8 3 185 rfl l (by omega) λx hx y hy=>YP x y (hk x hx) (hz x hx) (hk y hy) (hz y hy);exact ⟨s,h1,h2,by rw [jEp];exact h3⟩
theorem jhG (l:List Lt) (hl:l.length<=1000000) (hk:∀x∈l,Rx' x.2) (hz:∀x∈l,Tz x.2):G 253 [.sl 3 (l.map j8)]=some (cm (qb cmpL l),[]):=by
 obtain ⟨s,h1,h2,h3⟩:=jwI l hl hk hz;have h4:=jsV s (by rw [h1.length_eq];exact hl) λx hx=>hz x (h1.mem_iff.1 hx);rw [jBJ KH jbA h2 λx=>h1.mem_iff] at h4;have key:=upto (P:=λi=>jnN (.sl 3 (l.map j8)) (vi (l.length:Nat)) (vi (i:Nat)) [] ((l.take i).map j8)=some (cm (qb cmpL l),[])) (n:=l.length) ?_ ?_ 0 (jD _)
 .simp only [jP,Jm,ye] at key;rw [jLZ];simp only [jd,key]
 .have r1:∀s:List Lt,hR 3 (A.top,[.sl 3 (s.map j8)]) 0=some (s.map j8):=λs=>rfl;rw [jy9,jgk];simp only [jd,h3,r1,h4]
 .intro i hi ih;have hlt:(i:Int) < ((l.length:Nat):Int):=by omega
  have h5:=jm hi (by show l.length<=9223372036854775807;omega)
  have e1:=jcX l[i] (hz _ (jo _));have ta:=ja3 (f:=j8) hi;have tl:=take_len (f:=j8) (ZQ hi);have hf:jK (i+1) 48=true:=jaU (by omega);generalize (l.take i).map j8=R at *;rw [jy9];simp only [jd,hlt,ja hi,ze,e1,tl,hf,ta,h5,ih]
theorem jls (l:zg) (hl:l.length<=1000000) (hz:∀x∈l,Tz x.2):G 254 [cm l]=some (cm l,[]):=by
 have key:=upto (P:=λi=>jnO (.sl 3 (l.map j8)) (vi (l.length:Nat)) (vi (i:Nat)) [] ((l.take i).map j8)=some (cm l,[])) (n:=l.length) ?_ ?_ 0 (jD _)
 .simp only [jP,Jm,ye] at key;rw [jL0];simp only [jd,key]
 .rw [jza,jgk];simp only [jd]
 .intro i hi ih;have hlt:(i:Int) < ((l.length:Nat):Int):=by omega
  have h5:=jm hi (by show l.length<=9223372036854775807;omega)
  have e1:=jcX l[i] (hz _ (jo _));have ta:=ja3 (f:=j8) hi;have tl:=take_len (f:=j8) (ZQ hi);have hf:jK (i+1) 48=true:=jaU (by omega);generalize (l.take i).map j8=R at *;rw [jza];simp only [jd,hlt,ja hi,ze,e1,tl,hf,ta,h5,ih]
theorem jqu (c:zg) (hl:c.length<=1048576) (hz:∀l∈c,Tz l.2):G 252 [cm c]=Zh (if qx c then some c else none):=by
 have e1:=jaO c hl hz;rw [jLY];cases hv:qx c<;>rw [hv] at e1
 .rw [jq kx];simp only [jd,e1];rfl
 .rw [jp rfl];simp only [jd,e1];rfl
noncomputable def sameC (a b:zg):Bool:=dq a b
theorem jxQ (a b:Lt):dq a b=eqL a b:=by
 cases h:eqL a b with
 | true=>exact Ji.2 ((jbA a b).1 h)
 | false=>exact jjs.2 λe=>by rw [(jbA a b).2 e] at h;cases h
theorem jep (a b:zg) (hl:a.length<=1048576) (ha:∀l∈a,Tz l.2) (hb:∀l∈b,Tz l.2):G 83 [cm a,cm b]=some (vb (dq a b),[]):=by
 rw [g83];have key:G 118 [.sl 3 (a.map j8),.sl 3 (b.map j8),.fn 119 []]=some (vb (dq a b),[]):=by
  rw [jKx];by_cases hlen:a.length=b.length
  .have key:=upto (P:=λi=>jne (.sl 3 (b.map j8)) (.fn 119 []) (.sl 3 (a.map j8)) (vi (a.length:Nat)) (vi (i:Nat))=some (vb (dq (a.drop i) (b.drop i)),[])) (n:=a.length) ?_ ?_ 0 (jD _)
   .simp only [jP,kg] at key;rw [hlen] at key;simp only [jd,hlen,key]
   .rw [jyk,j6,jvs (by omega),jdO];simp only [jd]
   .intro i hi ih;have hi2:i < b.length:=by omega
    have hlt:(i:Int) < ((a.length:Nat):Int):=by omega
    have h5:=jm hi (by show a.length<=9223372036854775807;omega)
    have e1:=Qb a[i] b[i] (ha _ (jo _)) (hb _ (jo _));have hp:K.pureF 119=true:=rfl;have cc:DX.run K (MM K) (.callc (.fn 119 []) [ltm a[i],ltm b[i]] false)=some (vb (eqL a[i] b[i])):=by
     rw [qD hp,JD,e1];rfl
    rw [jyk,jh hi,jh hi2,jis,jxQ];cases hq:eqL a[i] b[i]<;>rw [hq] at cc
    .rw [jH];simp only [jd,hlt,ja hi,ja hi2,ze,cc]
    .rw [jJ];simp only [jd,hlt,ja hi,ja hi2,ze,cc,h5,ih]
  .have hne:¬((a.length:Nat):Int)=((b.length:Nat):Int):=by omega
   rw [jol hlen];simp only [jd,hne]
 simp only [jd,key]
theorem jme (a b:zg) (hl:a.length<=1048576) (ha:∀l∈a,Tz l.2) (hb:∀l∈b,Tz l.2):G 76 [cm a,cm b]=some (vb (dq a b),[]):=by
 rw [g76];by_cases hlen:a.length=b.length
 .have key:=upto (P:=λi=>juj (vi (i:Nat)) (.sl 3 (a.map j8)) (.sl 3 (b.map j8))=some (vb (dq (a.drop i) (b.drop i)),[])) (n:=a.length) ?_ ?_ 0 (jD _)
  .simp only [jP,kg] at key;simp only [jd,hlen,key]
  .rw [jC7,j6,jvs (by omega),jdO];simp only [jd]
  .intro i hi ih;have hi2:i < b.length:=by omega
   have hlt:(i:Int) < ((a.length:Nat):Int):=by omega
   have h5:=jm hi (by show a.length<=9223372036854775807;omega)
   have e1:=Jd a[i].2 (ha _ (jo _)).wf b[i].2 (hb _ (jo _)).wf;have ld:∀l:Lt,kq (.elt (j8 l) 0)=some (vb l.1):=λl=>rfl;have ad:∀(l:Lt) (n:Nat),yI (.elt (j8 l) 0) n=some (.elt (j8 l) n):=λl n=>by rw [qp,yc]
   have ld2:∀l:Lt,ky 2 (.elt (j8 l) 1)=some (tm l.2):=λl=>rfl;rw [jC7,jh hi,jh hi2,jis,jxQ,eqL];by_cases hs:a[i].1=b[i].1
   .rw [jW hs,jJ];cases hq:dq a[i].2 b[i].2<;>rw [hq] at e1
    .rw [jH];simp only [jd,hlt,ja hi,ja hi2,ad,ld,ld2,hs,e1]
    .rw [jJ];simp only [jd,hlt,ja hi,ja hi2,ad,ld,ld2,hs,e1,h5,ih]
   .rw [kA hs,jH,jH];simp only [jd,hlt,ja hi,ja hi2,ad,ld,hs]
 .have hne:¬((a.length:Nat):Int)=((b.length:Nat):Int):=by omega
  rw [jol hlen];simp only [jd,hne]
theorem jDq {α:Type} {p:α->Bool} {l:List α} {k:Nat} (hk:k<=l.length) (h1:∀j,(h:j < k)-> ∀h':j < l.length,p l[j]=true) (h2:(∃h:k < l.length,p l[k]=false)\/k=l.length):l.takeWhile p=l.take k/\l.dropWhile p=l.drop k:=by
 have hp:∀a∈l.take k,p a=true:=λa ha=>by
  obtain ⟨j,hj,rfl⟩:=jlg.1 ha;rw [qe] at hj;rw [List.getElem_take];exact h1 j (by omega) (by omega)
 have e:=List.takeWhile_append_of_pos (l₂:=l.drop k) hp;have e':=List.dropWhile_append_of_pos (l₂:=l.drop k) hp;rw [jew] at e e';rw [e,e'];rcases h2 with ⟨h,h2⟩|h
 .rw [jh h,jsr (by simp [h2]),jvt (by simp [h2]),JD];exact ⟨rfl,rfl⟩
 .rw [h,j6];simp
theorem juN (u:List Lt) (hl:u.length<=900000) (i:Nat) (hi:i<=u.length) (x:Lt) :
  pB (z6 (u.map j8)) (zG (u.map j8) 0) (some (vi (i:Nat)))=some i/\zj (u.map j8) 0 (j5 i 0)=(u.take i).map j8/\jK (u.take i).length 48=true/\pB (z6 (u.map j8)) (zG (u.map j8) 0) none=some u.length/\pB 0 u.length (some (vi (i:Nat)))=some i/\zj (u.map j8) i (j5 u.length i)=(u.drop i).map j8/\
  jK ((u.take i).length+1) 48=true/\jK ((jU ((u.take i).map j8) [j8 x]).length+((u.drop i).map j8).length) 48=true/\jU (jU ((u.take i).map j8) [j8 x]) ((u.drop i).map j8)=(u.take i++x::u.drop i).map j8:=by
 have e1:z6 (u.map j8)=u.length:=qJ j8 u;have e2:zG (u.map j8) 0=u.length:=by rw [qU,jM];rfl
 refine ⟨by rw [e1,e2];exact Jj hi,by rw [jfW,qS,jeu,kg,jev],?_,by rw [e1,e2];exact yj (kH _),Jj hi,?_,?_,?_,?_⟩
 .rw [qe];exact jaU (by omega)
 .rw [jfW,qS,<-jgi,qf (by rw [jM,qR];omega)]
 .rw [qe];exact jaU (by omega)
 .exact jaU (by unfold jU;rw [ym,jM,jM,qe,qR];simp only [yd,qM];omega)
 .unfold jU;rw [zV,yf];rfl
theorem jqX (l:List Lt) (hl:l.length<=1000) (hz:∀x∈l,Tz x.2) (i:Nat) (hi:i < l.length) (u:List Lt) (hu:u.length<=1000) (hzu:∀x∈u,Tz x.2):∀k,k<=u.length->(∀j,(h:j < k)-> ∀h':j < u.length,cmpL u[j] l[i] < 0)->
  ji7 (.sl 3 (l.map j8)) (vi (i:Nat)) (vi (k:Nat)) (u.map j8) []=ZX (.sl 3 (l.map j8)) (vi ((i+1:Nat):Int)) ((jcr cmpL u l[i]).map j8) []:=by
 have h5:=jm hi (by show l.length<=9223372036854775807;omega)
 have ld:∀l:Lt,kq (.elt (j8 l) 0)=some (vb l.1):=λl=>rfl;have ad:∀(l:Lt) (n:Nat),yI (.elt (j8 l) 0) n=some (.elt (j8 l) n):=λl n=>by rw [qp,yc]
 have ld2:∀l:Lt,ky 2 (.elt (j8 l) 1)=some (tm l.2):=λl=>rfl;have e2:=jdh l[i].2 (hz _ (jo _));have hck:ck ((i:Int)+1)=some (vi ((i+1:Nat):Int)):=jZ (by omega) (by omega);refine upto ?_ ?_
 .intro hall;obtain ⟨t1,t2⟩:=jDq (p:=λa=>decide (cmpL a l[i] < 0)) (kH u.length) (λj h h'=>jW (hall j h h')) (Or.inr rfl);obtain ⟨k1,k2,k3,k4,k5,k6,k7,k8,k9⟩:=juN u (by omega) u.length (kH _) l[i];have hins:jcr cmpL u l[i]=u.take u.length++l[i]::u.drop u.length:=by
   unfold jcr;rw [t1,t2,j6,jq (by simp)]
  rw [hins,jzg];simp only [cev];have hlt:jr .lss false (vi (u.length:Nat)) (yX (u.map j8))=some (vb false):=by
   rw [Ys,jM,jfS,kA (by omega)]
  simp only [hlt,yz,jrp,jz7,K5,KU,decide_false,decide_true,jkj,YX,Yz,jfs,ja hi,ad,ld,ld2,jqe];simp only [jd,hlt,ja hi,ad,ld,ld2,e2];generalize hB:zo _ _ _=B;have hB':B=some (ltm l[i]):=by rw [<-hB];kernel_rfl
  rw [hB'];simp only [jd,k1,k2,k4,k5];rw [jp k3,jp k7,k6,jp k8,hck,yz,k9]
 .intro k hk ih hall;have hlt:((k:Nat):Int) < ((u.length:Nat):Int):=by omega
  have x1:QI u.length (vi (k:Nat))=some k:=yp hk;have r1:=jrO hk;have e1:=jem u[k] l[i] (hzu _ (jo _)) (hz _ (jo _));rw [jzg];by_cases hc:cmpL u[k] l[i] < 0
  .have ih:=ih λj h h'=>by
    by_cases hj:j=k
    .subst hj;exact hc
    .exact hall j (by omega) h'
   have hk1:ck ((k:Int)+1)=some (vi ((k+1:Nat):Int)):=jZ (by omega) (by omega);generalize cmpL u[k] l[i]=d at *;simp only [jd,hlt,x1,r1,ja hi,ze,e1,hc,hk1];exact ih
  .obtain ⟨t1,t2⟩:=jDq (p:=λa=>decide (cmpL a l[i] < 0)) (ZQ hk) (λj h h'=>jW (hall j h h')) (Or.inl ⟨hk,kA hc⟩);have hins:jcr cmpL u l[i]=if cmpL u[k] l[i]=0 then u else u.take k++l[i]::u.drop k:=by
    unfold jcr;rw [t1,t2,jh hk];by_cases h0:cmpL u[k] l[i]=0
    .rw [jp h0];exact jp (jW h0)
    .rw [jq h0];exact jq (λe=>h0 (ja7 e))
   rw [hins];by_cases h0:cmpL u[k] l[i]=0
   .rw [jp h0];rw [h0] at e1;simp only [jd,hlt,x1,r1,ja hi,ze,e1,hck]
   .obtain ⟨k1,k2,k3,k4,k5,k6,k7,k8,k9⟩:=juN u (by omega) k (ZQ hk) l[i];rw [jq h0];generalize cmpL u[k] l[i]=d at *;simp only [jd,hlt,x1,r1,ja hi,ze,e1,hc,h0,ad,ld,ld2,e2];generalize hB:zo _ _ _=B;have hB':B=some (ltm l[i]):=by rw [<-hB];kernel_rfl
    rw [hB'];simp only [jd,k1,k2,k4,k5];rw [jp k3,jp k7,k6,jp k8,hck,yz,k9]
theorem jx7 {u:List Lt} (hu:Asc cmpL u) (x:Lt) {y:Lt} :y∈jcr cmpL u x↔y∈u\/y=x:=(jjA KH hu x).2 y
theorem jgP (l:List Lt) (hl:l.length<=900) (hz:∀x∈l,Tz x.2):G 258 [.sl 3 (l.map j8)]=some (cm (qb cmpL l),[]):=by
 have key:=upto (P:=λi=>∀u:List Lt,Asc cmpL u->u.length<=i->(∀x∈u,Tz x.2)->ZX (.sl 3 (l.map j8)) (vi (i:Nat)) (u.map j8) []=some (cm ((l.drop i).foldl (jcr cmpL) u),[])) (n:=l.length) ?_ ?_ 0 (jD _) [] List.Pairwise.nil (kH _) (λx h=>by cases h)
 .rw [kg] at key;simp only [jP,ye] at key;rw [jL4,key];rfl
 .intro u _ _ _;rw [jzf,j6];simp only [jd];rfl
 .intro i hi ih u ha hu hzu;have hlt:(i:Int) < ((l.length:Nat):Int):=by omega
  have:=jqX l (by omega) hz i hi u (by omega) hzu 0 (jD _) (λj h=>absurd h (Nat.not_lt_zero _));simp only [jP] at this;have h2:=ih (jcr cmpL u l[i]) (jjA KH ha l[i]).1 (by have:=jqw cmpL u l[i];omega) λx hx=>by
   rcases (jx7 ha l[i]).1 hx with h|h
   .exact hzu x h
   .rw [h];exact hz _ (jo _)
  rw [jzf,jh hi,K6];simp only [jd,hlt,this,h2]
theorem CN.ren_tz {p:UInt8} (hp:upc p=true) {c:zg} (h:CN c):∀x∈c.map (λl=>(l.1,zv (zx p (zi c)) l.2)),Rx' x.2/\Tz x.2:=λx hx=>⟨(h.ren hp x hx).1.rx,(h.ren hp x hx).1.tz (by have:=(h.ren hp x hx).2;omega)⟩
theorem jen (p:UInt8) (c:zg) (h:CN c) (ns:List (List UInt8)) (hn:∀n∈ns,ju n=true) (hr:∀x∈c.map (λl=>(l.1,zv (zx p ns) l.2)),Rx' x.2/\Tz x.2):G 235 [cm c,.mp ((K3 p 0 ns).map kn)]=some (cm (qb cmpL (c.map λl=>(l.1,zv (zx p ns) l.2))),[]):=by
 have h8:=h.1;have e3:=jhG (c.map λl=>(l.1,zv (zx p ns) l.2)) (by rw [jM];omega) (λx hx=>(hr x hx).1) λx hx=>(hr x hx).2;generalize hd:c.map (λl=>(l.1,zv (zx p ns) l.2))=d at *;have hdl:d.length=c.length:=by rw [<-hd,jM]
 have key:=upto (P:=λi=>jnI (.mp ((K3 p 0 ns).map kn)) (.sl 3 (c.map j8)) (vi (c.length:Nat)) (vi (i:Nat)) ((d.take i).map j8) []=some (cm (qb cmpL d),[])) (n:=c.length) ?_ ?_ 0 (jD _)
 .simp only [jP,Jm,ye] at key;rw [jLQ];simp only [jd,key]
 .rw [jy2,<-hdl,jgk];simp only [jd,e3]
 .intro i hi ih;have hi2:i < d.length:=by omega
  have hlt:(i:Int) < ((c.length:Nat):Int):=by omega
  have h5:=jm hi (by show c.length<=9223372036854775807;omega)
  have e1:=jrI p ns hn c[i].2 (h.rx _ (jo _)) (h.tz _ (jo _));have hdi:d[i]=(c[i].1,zv (zx p ns) c[i].2):=by simp only [<-hd,jex]
  have ta:=ja3 (f:=j8) hi2;have tl:=take_len (f:=j8) (ZQ hi2);have hf:jK (i+1) 48=true:=jaU (by omega);rw [hdi] at ta;generalize (d.take i).map j8=R at *;generalize zv (zx p ns) c[i].2=u at *;rw [jy2];simp only [jd,hlt,ja hi,ze,e1];generalize hB:zo _ _ _=B;have hB':B=some (ltm (c[i].1,u)):=by rw [<-hB];kernel_rfl
  rw [hB'];have hck:ck ((i:Int)+1)=some (vi ((i+1:Nat):Int)):=jZ (by omega) (by omega);simp only [jd,tl,hf,ta,hck,ih]
theorem joI (p:UInt8) (c:zg) (h:CN c) (ns:List (List UInt8)) (hl:ns.length<=1000) (hr:∀x∈c.map (λl=>(l.1,zv (zx p ns) l.2)),Rx' x.2/\Tz x.2):G 216 [cm c,strs ns,sv [p]]=some (cm (qb cmpL (c.map λl=>(l.1,zv (zx p ns) l.2))),[]):=by
 have h8:=h.1;have e3:=jgP (c.map λl=>(l.1,zv (zx p ns) l.2)) (by rw [jM];omega) (λx hx=>(hr x hx).2);generalize hd:c.map (λl=>(l.1,zv (zx p ns) l.2))=d at *;have hdl:d.length=c.length:=by rw [<-hd,jM]
 have key:=upto (P:=λi=>jnD (strs ns) (sv [p]) (vi (i:Nat)) (.sl 3 (c.map j8)) ((d.take i).map j8) []=some (cm (qb cmpL d),[])) (n:=c.length) ?_ ?_ 0 (jD _)
 .simp only [jP,Jm,ye] at key;rw [jLB];simp only [jd,key]
 .rw [jyV,<-hdl,jgk];have hlt:¬((d.length:Nat):Int) < ((c.length:Nat):Int):=by omega
  simp only [jd,hlt,e3]
 .intro i hi ih;have hi2:i < d.length:=by omega
  have hlt:(i:Int) < ((c.length:Nat):Int):=by omega
  have h5:=jm hi (by show c.length<=9223372036854775807;omega)
  have e1:=jqU p ns hl c[i].2 (h.tz _ (jo _));have hdi:d[i]=(c[i].1,zv (zx p ns) c[i].2):=by simp only [<-hd,jex]
  have ta:=ja3 (f:=j8) hi2;have tl:=take_len (f:=j8) (ZQ hi2);have hf:jK (i+1) 48=true:=jaU (by omega);have ld:∀l:Lt,kq (.elt (j8 l) 0)=some (vb l.1):=λl=>rfl;have ad:∀(l:Lt) (n:Nat),yI (.elt (j8 l) 0) n=some (.elt (j8 l) n):=λl n=>by rw [qp,yc]
  have ld2:∀l:Lt,ky 2 (.elt (j8 l) 1)=some (tm l.2):=λl=>rfl;rw [hdi] at ta;generalize (d.take i).map j8=R at *;generalize zv (zx p ns) c[i].2=u at *;rw [jyV];simp only [jd,hlt,ja hi,ad,ld,ld2,e1];generalize hB:zo _ _ _=B;have hB':B=some (ltm (c[i].1,u)):=by rw [<-hB];kernel_rfl
  rw [hB'];have hck:ck ((i:Int)+1)=some (vi ((i+1:Nat):Int)):=jZ (by omega) (by omega);simp only [jd,tl,hf,ta,hck,ih]
theorem jg9 (p:UInt8) (hp:upc p=true) (c:zg) (h:CN c):G 235 [cm c,.mp ((K3 p 0 (zi c)).map kn)]=some (cm (renC p c),[]):=jen p c h (zi c) (λn=>jeQ) (h.ren_tz hp)
theorem jhO (p:UInt8) (hp:upc p=true) (c:zg) (h:CN c):G 216 [cm c,strs (zi c),sv [p]]=some (cm (renC p c),[]):=joI p c h (zi c) (by have:=Ke h;omega) (h.ren_tz hp)
theorem jml (c:zg) (h:CN c):G 186 [cm c]=some (strs (zi c),[]):=jj4 c (by have:=h.1;omega) h.rx h.tz λl hl=>by have:=(h.2 l hl).2;omega
theorem jmm (c:zg) (h:CN c):G 139 [cm c]=some (strs (zi c),[]):=jjS c (by have:=h.1;omega) h.tz λl hl=>by have:=(h.2 l hl).2;omega
theorem jj7:∀(k i:Nat),k+i=10-> ∀c:zg,CN c->jny (vi (i:Nat)) (.sl 3 (c.map j8)) []=some (cm (normF k c),[])
 | 0,i,hk,c,h=>by
  have hi:((i:Nat):Int)=10:=by omega
  rw [jyQ,normF,hi];simp only [jd]
 | k+1,i,hk,c,h=>by
  have hlt:((i:Nat):Int) < 10:=by omega
  have e1:=jb9 c h;rw [jyQ,normF];cases hn:KM c<;>rw [hn] at e1
  .have hl:=Ke h;have e2:=jml c h;have e3:=jrJ 88 (zi c) (jbJ c) (by omega);have e4:=jg9 88 (by decide) c h;have hck:ck ((i:Int)+1)=some (vi ((i+1:Nat):Int)):=jZ (by omega) (by omega);have ih:=jj7 k (i+1) (by omega) (renC 88 c) (h.renC (by decide));rw [jq kx];simp only [jd,hlt,e1,e2,e3,e4,hck,ih]
  .rw [jp rfl];simp only [jd,hlt,e1]
theorem joQ (c:zg) (h:CN c):G 206 [cm c]=some (cm (normC c),[]):=by
 have e1:=jls c (by have:=h.1;omega) h.tz
 have e2:=jj7 10 0 rfl c h;simp only [jP] at e2;rw [jLs];simp only [jd,e1,e2];rfl
theorem jj8:∀(k i:Nat),k+i=10-> ∀c:zg,CN c->jnF (vi (i:Nat)) (.sl 3 (c.map j8)) []=some (.tup [cm (normF k c),vb (qx (normF k c))],[])
 | 0,i,hk,c,h=>by
  have hi:((i:Nat):Int)=10:=by omega
  have e0:=jdS c (by have:=h.1;omega) h.tz
  rw [jyX,normF,hi];simp only [jd,e0]
 | k+1,i,hk,c,h=>by
  have hlt:((i:Nat):Int) < 10:=by omega
  have e0:=jdS c (by have:=h.1;omega) h.tz
  have e1:=jae c h;rw [jyX,normF];cases hn:KM c<;>rw [hn] at e1
  .have e2:=jmm c h;have e4:=jhO 88 (by decide) c h;have hck:ck ((i:Int)+1)=some (vi ((i+1:Nat):Int)):=jZ (by omega) (by omega);have ih:=jj8 k (i+1) (by omega) (renC 88 c) (h.renC (by decide));rw [jq kx];simp only [jd,hlt,e1,e2,e4,hck,ih]
  .rw [jp rfl];simp only [jd,hlt,e1,e0]
theorem jqY (c:zg) (h:CN c) (ha:Asc cmpL c):G 220 [cm c]=some (.tup [cm (normC c),vb (qx (normC c))],[]):=by
 have e1:=jgP c (by have:=h.1;omega) h.tz
 rw [jq3 ha] at e1;have e2:=jj8 10 0 rfl c h;simp only [jP] at e2;rw [jLF];simp only [jd,e1,e2];rfl
end Go.Proofs.YtoaifmomhaneiaaGreatDoor
