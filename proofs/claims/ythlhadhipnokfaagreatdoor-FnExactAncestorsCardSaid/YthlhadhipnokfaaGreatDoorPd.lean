/- Pd -/
import Derived.Test.YthlhadhipnokfaaGreatDoorPb
import Derived.Test.YthlhadhipnokfaaGreatDoorPa
namespace Go.Proofs.YthlhadhipnokfaaGreatDoor
open Go Go.RowKit Go.Proofs.YthlhadhipnokfaaGreatDoor.Abs
set_option linter.unusedSimpArgs false
set_option linter.unusedVariables false
set_option maxHeartbeats 1000000
theorem jh8(t:T)(h:okT t=true\/t.name=[61]):G 197 [tm t]=some (vb (jgk t.name),[]):=by
 rcases h with h|h
 .exact jjW t h
 .have e1:=jng 61;have hx:Yk (sv t.name) (vi 0)=some (vy ((61:UInt8).toNat:Int)):=by rw[h];exact jia
  have hv:jgk t.name=upc 61:=by rw[h];decide
  rw[jHN,hv];simp only[evz,hx,e1]
theorem jld(x y:Xb):jg0 x y=if sLt x y then -1 else if sLt y x then 1 else 0:=by
 have hf:=jjl.flip x y;cases h1:sLt x y with
 |true=>unfold jg0;rw[h1];rfl
 |false=>
  rw[ja0 Bool.false_ne_true];cases h2:sLt y x with
  |true=>
   have:jg0 y x = -1:=by unfold jg0;rw[h2,jbZ rfl]
   rw[jbZ rfl];omega
  |false=>
   rw[ja0 Bool.false_ne_true];have a1:jg0 x y=0\/jg0 x y=1:=by
    unfold jg0;rw[h1,ja0 Bool.false_ne_true];split<;>simp
   have a2:jg0 y x=0\/jg0 y x=1:=by
    unfold jg0;rw[h2,ja0 Bool.false_ne_true];split<;>simp
   omega
theorem joO(b:Bool)(x y:Xb):jdl .gtr b (sv x) (sv y)=some (vb (sLt y x)):=by
 show some (vb (!(sLt x y || decide (x=y))))=_;by_cases e:x=y
 .subst e;rw[jlr,decide_eq_true rfl];rfl
 have h1:=jld x y;have h3:=jjl.flip x y;have h4:=jld y x;rw[decide_eq_false e,Bool.or_false];cases a:sLt x y<;>cases c:sLt y x<;>rw[a,c]at h1 h4
 .exact absurd ((jjl.zero x y).1 h1) e
 .rfl
 .rfl
 .have h1:jg0 x y = -1:=h1;have h4:jg0 y x = -1:=h4;omega
theorem jlX(x y:Xb):G 223 [sv x,sv y]=some (vi (jg0 x y),[]):=by
 have n1:G 265 [sv x]=some (vb false,[]):=by rw[jHT];simp only[evz]
 have n2:G 265 [sv y]=some (vb false,[]):=by rw[jHT];simp only[evz]
 rw[jKh,jld];cases h1:sLt x y<;>cases h2:sLt y x<;>simp only[evz,n1,n2,joO,h1,h2]
theorem jo1(x y:Nat):G 186 [vi (x:Nat),vi (y:Nat)]=some (vi (jg1 x y),[]):=by
 have n1:G 102 [vi (x:Nat)]=some (vb false,[]):=by rw[jHE];simp only[evz]
 have n2:G 102 [vi (y:Nat)]=some (vb false,[]):=by rw[jHE];simp only[evz]
 rw[jJN];unfold jg1;by_cases h1:x<y
 .have h1':((x:Nat):Int)<((y:Nat):Int):=by omega
  rw[jbZ h1];simp only[evz,n1,n2,h1']
 .have h1':¬((x:Nat):Int)<((y:Nat):Int):=by omega
  rw[ja0 h1];by_cases h2:y<x
  .have h2':((y:Nat):Int)<((x:Nat):Int):=by omega
   rw[jbZ h2];simp only[evz,n1,n2,h1',h2']
  .have h2':¬((y:Nat):Int)<((x:Nat):Int):=by omega
   rw[ja0 h2];simp only[evz,n1,n2,h1',h2']
theorem jCF(a b:Int):G 184 [.sl 1 [[vi a],[vi b]]]=some (vi (if a≠0 then a else b),[]):=by
 have i0:kL 1 (.sl 1 [[vi a],[vi b]]) (vi 0)=some (.elt [vi a] 0):=rfl;have i1:kL 1 (.sl 1 [[vi a],[vi b]]) (vi 1)=some (.elt [vi b] 0):=rfl;have ll:jcV (.sl 1 [[vi a],[vi b]])=some (vi 2):=rfl;have c0:jdl .add false (vi 0) (vi 1)=some (vi 1):=by rw[ji8,jgA (by decide) (by decide)];rfl
 have c1:jdl .add false (vi 1) (vi 1)=some (vi 2):=by rw[ji8,jgA (by decide) (by decide)];rfl
 have z0:(0:Int)<2:=by decide
 have z1:(1:Int)<2:=by decide
 have z2:¬(2:Int)<2:=by decide
 generalize A.sl 1 [[vi a],[vi b]]=X at *;have k2:jp1 (vi 0) X (vi 2) (vi 2)=some (vi 0,[]):=by rw[jwS];simp only[evz,z2]
 have k1:jp1 (vi 0) X (vi 2) (vi 1)=some (vi b,[]):=by
  rw[jwS];by_cases hb:b=0
  .simp only[evz,z1,i1,hb,c1,k2]
  .simp only[evz,z1,i1,hb]
 rw[jJL];simp only[cev];rw[ll,Option.bind_some,jwS];by_cases ha:a=0
 .rw [ja0 (λh=>h ha)];simp only[evz,z0,i0,ha,c0,k1]
 .rw [jbZ ha];simp only[evz,z0,i0,ha]
def Rx'(t:T):Prop:=okT t=true\/(t.name=[61]/\ ∀u∈t.args,okT u=true)
theorem Rx'.args{t:T}(h:Rx' t):∀u∈t.args,Rx' u:=λu hu=>Or.inl (by
 rcases h with h|h
 .exact jgQ h u hu
 .exact h.2 u hu)
theorem joE(ts us:Xg)(hl:ts.length<=1048576)(hlen:ts.length=us.length)(ih:∀t∈ts,∀u∈us,G 185 [tm t,tm u]=some (vi (jhE t u),[])) :
  ∀i,i<=ts.length->js3 (tms ts) (tms us) (.fn 185 []) (tms ts) (vi (ts.length:Nat)) (vi (i:Nat))=some (vi (jhn (ts.drop i) (us.drop i)),[]):=by
 refine upto ?_ ?_
 .rw [jBN,List.drop_length,jhn];simp only[evz,hlen]
 .intro i hi ih';have hlt:(i:Int)<((ts.length:Nat):Int):=by omega
  have hi2:i<us.length:=by omega
  have hge:¬((us.length:Nat):Int)<=(i:Int):=by omega
  have h5:=jgj hi (by show ts.length<=9223372036854775807;omega)
  have e1:=ih ts[i] (jfL _) us[i] (jfL _);rw[jBN,jgg hi,jgg hi2,jhn];by_cases hc:jhE ts[i] us[i]=0
  .rw [ja0 (λh=>h hc)];rw[hc]at e1;simp only[evz,hlt,jfY hi,jfY hi2,jga,hge,jhU (f:=185) rfl,jf4,e1,h5,ih']
  .rw [jbZ hc];generalize jhE ts[i] us[i]=c at *;simp only[evz,hlt,jfY hi,jfY hi2,jga,hge,jhU (f:=185) rfl,jf4,e1,hc]
theorem jpj:∀a:T,Rx' a->Tz a-> ∀b:T,Rx' b->Tz b->G 185 [tm a,tm b]=some (vi (jhE a b),[]):=by
 refine T.ind λa ih ha za b hb zb=>?_;have va:=jh8 a (ha.imp id λh=>h.1);have vb':=jh8 b (hb.imp id λh=>h.1);have hz:=za;unfold Tz at hz;rw[jgL]at hz;have e1:=jlX a.name b.name;have e2:=jo1 a.args.length b.args.length;have e3:=jCF (jg0 a.name b.name) (jg1 a.args.length b.args.length);have e4:a.args.length=b.args.length->G 224 [tms a.args,tms b.args,.fn 185 []]=some (vi (jhn a.args b.args),[]):=λhlen=>by
  have key:=joE a.args b.args (by omega) hlen (λt ht u hu=>ih t ht (ha.args t ht) (za.args t ht) u (hb.args u hu) (zb.args u hu)) 0 (Nat.zero_le _);simp only[Int.natCast_zero,List.drop_zero]at key;rw[jKi];simp only[evz,key]
 rw[jJM,jkk];unfold cK jhS vF;cases h1:jgk a.name<;>cases h2:jgk b.name<;>rw[h1]at va<;>rw[h2]at vb'
 .show _=some (vi (if(if jg1 1 1≠0 then jg1 1 1 else if jg0 a.name b.name≠0 then jg0 a.name b.name else jg1 a.args.length b.args.length)≠0 then(if jg1 1 1≠0 then jg1 1 1 else if jg0 a.name b.name≠0 then jg0 a.name b.name else jg1 a.args.length b.args.length)else jhn a.args b.args),[]);rw[ja0 (show ¬jg1 1 1≠0 by decide)];by_cases hz0:(if jg0 a.name b.name≠0 then jg0 a.name b.name else jg1 a.args.length b.args.length)=0
  .have hlen:a.args.length=b.args.length:=by
    split at hz0
    .rename_i h;exact absurd hz0 h
    .exact (jlV.zero _ _).1 hz0
   rw[ja0 (λh=>h hz0)];rw[hz0]at e3;simp only[evz,va,vb',e1,e2,e3,e4 hlen]
  .rw [jbZ hz0];generalize (if jg0 a.name b.name≠0 then jg0 a.name b.name else jg1 a.args.length b.args.length)=c at *;simp only[evz,va,vb',e1,e2,e3,hz0]
 .have:(if(if jg1 1 0≠0 then jg1 1 0 else if jg0 a.name b.name≠0 then jg0 a.name b.name else jg1 a.args.length b.args.length)≠0 then(if jg1 1 0≠0 then jg1 1 0 else if jg0 a.name b.name≠0 then jg0 a.name b.name else jg1 a.args.length b.args.length)else jhn a.args b.args)=1:=by
   rw[jbZ (show jg1 1 0≠0 by decide),jbZ (show jg1 1 0≠0 by decide)];rfl
  show _=some (vi (if(if jg1 1 0≠0 then jg1 1 0 else if jg0 a.name b.name≠0 then jg0 a.name b.name else jg1 a.args.length b.args.length)≠0 then(if jg1 1 0≠0 then jg1 1 0 else if jg0 a.name b.name≠0 then jg0 a.name b.name else jg1 a.args.length b.args.length)else jhn a.args b.args),[]);rw[this];simp only[evz,va,vb']
 .have:(if(if jg1 0 1≠0 then jg1 0 1 else if jg0 a.name b.name≠0 then jg0 a.name b.name else jg1 a.args.length b.args.length)≠0 then(if jg1 0 1≠0 then jg1 0 1 else if jg0 a.name b.name≠0 then jg0 a.name b.name else jg1 a.args.length b.args.length)else jhn a.args b.args) = -1:=by
   rw[jbZ (show jg1 0 1≠0 by decide),jbZ (show jg1 0 1≠0 by decide)];rfl
  show _=some (vi (if(if jg1 0 1≠0 then jg1 0 1 else if jg0 a.name b.name≠0 then jg0 a.name b.name else jg1 a.args.length b.args.length)≠0 then(if jg1 0 1≠0 then jg1 0 1 else if jg0 a.name b.name≠0 then jg0 a.name b.name else jg1 a.args.length b.args.length)else jhn a.args b.args),[]);rw[this];simp only[evz,va,vb']
 .show _=some (vi (if(if jg1 0 0≠0 then jg1 0 0 else if jg0 a.name b.name≠0 then jg0 a.name b.name else jg1 a.args.length b.args.length)≠0 then(if jg1 0 0≠0 then jg1 0 0 else if jg0 a.name b.name≠0 then jg0 a.name b.name else jg1 a.args.length b.args.length)else jhn a.args b.args),[]);rw[ja0 (show ¬jg1 0 0≠0 by decide)];by_cases hz0:(if jg0 a.name b.name≠0 then jg0 a.name b.name else jg1 a.args.length b.args.length)=0
  .have hlen:a.args.length=b.args.length:=by
    split at hz0
    .rename_i h;exact absurd hz0 h
    .exact (jlV.zero _ _).1 hz0
   rw[ja0 (λh=>h hz0)];rw[hz0]at e3;simp only[evz,va,vb',e1,e2,e3,e4 hlen]
  .rw [jbZ hz0];generalize (if jg0 a.name b.name≠0 then jg0 a.name b.name else jg1 a.args.length b.args.length)=c at *;simp only[evz,va,vb',e1,e2,e3,hz0]
theorem jy8(x y:Xb):G 170 [sv x,sv y]=some (vi (jg0 x y),[]):=by
 rw[jJB,jld];cases h1:sLt x y<;>cases h2:sLt y x<;>simp only[evz,joO,h1,h2]
theorem jqJ(n m:Xb)(ts us:Xg)(hl:ts.length<=1048576)(hlen:ts.length=us.length)(ih:∀t∈ts,∀u∈us,G 144 [tm t,tm u]=some (vi (jhE t u),[])) :
  ∀i,i<=ts.length->jpV (vi (i:Nat)) (sv n) (tms ts) (sv m) (tms us)=some (vi (jhn (ts.drop i) (us.drop i)),[]):=by
 refine upto ?_ ?_
 .rw [jBk,List.drop_length,jhn];simp only[evz]
 .intro i hi ih';have hlt:(i:Int)<((ts.length:Nat):Int):=by omega
  have hi2:i<us.length:=by omega
  have h5:=jgj hi (by show ts.length<=9223372036854775807;omega)
  have e1:=ih ts[i] (jfL _) us[i] (jfL _);rw[jBk,jgg hi,jgg hi2,jhn];by_cases hc:jhE ts[i] us[i]=0
  .rw [ja0 (λh=>h hc)];rw[hc]at e1;simp only[evz,hlt,jfY hi,jfY hi2,jga,e1,h5,ih']
  .rw [jbZ hc];generalize jhE ts[i] us[i]=c at *;simp only[evz,hlt,jfY hi,jfY hi2,jga,e1,hc]
theorem jwG(a b:T):jhE a b=if jgk a.name=true/\jgk b.name=false then -1 else if jgk a.name=false/\jgk b.name=true then 1 else if ¬a.name=b.name then jg0 a.name b.name else if a.args.length<b.args.length then -1 else if b.args.length<a.args.length then 1 else jhn a.args b.args:=by
 rw[jkk];unfold cK jhS vF;have hn:=jjl.zero a.name b.name;have hzr:jg1 1 1=0/\jg1 0 0=0/\jg1 0 1 = -1/\jg1 1 0=1:=by decide
 obtain⟨z1,z2,z3,z4⟩:=hzr;have hz:jg1 a.args.length b.args.length=if a.args.length<b.args.length then -1 else if b.args.length<a.args.length then 1 else 0:=rfl;cases h1:jgk a.name<;>cases h2:jgk b.name<;>simp only[jfB,jer,if_false,z1,z2,z3,z4,hz]
 all_goals have hs:=(jjl.zero b.name b.name).2 rfl
 all_goals by_cases e:a.name=b.name
 all_goals by_cases l1:a.args.length<b.args.length
 all_goals by_cases l2:b.args.length<a.args.length
 all_goals first
  |(simp[e,hs,l1,l2];done)
  |(have ne:¬jg0 a.name b.name=0:=λh=>e (hn.1 h);simp only[ne_eq,e,ne,not_false_eq_true,not_true_eq_false,jer,if_false,and_true,and_false,reduceCtorEq];done)
  |simp[l1,l2]
theorem jtO:∀a:T,Tz a-> ∀b:T,Tz b->G 144 [tm a,tm b]=some (vi (jhE a b),[]):=by
 refine T.ind λa ih za b zb=>?_;have va:=jg9 a.name (((jgK a).1 za.wf).1);have vb':=jg9 b.name (((jgK b).1 zb.wf).1);have hz:=za;unfold Tz at hz;rw[jgL]at hz;have e1:=jy8 a.name b.name;have e4:a.args.length=b.args.length->jpV (vi 0) (sv a.name) (tms a.args) (sv b.name) (tms b.args)=some (vi (jhn a.args b.args),[]):=λhlen=>by
  have key:=jqJ a.name b.name a.args b.args (by omega) hlen (λt ht u hu=>ih t ht (za.args t ht) u (zb.args u hu)) 0 (Nat.zero_le _);simp only[Int.natCast_zero,List.drop_zero]at key;exact key
 rw[jJi,jwG];have main:∀p:Bool,G 168 [sv a.name]=some (vb p,[])->G 168 [sv b.name]=some (vb p,[])->_:=λp _ _=>trivial;clear main;cases h1:jgk a.name<;>cases h2:jgk b.name<;>rw[h1]at va<;>rw[h2]at vb'
 all_goals by_cases en:a.name=b.name
 all_goals try (exfalso;rw[en,h2]at h1;cases h1;done)
 all_goals by_cases l1:a.args.length<b.args.length
 all_goals by_cases l2:b.args.length<a.args.length
 all_goals have l1':(((a.args.length:Nat):Int)<((b.args.length:Nat):Int))=(a.args.length<b.args.length):=propext (by omega)
 all_goals have l2':(((b.args.length:Nat):Int)<((a.args.length:Nat):Int))=(b.args.length<a.args.length):=propext (by omega)
 all_goals first
  |(have e4:=e4 (by omega);rw[en]at e4;simp only[evz,vb',en,l1,l2,l1',l2',e4,and_true,and_false];done)
  |(simp only[evz,va,vb',e1,en,l1,l2,l1',l2',and_true,and_false];done)
  |(simp only[evz,va,vb',e1,en,l1,l2,l1',l2',and_true,true_and,and_false,false_and])
abbrev ltc(l:Lt):Xd:=[vb l.1,sv l.2.name,.sl 2 (l.2.args.map jgi)]
abbrev ltm(l:Lt):A:= .agg [vb l.1,sv l.2.name,.sl 2 (l.2.args.map jgi)]
theorem jx8(b:Bool):G 187 [vb b]=some (vi (fl b:Nat),[]):=by
 rw[jJO];cases b<;>simp only[evz]<;>rfl
theorem jjT(a b:Lt)(ha:Rx' a.2)(za:Tz a.2)(hb:Rx' b.2)(zb:Tz b.2):G 154 [ltm a,ltm b]=some (vi (cmpL a b),[]):=by
 have e1:=jpj a.2 ha za b.2 hb zb;have e2:=jx8 a.1;have e3:=jx8 b.1;have e4:=jo1 (fl a.1) (fl b.1);have e5:=jCF (jhE a.2 b.2) (jg1 (fl a.1) (fl b.1));have e6:cmpL a b=if jhE a.2 b.2≠0 then jhE a.2 b.2 else jg1 (fl a.1) (fl b.1):=rfl;rw[jJo,e6];generalize (if jhE a.2 b.2≠0 then jhE a.2 b.2 else jg1 (fl a.1) (fl b.1))=c at *;generalize jg1 (fl a.1) (fl b.1)=d at *;generalize jhE a.2 b.2=f at *;simp only[evz,e1,e2,e3,e4,e5]
theorem jmZ(a b:Lt)(za:Tz a.2)(zb:Tz b.2):G 113 [ltm a,ltm b]=some (vi (cmpL a b),[]):=by
 have e1:=jtO a.2 za b.2 zb;have e6:cmpL a b=if jhE a.2 b.2≠0 then jhE a.2 b.2 else jg1 (fl a.1) (fl b.1):=rfl;rw[jI0,e6];by_cases h:jhE a.2 b.2=0
 .rw [ja0 (λh'=>h' h)];rw[h]at e1;obtain⟨p,t⟩:=a;obtain⟨q,u⟩:=b;have d1:jg1 (fl false) (fl true) = -1:=by decide
  have d2:jg1 (fl true) (fl false)=1:=by decide
  have d3:jg1 (fl true) (fl true)=0:=by decide
  have d4:jg1 (fl false) (fl false)=0:=by decide
  cases p<;>cases q<;>simp only[evz,e1,d1,d2,d3,d4]
 .rw [jbZ h];generalize jhE a.2 b.2=c at *;simp only[evz,e1,h]
open Go Go.RowKit Go.ChangeShapes Go.Deep Go.Proofs.YthlhadhipnokfaaGreatDoor.Abs
section
variable{P:Program}{t:Nat}{H:Type}{enc:TypeId×Value->H}{w:World}{base:Nat}{spare:Nat->Bool}{held:Bool}{fuel:Nat}{cs:Xh}{x:DataW H×List MemPlace}
theorem jxz{α β γ δ:Type}{g0:α->Xd}{g1:β->Xd}{g2:γ->Xd}{g3:δ->Xd}{p0:α->Prop}{p1:β->Prop}{p2:γ->Prop}{p3:δ->Prop}{f0 f1 f2 f3:Field}{k0 k1 k2 k3:Nat}(ht:P.underlying t=some (.struct #[f0,f1,f2,f3]))
  (o0:f0.offset=0) (o1:f1.offset=k0) (o2:f2.offset=k0+k1) (o3:f3.offset=k0+k1+k2) (c0:P.cellsOf f0.type=k0) (c1:P.cellsOf f1.type=k1) (c2:P.cellsOf f2.type=k2) (c3:P.cellsOf f3.type=k3) (c:P.cellsOf t=k0+k1+k2+k3)
  (h0:∀n cs x,n<fuel->DataW.trod enc P w base spare held n f0.type cs=some x-> ∃a,p0 a/\je w (λ_=>False) (g0 a) cs/\jd cs)
  (h1:∀n cs x,n<fuel->DataW.trod enc P w base spare held n f1.type cs=some x-> ∃a,p1 a/\je w (λ_=>False) (g1 a) cs/\jd cs)
  (h2:∀n cs x,n<fuel->DataW.trod enc P w base spare held n f2.type cs=some x-> ∃a,p2 a/\je w (λ_=>False) (g2 a) cs/\jd cs)
  (h3:∀n cs x,n<fuel->DataW.trod enc P w base spare held n f3.type cs=some x-> ∃a,p3 a/\je w (λ_=>False) (g3 a) cs/\jd cs)
  (h:DataW.trod enc P w base spare held fuel t cs=some x):∃a b d e,p0 a/\p1 b/\p2 d/\p3 e/\je w (λ_=>False) (g0 a++g1 b++g2 d++g3 e) cs/\jd cs:=by
 obtain⟨xs,n,hfn,rfl,hl,hlen,hf⟩:=DataW.trod_struct ht h;have e0:=hf 0 f0 rfl;have e1:=hf 1 f1 rfl;have e2:=hf 2 f2 rfl;have e3:=hf 3 f3 rfl;rw[o0,c0]at e0;rw[o1,c1]at e1;rw[o2,c2]at e2;rw[o3,c3]at e3;have hlen:xs.length=4:=hlen;have hx0:xs[0]? = some xs[0]:=jam (by omega);have hx1:xs[1]? = some xs[1]:=jam (by omega);have hx2:xs[2]? = some xs[2]:=jam (by omega);have hx3:xs[3]? = some xs[3]:=jam (by omega);rw[hx0]at e0;rw[hx1]at e1;rw[hx2]at e2;rw[hx3]at e3;obtain⟨a,q1,q2,q3⟩:=h0 n _ _ (by omega) e0;obtain⟨b,r1,r2,r3⟩:=h1 n _ _ (by omega) e1;obtain⟨d,s1,s2,s3⟩:=h2 n _ _ (by omega) e2;obtain⟨f,u1,u2,u3⟩:=h3 n _ _ (by omega) e3;have e:cs=(cs.drop 0).take k0++(cs.drop k0).take k1++(cs.drop (k0+k1)).take k2++(cs.drop (k0+k1+k2)).take k3:=by
  rw[jfU (l:=cs.drop (k0+k1+k2)) (by simp;omega),List.drop_zero,jet,<-List.drop_drop (i:=k2),jfK,jet,<-List.drop_drop,jfK,jfK]
 rw[e];exact⟨a,b,d,f,q1,r1,s1,u1,jA (jA (jA q2 r2) s2) u2,jd.append (jd.append (jd.append q3 r3) s3) u3⟩
end
abbrev clc(c:Cls):Xd:=[.sl 3 (c.map ltc)]
structure Stp where
 rule:Int
 par:Xi
 whr:Xi
 cls:Cls
abbrev stc(s:Stp):Xd:=[vi s.rule,ints s.par,ints s.whr,.sl 3 (s.cls.map ltc)]
abbrev stm(s:Stp):A:= .agg [vi s.rule,ints s.par,ints s.whr,.sl 3 (s.cls.map ltc)]
structure Prf where
 ax:List Cls
 st:List Stp
abbrev cls(l:List Cls):A:= .sl 1 (l.map clc)
abbrev jhT(l:List Stp):A:= .sl 4 (l.map stc)
abbrev prc(p:Prf):Xd:=[cls p.ax,jhT p.st]
abbrev prm(p:Prf):A:= .agg [cls p.ax,jhT p.st]
structure Sch where
 prf:Prf
 act:Xi
 pas:Xi
 lost:Bool
abbrev scc(s:Sch):Xd:=[cls s.prf.ax,jhT s.prf.st,ints s.act,ints s.pas,vb s.lost]
abbrev scm(s:Sch):A:= .agg [cls s.prf.ax,jhT s.prf.st,ints s.act,ints s.pas,vb s.lost]
def iwf(l:Xi):Prop:=(∀x∈l,I64 x)/\l.length<=9223372036854775807
def cwf(c:Cls):Prop:=(∀l∈c,twf l.2)/\c.length<=9223372036854775807
def swf(s:Stp):Prop:=I64 s.rule/\iwf s.par/\iwf s.whr/\cwf s.cls
def pwf(p:Prf):Prop:=((∀c∈p.ax,cwf c)/\p.ax.length<=9223372036854775807)/\((∀s∈p.st,swf s)/\p.st.length<=9223372036854775807)
def jLz(s:Sch):Prop:=pwf s.prf/\iwf s.act/\iwf s.pas
theorem jGX:Rdr Tryz.prog 119 ltc (λl:Lt=>twf l.2):=λ_ _ _ _ _ _ fuel cs x h=>by
 obtain⟨a,b,h1,h2,h3,h4⟩:=jrk (k0:=1) (k1:=2) Tryz.underlying119 rfl rfl (by kernel_rfl) (by kernel_rfl) (by kernel_rfl)
  (λ_ _ _ _ h=>jEH _ _ _ _ _ _ _ _ _ h) (λ_ _ _ _ h=>jEK _ _ _ _ _ _ _ _ _ h) h
 rw[jgT]at h3;exact⟨(a,b),h2,h3,h4⟩
theorem jEI:Rdr Tryz.prog 67 (λc:Cls=>[A.sl 3 (c.map ltc)]) cwf:=
 Rdr.slice Tryz.underlying67 (by kernel_rfl) (by decide) (λ_=>rfl) jGX
theorem jsi:Rdr Tryz.prog 69 clc cwf:=λ_ _ _ _ _ _ fuel cs x h=>by
 obtain⟨a,h1,h2,h3⟩:=jxy (k0:=1) Tryz.underlying69 rfl (by kernel_rfl) (by kernel_rfl)
  (λ_ _ _ _ h=>jEI _ _ _ _ _ _ _ _ _ h) h
 exact⟨a,h1,h2,h3⟩
theorem jxk:Rdr Tryz.prog 22 (λl:List Cls=>[cls l]) (λl=>(∀c∈l,cwf c)/\l.length<=9223372036854775807):=
 Rdr.slice Tryz.underlying22 (by kernel_rfl) (by decide) (λ_=>rfl) jsi
theorem jEJ:Rdr Tryz.prog 72 stc swf:=λ_ _ _ _ _ _ fuel cs x h=>by
 obtain⟨a,b,d,e,h1,h2,h3,h4,h5,h6⟩:=jxz (k0:=1) (k1:=1) (k2:=1) (k3:=1) Tryz.underlying72 rfl rfl rfl rfl (by kernel_rfl) (by kernel_rfl) (by kernel_rfl) (by kernel_rfl) (by kernel_rfl)
  (λ_ _ _ _ h=>jxl _ _ _ _ _ _ _ _ _ h) (λ_ _ _ _ h=>jyD _ _ _ _ _ _ _ _ _ h) (λ_ _ _ _ h=>jyD _ _ _ _ _ _ _ _ _ h) (λ_ _ _ _ h=>jsi _ _ _ _ _ _ _ _ _ h) h
 exact⟨⟨a,b,d,e⟩,⟨h1,h2,h3,h4⟩,h5,h6⟩
theorem jCX:Rdr Tryz.prog 23 (λl:List Stp=>[jhT l]) (λl=>(∀s∈l,swf s)/\l.length<=9223372036854775807):=
 Rdr.slice Tryz.underlying23 (by kernel_rfl) (by decide) (λ_=>rfl) jEJ
theorem jCW:Rdr Tryz.prog 25 prc pwf:=λ_ _ _ _ _ _ fuel cs x h=>by
 obtain⟨a,b,h1,h2,h3,h4⟩:=jrk (k0:=1) (k1:=1) Tryz.underlying25 rfl rfl (by kernel_rfl) (by kernel_rfl) (by kernel_rfl)
  (λ_ _ _ _ h=>jxk _ _ _ _ _ _ _ _ _ h) (λ_ _ _ _ h=>jCX _ _ _ _ _ _ _ _ _ h) h
 exact⟨⟨a,b⟩,⟨h1,h2⟩,h3,h4⟩
def jiB(t:T):Bool:=if t.name=[61]then jl0 t else jhO t.name && jgR t
theorem jr2(t:T)(hw:twf t)(hs:tsz t<=1048576):G 112 [tm t]=some (vb (jiB t),[]):=by
 unfold jiB;by_cases he:t.name=[61]
 .rw [jbZ he];exact jni t hw hs he
 .have e1:=jko t.name ((jgK t).1 hw).1;have e2:=jjf t hw hs;rw[ja0 he,jGo];cases h:jhO t.name<;>rw[h]at e1
  .simp only[evz,he,e1,Bool.false_and]
  .simp only[evz,he,e1,e2,Bool.true_and]
theorem jqB(t:T)(hw:twf t)(hs:tsz t<=1048576):G 183 [tm t]=some (vb (jiB t),[]):=by
 unfold jiB;by_cases he:t.name=[61]
 .rw [jbZ he];exact jlv t hw hs he
 .have e0:=jhL t;rw[decide_eq_false he]at e0;have e1:=jl4 t.name ((jgK t).1 hw).1;have e2:=jl5 t hw hs;rw[ja0 he,jHM];cases h:jhO t.name<;>rw[h]at e1
  .simp only[evz,e0,e1,Bool.false_and]
  .simp only[evz,e0,e1,e2,Bool.true_and]
abbrev cm(c:Cls):A:= .agg [.sl 3 (c.map ltc)]
def jhP(c:Cls):Bool:=c.all (λl=>jiB l.2) && (juq c && decide (c.length<=8))
theorem jx1{t:T}(h:jiB t=true):Rx' t:=by
 unfold jiB at h;by_cases he:t.name=[61]
 .rw [jbZ he]at h;unfold jl0 at h;rw[jbX,jfH,jbX,jbX]at h;refine Or.inr ⟨he,λu hu=>?_⟩;obtain⟨n,us⟩:=t
  match us,h.1 with
  | [a,b],_=>
   have hu:u ∈ [a,b]:=hu;simp only[ja1,List.not_mem_nil,or_false]at hu;rcases hu with rfl|rfl
   .exact h.2.2.1
   .exact h.2.2.2
 .rw [ja0 he,jbX]at h;have h2:=h.2;unfold jgR at h2;rw[jbX]at h2;exact Or.inl h2.2
theorem jnY(l:Lt)(hz:Tz l.2):G 153 [ltm l]=some (vb (jiB l.2),[]):=by
 have e:=jqB l.2 hz.wf hz;rw[jJn];simp only[evz,e]
theorem jAz(a b c d e f g h:A):Zj [a,b,c,d] 0 [e,f,g,h]=[e,f,g,h]:=rfl
theorem joP(l:Lt):QN 3 (.elt (ltc l) 0)=some (ltm l):=rfl
theorem jiy(c:Cls):QN 1 (.elt (clc c) 0)=some (cm c):=rfl
theorem jib(s:Stp):QN 4 (.elt (stc s) 0)=some (stm s):=rfl
def lsz:Cls->Nat
 | []=>0
 |l::c=>tsz l.2+lsz c
def csz(c:Cls):Nat:=c.length+lsz c
def jnc:List Cls->Nat
 | []=>0
 |c::l=>csz c+jnc l
def ssz(s:Stp):Nat:=s.par.length+s.whr.length+csz s.cls
def jns:List Stp->Nat
 | []=>0
 |s::l=>ssz s+jns l
def psz(p:Prf):Nat:=(p.ax.length+jnc p.ax)+(p.st.length+jns p.st)
def jLy(s:Sch):Nat:=psz s.prf+s.act.length+s.pas.length
theorem jpL:∀{c:Cls}{l:Lt},l∈c->tsz l.2<=lsz c
 |x::c,l,h=>by
  simp only[lsz];rcases ja1.1 h with rfl|h
  .omega
  .have:=jpL h;omega
theorem jqn:∀{l:List Cls}{c:Cls},c∈l->csz c<=jnc l
 |x::c,l,h=>by
  simp only[jnc];rcases ja1.1 h with rfl|h
  .omega
  .have:=jqn h;omega
theorem jml:∀{l:List Stp}{s:Stp},s∈l->ssz s<=jns l
 |x::c,l,h=>by
  simp only[jns];rcases ja1.1 h with rfl|h
  .omega
  .have:=jml h;omega
theorem jG1(l:Lt)(hw:twf l.2)(left:Int)(h0:0<=left)(h1:left<=1048576):G 90 [ltm l,vi left]=some (vi (jgI left ((tsz l.2:Nat):Int)),[]):=by
 have e1:=jEV l.2 hw left h0 h1;rw[g90];by_cases h:jgI left ((tsz l.2:Nat):Int)<0
 .have:jgI left ((tsz l.2:Nat):Int) = -1:=by have:=jl9 left (tsz l.2:Nat);omega
  simp only[evz,e1,this]
 .simp only[evz,e1,h]
theorem jGl(l:Lt)(hw:twf l.2):G 96 [ltm l,ltm l]=some (vb true,[]):=by
 have e1:=jEk l.2 hw;rw[g96];cases l.1<;>simp only[evz,e1]
theorem jET(l:List Lt)(hl:l.length<=9223372036854775807)(ih:∀t∈l,∀left:Int,0<=left->left<=1048576->G 90 [ltm t,vi left]=some (vi (jgI left ((tsz t.2:Nat):Int)),[]))
  (left:Int) (h0:0<=left) (h1:left<=1048576):G 63 [.sl 3 (l.map ltc),vi left]=some (vi (jgI left ((l.length+lsz l:Nat):Int)),[]):=by
 have loop:∀(a:Int),0<=a->a<=1048576->jum (.sl 3 (l.map ltc)) (vi a) (vi 0)=some (vi (jgI a (lsz l)),[]):=by
  have key:=(upto (P:=λi=>∀a:Int,0<=a->a<=1048576->jum (.sl 3 (l.map ltc)) (vi a) (vi i)=some (vi (jgI a (lsz (l.drop i))),[])) (n:=l.length) ?_ ?_ 0 (Nat.zero_le _))
  .simp only[List.drop_zero,Int.natCast_zero]at key;exact key
  .intro b hb hb';rw[jFn,List.drop_length];simp only[evz,lsz];rw[jlk hb]
  .intro i hi ih' b hb hb';have e1:=ih l[i] (jfL _) b hb hb';rw[jFn,jgg hi];simp only[evz,hi,Int.ofNat_lt,jfY hi,joP,e1,jgj hi hl,lsz];by_cases hc:b<(tsz l[i].2:Nat)
   .rw [jhh hc,jhh (by omega)];rfl
   .have hp:=jiV (Int.not_lt.1 hc);have ih':=ih' (jgI b (tsz l[i].2:Nat)) (by omega) (by omega);have hn:¬jgI b ((tsz l[i].2:Nat):Int)<0:=by omega
    simp only[evz,hn,ih'];rw[jkN (Int.not_lt.1 hc),<-Int.natCast_add]
 have hk:=joC h0 (Int.le_trans h1 (by decide)) hl;rw[g63];simp only[evz,hk];by_cases hc:left-l.length<0
 .simp only[evz,hc];rw[jhh (by omega)]
 .have hl:=loop (left-l.length) (by omega) (by omega);simp only[evz,hc,hl];rw[jjP,<-Int.natCast_add]
theorem jEi(l:List Lt)(hl:l.length<=9223372036854775807)(ih:∀t∈l,G 96 [ltm t,ltm t]=some (vb true,[])):G 69 [.sl 3 (l.map ltc),.sl 3 (l.map ltc)]=some (vb true,[]):=by
 have key:=(upto (P:=λi=>jxR (.sl 3 (l.map ltc)) (.sl 3 (l.map ltc)) (vi i)=some (vb true,[])) (n:=l.length) ?_ ?_ 0 (Nat.zero_le _))
 .rw [g69];simp only[Int.natCast_zero]at key;simp only[evz,key]
 .rw [jFo];simp only[evz]
 .intro i hi ih';have h5:=jgj hi hl;have e1:=ih l[i] (jfL _);rw[jFo];simp only[evz,hi,Int.ofNat_lt,jfY hi,joP,e1,h5,ih']
theorem jDj(c:Cls)(hw:cwf c)(left:Int)(h0:0<=left)(h1:left<=1048576):G 41 [cm c,vi left]=some (vi (jgI left ((csz c:Nat):Int)),[]):=by
 have e1:G 63 [.sl 3 (c.map ltc),vi left]=some (vi (jgI left ((csz c:Nat):Int)),[]):=jET c hw.2 (λl hl=>jG1 l (hw.1 l hl)) left h0 h1;rw[g41];by_cases h:jgI left ((csz c:Nat):Int)<0
 .have:jgI left ((csz c:Nat):Int) = -1:=by have:=jl9 left (csz c:Nat);omega
  simp only[evz,e1,this]
 .simp only[evz,e1,h]
theorem jAR(c:Cls)(hw:cwf c):G 49 [cm c,cm c]=some (vb true,[]):=by
 have e1:=jEi c hw.2 λl hl=>jGl l (hw.1 l hl);rw[g49];simp only[evz,e1]
theorem jES(l:List Cls)(hl:l.length<=9223372036854775807)(ih:∀t∈l,∀left:Int,0<=left->left<=1048576->G 41 [cm t,vi left]=some (vi (jgI left ((csz t:Nat):Int)),[]))
  (left:Int) (h0:0<=left) (h1:left<=1048576):G 20 [.sl 1 (l.map clc),vi left]=some (vi (jgI left ((l.length+jnc l:Nat):Int)),[]):=by
 have loop:∀(a:Int),0<=a->a<=1048576->juk (.sl 1 (l.map clc)) (vi a) (vi 0)=some (vi (jgI a (jnc l)),[]):=by
  have key:=(upto (P:=λi=>∀a:Int,0<=a->a<=1048576->juk (.sl 1 (l.map clc)) (vi a) (vi i)=some (vi (jgI a (jnc (l.drop i))),[])) (n:=l.length) ?_ ?_ 0 (Nat.zero_le _))
  .simp only[List.drop_zero,Int.natCast_zero]at key;exact key
  .intro b hb hb';rw[jFg,List.drop_length];simp only[evz,jnc];rw[jlk hb]
  .intro i hi ih' b hb hb';have e1:=ih l[i] (jfL _) b hb hb';rw[jFg,jgg hi];simp only[evz,hi,Int.ofNat_lt,jfY hi,jiy,e1,jgj hi hl,jnc];by_cases hc:b<(csz l[i]:Nat)
   .rw [jhh hc,jhh (by omega)];rfl
   .have hp:=jiV (Int.not_lt.1 hc);have ih':=ih' (jgI b (csz l[i]:Nat)) (by omega) (by omega);have hn:¬jgI b ((csz l[i]:Nat):Int)<0:=by omega
    simp only[evz,hn,ih'];rw[jkN (Int.not_lt.1 hc),<-Int.natCast_add]
 have hk:=joC h0 (Int.le_trans h1 (by decide)) hl;rw[g20];simp only[evz,hk];by_cases hc:left-l.length<0
 .simp only[evz,hc];rw[jhh (by omega)]
 .have hl:=loop (left-l.length) (by omega) (by omega);simp only[evz,hc,hl];rw[jjP,<-Int.natCast_add]
theorem jEh(l:List Cls)(hl:l.length<=9223372036854775807)(ih:∀t∈l,G 49 [cm t,cm t]=some (vb true,[])):G 29 [.sl 1 (l.map clc),.sl 1 (l.map clc)]=some (vb true,[]):=by
 have key:=(upto (P:=λi=>jxM (.sl 1 (l.map clc)) (.sl 1 (l.map clc)) (vi i)=some (vb true,[])) (n:=l.length) ?_ ?_ 0 (Nat.zero_le _))
 .rw [g29];simp only[Int.natCast_zero]at key;simp only[evz,key]
 .rw [jFi];simp only[evz]
 .intro i hi ih';have h5:=jgj hi hl;have e1:=ih l[i] (jfL _);rw[jFi];simp only[evz,hi,Int.ofNat_lt,jfY hi,jiy,e1,h5,ih']
theorem jnk{left:Int}{m n:Nat}(h1:left<=1048576)(h:¬jgI left (m:Int)<0):jgI (jgI left (m:Int)) (n:Int)=jgI left ((m+n:Nat):Int)/\0<=jgI left (m:Int)/\jgI left (m:Int)<=1048576:=by
 have hm:(m:Int)<=left:=by
  refine Int.not_lt.1 λhc=>h ?_;rw[jhh hc];decide
 have:=jiV hm;refine⟨?_,by omega,by omega⟩;rw[jkN hm,<-Int.natCast_add]
theorem jqO{left:Int}{m n:Nat}(h:jgI left (m:Int)<0):jgI left ((m+n:Nat):Int) = -1:=by
 have:left<m:=by
  refine Int.not_le.1 λhc=>?_;rw[jiV hc]at h;omega
 exact jhh (by omega)
theorem jEU(s:Stp)(hw:swf s)(left:Int)(h0:0<=left)(h1:left<=1048576):G 42 [stm s,vi left]=some (vi (jgI left ((ssz s:Nat):Int)),[]):=by
 have e1:=jyI s.par hw.2.1.2 left h0 h1;rw[g42];unfold ssz;by_cases c1:jgI left ((s.par.length:Nat):Int)<0
 .rw [jf9,jqO c1];simp only[evz,e1,c1]
 .obtain ⟨d1,d2,d3⟩:=jnk (n:=s.whr.length) h1 c1;have e2:=jyI s.whr hw.2.2.1.2 _ d2 d3;rw[d1]at e2;by_cases c2:jgI left ((s.par.length+s.whr.length:Nat):Int)<0
  .rw [jqO c2];simp only[evz,e1,c1,e2,c2]
  .obtain ⟨d4,d5,d6⟩:=jnk (n:=csz s.cls) h1 c2;have e3:=jDj s.cls hw.2.2.2 _ d5 d6;rw[d4]at e3;by_cases c3:jgI left ((s.par.length+s.whr.length+csz s.cls:Nat):Int)<0
   .have:jgI left ((s.par.length+s.whr.length+csz s.cls:Nat):Int) = -1:=by have:=jl9 left (s.par.length+s.whr.length+csz s.cls:Nat);omega
    simp only[evz,e1,c1,e2,c2,e3,this]
   .simp only[evz,e1,c1,e2,c2,e3,c3]
theorem jEj(s:Stp)(hw:swf s):G 50 [stm s,stm s]=some (vb true,[]):=by
 have e1:=jtD s.par hw.2.1.2;have e2:=jtD s.whr hw.2.2.1.2;have e3:=jAR s.cls hw.2.2.2;rw[g50];simp only[evz,e1,e2,e3]
theorem jDl(l:List Stp)(hl:l.length<=9223372036854775807)(ih:∀t∈l,∀left:Int,0<=left->left<=1048576->G 42 [stm t,vi left]=some (vi (jgI left ((ssz t:Nat):Int)),[]))
  (left:Int) (h0:0<=left) (h1:left<=1048576):G 21 [.sl 4 (l.map stc),vi left]=some (vi (jgI left ((l.length+jns l:Nat):Int)),[]):=by
 have loop:∀(a:Int),0<=a->a<=1048576->jul (.sl 4 (l.map stc)) (vi a) (vi 0)=some (vi (jgI a (jns l)),[]):=by
  have key:=(upto (P:=λi=>∀a:Int,0<=a->a<=1048576->jul (.sl 4 (l.map stc)) (vi a) (vi i)=some (vi (jgI a (jns (l.drop i))),[])) (n:=l.length) ?_ ?_ 0 (Nat.zero_le _))
  .simp only[List.drop_zero,Int.natCast_zero]at key;exact key
  .intro b hb hb';rw[jFh,List.drop_length];simp only[evz,jns];rw[jlk hb]
  .intro i hi ih' b hb hb';have e1:=ih l[i] (jfL _) b hb hb';rw[jFh,jgg hi];simp only[evz,hi,Int.ofNat_lt,jfY hi,jib,e1,jgj hi hl,jns];by_cases hc:b<(ssz l[i]:Nat)
   .rw [jhh hc,jhh (by omega)];rfl
   .have hp:=jiV (Int.not_lt.1 hc);have ih':=ih' (jgI b (ssz l[i]:Nat)) (by omega) (by omega);have hn:¬jgI b ((ssz l[i]:Nat):Int)<0:=by omega
    simp only[evz,hn,ih'];rw[jkN (Int.not_lt.1 hc),<-Int.natCast_add]
 have hk:=joC h0 (Int.le_trans h1 (by decide)) hl;rw[g21];simp only[evz,hk];by_cases hc:left-l.length<0
 .simp only[evz,hc];rw[jhh (by omega)]
 .have hl:=loop (left-l.length) (by omega) (by omega);simp only[evz,hc,hl];rw[jjP,<-Int.natCast_add]
theorem jAT(l:List Stp)(hl:l.length<=9223372036854775807)(ih:∀t∈l,G 50 [stm t,stm t]=some (vb true,[])):G 30 [.sl 4 (l.map stc),.sl 4 (l.map stc)]=some (vb true,[]):=by
 have key:=(upto (P:=λi=>jxN (.sl 4 (l.map stc)) (.sl 4 (l.map stc)) (vi i)=some (vb true,[])) (n:=l.length) ?_ ?_ 0 (Nat.zero_le _))
 .rw [g30];simp only[Int.natCast_zero]at key;simp only[evz,key]
 .rw [jFj];simp only[evz]
 .intro i hi ih';have h5:=jgj hi hl;have e1:=ih l[i] (jfL _);rw[jFj];simp only[evz,hi,Int.ofNat_lt,jfY hi,jib,e1,h5,ih']
theorem jDk(p:Prf)(hw:pwf p)(left:Int)(h0:0<=left)(h1:left<=1048576):G 6 [prm p,vi left]=some (vi (jgI left ((psz p:Nat):Int)),[]):=by
 have e1:=jES p.ax hw.1.2 (λc hc=>jDj c (hw.1.1 c hc)) left h0 h1;rw[g6];unfold psz;by_cases c1:jgI left ((p.ax.length+jnc p.ax:Nat):Int)<0
 .rw [jqO c1];simp only[evz,e1,c1]
 .obtain ⟨d1,d2,d3⟩:=jnk (n:=p.st.length+jns p.st) h1 c1;have e2:=jDl p.st hw.2.2 (λs hs=>jEU s (hw.2.1 s hs)) _ d2 d3;rw[d1]at e2;by_cases c2:jgI left ((p.ax.length+jnc p.ax+(p.st.length+jns p.st):Nat):Int)<0
  .have:jgI left ((p.ax.length+jnc p.ax+(p.st.length+jns p.st):Nat):Int) = -1:=by have:=jl9 left (p.ax.length+jnc p.ax+(p.st.length+jns p.st):Nat);omega
   simp only[evz,e1,c1,e2,this]
  .simp only[evz,e1,c1,e2,c2]
theorem jAS(p:Prf)(hw:pwf p):G 11 [prm p,prm p]=some (vb true,[]):=by
 have e1:=jEh p.ax hw.1.2 λc hc=>jAR c (hw.1.1 c hc);have e2:=jAT p.st hw.2.2 λs hs=>jEj s (hw.2.1 s hs);rw[g11];simp only[evz,e1,e2]
theorem jnX(s:Xb):jZ (sv s)=true:=rfl
theorem juS(b:Bool):jZ (vb b)=true:=rfl
theorem jkK(n:Int):jZ (vi n)=true:=rfl
theorem jnW(k:Nat)(xs:Xc):jbo (.sl k xs)=true:=rfl
theorem jzT(ts:Xg)(hl:ts.length<=1048576)(ih:∀t∈ts,jsA (tm t)=some (.top,[sv t.name,.sl 66 (t.args.map jgi)])):jm6 (tms ts)=some (.top,[.sl 66 (ts.map jgi)]):=by
 have key:=(upto (P:=λi=>jny (tms ts) (vi i) (part jgi [sv [],.sl 2 []] ts i)=some (.top,[.sl 66 (ts.map jgi)])) (n:=ts.length) ?_ ?_ 0 (Nat.zero_le _))
 .rw [jFW];have hm:=jic (b:=40) (n:=ts.length) (by omega) hl;simp only[Int.natCast_zero,<-jjh]at key;simp only[evz,hm,key]
 .rw [juY,jj5];simp only[evz]
 .intro i hi ih';have h1:=jir (f:=jgi) (z:=[sv [],.sl 2 []]) (Nat.le_of_lt hi);have h2:pIx (part jgi [sv [],.sl 2 []] ts i).length (vi i)=some i:=jgZ (by omega);have h4:=jj7 (f:=jgi) (z:=[sv [],.sl 2 []]) hi;rw[jgT]at h4;have h5:=jgj hi (jfI hl (by decide));have e1:=ih ts[i] (jfL _);rw[juY];simp only[evz,hi,Int.ofNat_lt,jfY hi,jga,e1,List.getElem?_cons_zero,jnX,h2,jj6 hi,jpF,h4,h5,ih']
theorem jDp(t:T)(ht:jm6 (tms t.args)=some (.top,[.sl 66 (t.args.map jgi)])):jsA (tm t)=some (.top,[sv t.name,.sl 66 (t.args.map jgi)]):=by
 rw[jFT];simp only[evz,ht]
theorem jEX(t:T):tsz t<=1048576->jm6 (tms t.args)=some (.top,[.sl 66 (t.args.map jgi)]):=by
 refine T.ind (p:=λt=>tsz t<=1048576->jm6 (tms t.args)=some (.top,[.sl 66 (t.args.map jgi)])) ?_ t;intro t ih h;rw[jgL]at h;exact jzT t.args (by omega) λu hu=>jDp u (ih u hu (by have:=jhr hu;omega))
theorem jDo(t:T)(h:tsz t<=1048576):jwl (sv t.name) (tms t.args)=some (.top,[sv t.name,.sl 66 (t.args.map jgi)]):=by
 have e1:=jEX t h;rw[jFS];simp only[evz,e1]
theorem jCL(n:Int):KI (.sl 1 [[vy n]])=some (sv [UInt8.ofNat n.toNat]):=rfl
theorem jxg(x:Int):jdl .rem false (vi x) (vi 10)=some (vi (x.tmod 10)):=rfl
theorem jzv(x:Int):jdl .rem false (vi x) (vi 3)=some (vi (x.tmod 3)):=rfl
theorem jxf(x:Int):jdl .quo false (vi x) (vi 10)=ck (x.tdiv 10):=rfl
theorem jEB(k:IntKind)(a:Int):jbA .u8 (.val (.int k a))=some (vy (IntKind.u8.wrap a)):=rfl
theorem jGR(n:Int):Ka (vy n)=true:=rfl
theorem jrC:∀(k:Nat)(out:Xb),out.length+k<=1000000000-> ∃s,jxS (vi (k:Nat)) (sv out)=some (sv s,[]):=by
 intro k;induction k using Nat.strongRecOn with
 |ind k ih=>
  intro out hl;by_cases hk:(0:Int)<(k:Nat)
  .have h1:((k:Nat):Int).tdiv 10=((k / 10:Nat):Int):=by rw[Int.tdiv_eq_ediv_of_nonneg (by omega)];rfl
   have h2:((k:Nat):Int).tmod 10=((k % 10:Nat):Int):=by rw[Int.tmod_eq_emod_of_nonneg (by omega)];rfl
   have c1:ck ((k / 10:Nat):Int)=some (vi ((k / 10:Nat):Int)):=jgA (by omega) (by omega);have c2:ck (48+((k % 10:Nat):Int))=some (vi (48+((k % 10:Nat):Int))):=jgA (by omega) (by omega);generalize hc:UInt8.ofNat (IntKind.u8.wrap (48+((k % 10:Nat):Int))).toNat=c;have e1:jdl .add false (sv [c]) (sv out)=some (sv ([c]++out)):=by rw[jkQ,jbZ (by simp;omega)]
   obtain⟨s,hs⟩:=ih (k / 10) (by omega) ([c]++out) (by simp;omega)
   refine⟨s,?_⟩;rw[jFp];simp only[evz,hk,jxg,h2,c2,jEB,jGR,jCL,hc,e1,jxf,h1,c1,hs]
  .have e1:jdl .add false (sv [109]) (sv out)=some (sv ([109]++out)):=by rw[jkQ,jbZ (by simp;omega)]
   refine⟨[109]++out,?_⟩;rw[jFp];simp only[evz,hk,e1]
theorem jpc(k:Nat)(h:k<=1000000000):∃s,G 70 [vi (k:Nat)]=some (sv s,[]):=by
 rw[g70];by_cases hk:((k:Nat):Int)<=0
 .exact ⟨[109,48],by simp only[evz,hk]⟩
 .obtain ⟨s,hs⟩:=jrC k [] (by simpa using h);exact⟨s,by simp only[evz,hk,hs]⟩
theorem jmW:∀(n:Nat)(M:Xi)(k:Int),0<=k->k+n<=4194304->M.length+n<=9223372036854775807->jxL (ints (M++jne k n)) (vi k) (vi (M.length:Nat))=some (vi (k+(n:Nat)),[])
 |0,M,k,h0,hk,hl=>by
  rw[jFf];simp only[evz,jne,jf4,Int.natCast_zero,Int.add_zero]
 |n+1,M,k,h0,hk,hl=>by
  rw[jne];have h1:((M.length:Nat):Int)<(((M++k::jne (k+1) n).length:Nat):Int):=jtV M _ k;have h2:=jqT (f:=ci) (k:=1) M (jne (k+1) n) k;have e1:ck (k+1)=some (vi (k+1)):=jgA (by omega) (by omega);have h5:=jgj (i:=M.length) (n:=(M++k::jne (k+1) n).length) (by simp) (by simp[jo3];omega);have ih:=jmW n (M++[k]) (k+1) (by omega) (by omega) (by simp;omega);have q:(M++[k]).length=M.length+1:=by simp
  rw[q,jet,List.singleton_append,show k+1+((n:Nat):Int)=k+((n+1:Nat):Int) by omega]at ih;rw[jFf];simp only[evz,h1,h2,e1,h5,ih]
theorem juO(n:Nat)(k:Int)(h0:0<=k)(hk:k+n<=4194304):G 14 [ints (jne k n),vi k]=some (vi (k+(n:Nat)),[]):=by
 have:=jmW n [] k h0 hk (by simp;omega)
 rw[g14];exact this
mutual
def mkN:T->Nat
 |.mk _ us=>1+mkL us
def mkL:Xg->Nat
 | []=>0
 |t::ts=>mkN t+mkL ts
end
theorem jCv(t:T):mkN t=1+mkL t.args:=by cases t;simp[mkN,T.args]
mutual
theorem jEv:∀t:T,mkN t<=1+tsz t
 |.mk n us=>by
  have:=jtW us;simp only[mkN,tsz];omega
theorem jtW:∀ts:Xg,mkL ts<=ts.length+jjE ts
 | []=>by simp[mkL]
 |t::ts=>by
  have h1:=jEv t;have h2:=jtW ts;simp only[mkL,jjE,jfC];omega
end
theorem jmc:∀(r:Xg)(M:Xc)(k:Nat),k+mkL r<=100000000->M.length+r.length<=9223372036854775807->
  (∀t∈r,∀k:Nat,k+mkL t.args<=100000000-> ∃X,jrN (vi (k:Nat)) (t.args.map jgi)=some (.top,[vi ((k+mkL t.args:Nat):Int),.sl 66 X]))->
  ∃X,jpD (vi (k:Nat)) (vi (M.length:Nat)) (M++r.map jgi)=some (.top,[vi ((k+mkL r:Nat):Int),.sl 66 X])
 | [],M,k,hk,hl,_=>by
  refine⟨M,?_⟩;rw[jyp,List.map_nil,jf4];simp only[evz,mkL,jfg]
 |t::r,M,k,hk,hl,ht=>by
  simp only[mkL,jCv,jfC]at hk hl;have h1:((M.length:Nat):Int)<(((M++jgi t::r.map jgi).length:Nat):Int):=by simp;omega
  have h2:=jjB M (r.map jgi) (jgi t);have h3:=jiO M (r.map jgi) (jgi t);obtain⟨s,e0⟩:=jpc k (by omega);have h4:=jiP M (r.map jgi) (jgi t) [sv s,tms t.args];have h5:=jjB M (r.map jgi) [sv s,tms t.args];have h6:=jiO M (r.map jgi) [sv s,tms t.args];have e1:=jgj (i:=k) (n:=k+1) (by omega) (by omega);have e2:=jgj (i:=M.length) (n:=M.length+1) (by omega) (by omega);obtain⟨Y,e3⟩:=ht t (by simp) (k+1) (by omega);have h7:=jiP M (r.map jgi) [sv s,tms t.args] [sv s,.sl 2 Y];obtain⟨X,ih⟩:=jmc r (M++[[sv s,.sl 2 Y]]) (k+1+mkL t.args) (by omega) (by simp;omega) λu hu=>ht u (by simp[hu]);have q:(M++[[sv s,.sl 2 Y]]).length=M.length+1:=by simp
  have q2:M++[[sv s,.sl 2 Y]]++r.map jgi=M++[sv s,.sl 2 Y]::r.map jgi:=by simp
  rw[q,q2,show k+1+mkL t.args+mkL r=k+(1+mkL t.args+mkL r) by omega]at ih;have o1:Zj (jgi t) 0 [sv s]=[sv s,tms t.args]:=by rw[jgT];rfl
  have o2:Zj [sv s,tms t.args] 1 [.sl 2 Y]=[sv s,.sl 2 Y]:=rfl;have tv:jej (jgi t) 0 1=true:=by rw[jgT];rfl
  refine⟨X,?_⟩;rw[jyp,jd1,mkL,jCv];simp only[evz,h1,e0,h2,h3,jnX,tv,o1,h4,h5,h6,jnW,e1,e3,List.getElem?_cons_zero,o2,h7,e2,ih]
theorem jvj(t:T):twf t-> ∀k:Nat,k+mkL t.args<=100000000-> ∃X,jrN (vi (k:Nat)) (t.args.map jgi)=some (.top,[vi ((k+mkL t.args:Nat):Int),.sl 66 X]):=by
 refine T.ind (p:=λt=>twf t-> ∀k:Nat,k+mkL t.args<=100000000-> ∃X,jrN (vi (k:Nat)) (t.args.map jgi)=some (.top,[vi ((k+mkL t.args:Nat):Int),.sl 66 X])) ?_ t;intro t ih hw k hk;obtain⟨_,w2,w3⟩:=(jgK t).1 hw;have w3:=(jgF _).1 w3;obtain⟨X,h⟩:=jmc t.args [] k hk (by simpa using w2) λu hu=>ih u hu (w3 u hu);refine⟨X,?_⟩;rw[jHy];exact h
def HL:Nat->Xg->Nat->Prop
 |k,[],k'=>k'=k
 |k,u::us,k'=>∃k1:Nat,G 70 [vi (k:Nat)]=some (sv u.name,[])/\G 89 [tms u.args,vi ((k+1:Nat):Int)]=some (vi (k1:Nat),[])/\k<k1/\HL k1 us k'
theorem jAy(a b c d e f:A):Zj [a,b,c] 0 [d,e,f]=[d,e,f]:=rfl
theorem jAx(a d:A):Zj [a] 0 [d]=[d]:=rfl
theorem jLh(a b c:A)(k:Nat)(r:Xc):hR k (A.top,[a,b,c,.sl k r]) 3=some r:=by
 unfold hR;simp
theorem jsq(l:Xi)(hl:l.length<=1048576):jxH (ints l)=some (.top,[.sl 65 (l.map ci)]):=by
 have key:=(upto (P:=λi=>jpC (ints l) (vi i) (part ci [vi 0] l i)=some (.top,[.sl 65 (l.map ci)])) (n:=l.length) ?_ ?_ 0 (Nat.zero_le _))
 .rw [jHx];have hm:=jic (b:=8) (n:=l.length) (by omega) hl;simp only[Int.natCast_zero,<-jjh]at key;simp only[evz,hm,key]
 .rw [jyo,jj5];simp only[evz]
 .intro i hi ih;have h1:=jir (f:=ci) (z:=[vi 0]) (Nat.le_of_lt hi);have h2:pIx (part ci [vi 0] l i).length (vi i)=some i:=jgZ (by omega);have h4:=jj7 (f:=ci) (z:=[vi 0]) hi;have h5:=jgj hi (jfI hl (by decide));rw[jyo];simp only[evz,hi,Int.ofNat_lt,jfY hi,h2,jj6 hi,jDM,h4,h5,ih,jkK]
theorem jEY(l:Lt)(h:tsz l.2<=1048576):jAi (ltm l)=some (.top,[vb l.1,sv l.2.name,.sl 66 (l.2.args.map jgi)]):=by
 have e1:=jDo l.2 h;rw[jHB];simp only[evz,e1,List.getElem?_cons_zero]
theorem jv5(c:Cls)(hl:c.length<=1048576)(hs:∀l∈c,tsz l.2<=1048576):jxG (.sl 3 (c.map ltc))=some (.top,[.sl 67 (c.map ltc)]):=by
 have key:=(upto (P:=λi=>jpB (.sl 3 (c.map ltc)) (vi i) (part ltc [vb false,sv [],.sl 2 []] c i)=some (.top,[.sl 67 (c.map ltc)])) (n:=c.length) ?_ ?_ 0 (Nat.zero_le _))
 .rw [jHw];have hm:=jic (b:=48) (n:=c.length) (by omega) hl;simp only[Int.natCast_zero,<-jjh]at key;simp only[evz,hm,key]
 .rw [jyn,jj5];simp only[evz]
 .intro i hi ih';have h1:=jir (f:=ltc) (z:=[vb false,sv [],.sl 2 []]) (Nat.le_of_lt hi);have h2:pIx (part ltc [vb false,sv [],.sl 2 []] c i).length (vi i)=some i:=jgZ (by omega);have h4:=jj7 (f:=ltc) (z:=[vb false,sv [],.sl 2 []]) hi;have h5:=jgj hi (jfI hl (by decide));have e1:=jEY c[i] (hs _ (jfL _));rw[jyn];simp only[evz,hi,Int.ofNat_lt,jfY hi,joP,e1,List.getElem?_cons_zero,List.getElem?_cons_succ,jnX,juS,h2,jj6 hi,jAy,h4,h5,ih']
theorem jxD(c:Cls)(hl:c.length<=1048576)(hs:∀l∈c,tsz l.2<=1048576):jAe (cm c)=some (.top,[.sl 67 (c.map ltc)]):=by
 have e1:=jv5 c hl hs;rw[jHr];simp only[evz,e1]
theorem jxC(c:Cls)(hl:c.length<=1048576)(hs:∀l∈c,tsz l.2<=1048576):jAf (.sl 3 (c.map ltc))=some (.top,[.sl 67 (c.map ltc)]):=by
 have e1:=jv5 c hl hs;rw[jHs];simp only[evz,e1]
theorem jv4(l:List Cls)(hl:l.length<=1048576)(hs:∀c∈l,csz c<=1048576):jz9 (cls l)=some (.top,[.sl 65 (l.map clc)]):=by
 have key:=(upto (P:=λi=>jpu (cls l) (vi i) (part clc [.sl 3 []] l i)=some (.top,[.sl 65 (l.map clc)])) (n:=l.length) ?_ ?_ 0 (Nat.zero_le _))
 .rw [jHm];have hm:=jic (b:=24) (n:=l.length) (by omega) hl;simp only[Int.natCast_zero,<-jjh]at key;simp only[evz,hm,key]
 .rw [jyg,jj5];simp only[evz]
 .intro i hi ih';have h1:=jir (f:=clc) (z:=[.sl 3 []]) (Nat.le_of_lt hi);have h2:pIx (part clc [.sl 3 []] l i).length (vi i)=some i:=jgZ (by omega);have h4:=jj7 (f:=clc) (z:=[.sl 3 []]) hi;have h5:=jgj hi (jfI hl (by decide));have hz:=hs _ (jfL hi);have e1:=jxD l[i] (by unfold csz at hz;omega) λx hx=>by have:=jpL hx;unfold csz at hz;omega
  rw[jyg];simp only[evz,hi,Int.ofNat_lt,jfY hi,jiy,e1,h2,jj6 hi,jAx,h4,h5,ih']
theorem jDn(s:Stp)(hz:ssz s<=1048576):jAg (stm s)=some (.top,[vi s.rule,.sl 65 (s.par.map ci),.sl 65 (s.whr.map ci),.sl 67 (s.cls.map ltc)]):=by
 unfold ssz csz at hz;have e1:=jsq s.par (by omega);have e2:=jsq s.whr (by omega);have e3:=jxC s.cls (by omega) λx hx=>by have:=jpL hx;omega
 rw[jHt];simp only[evz,e1,e2,e3]
theorem jzS(l:List Stp)(hl:l.length<=1048576)(hs:∀s∈l,ssz s<=1048576):jAa (jhT l)=some (.top,[.sl 68 (l.map stc)]):=by
 have key:=(upto (P:=λi=>jpv (jhT l) (vi i) (part stc [vi 0,.sl 1 [],.sl 1 [],.sl 3 []] l i)=some (.top,[.sl 68 (l.map stc)])) (n:=l.length) ?_ ?_ 0 (Nat.zero_le _))
 .rw [jHn];have hm:=jic (b:=80) (n:=l.length) (by omega) hl;simp only[Int.natCast_zero,<-jjh]at key;simp only[evz,hm,key]
 .rw [jyh,jj5];simp only[evz]
 .intro i hi ih';have h1:=jir (f:=stc) (z:=[vi 0,.sl 1 [],.sl 1 [],.sl 3 []]) (Nat.le_of_lt hi);have h2:pIx (part stc [vi 0,.sl 1 [],.sl 1 [],.sl 3 []] l i).length (vi i)=some i:=jgZ (by omega);have h4:=jj7 (f:=stc) (z:=[vi 0,.sl 1 [],.sl 1 [],.sl 3 []]) hi;have h5:=jgj hi (jfI hl (by decide));have e1:=jDn l[i] (hs _ (jfL hi));rw[jyh];simp only[evz,hi,Int.ofNat_lt,jfY hi,jib,e1,jLh,List.getElem?_cons_zero,jkK,h2,jj6 hi,jAz,h4,h5,ih']
theorem jzR(p:Prf)(hz:psz p<=1048576):jyL (cls p.ax) (jhT p.st)=some (.top,[.sl 65 (p.ax.map clc),.sl 68 (p.st.map stc)]):=by
 unfold psz at hz;have e1:=jv4 p.ax (by omega) λc hc=>by have:=jqn hc;omega
 have e2:=jzS p.st (by omega) λs hs=>by have:=jml hs;omega
 rw[jIP];simp only[evz,e1,e2]
def mkC:Cls->Nat
 | []=>0
 |l::c=>2+mkL l.2.args+mkC c
theorem jw9:∀c:Cls,mkC c<=2*c.length+lsz c
 | []=>by simp[mkC]
 |l::c=>by
  have h1:=jw9 c;have h2:=jtW l.2.args;have h3:=jgL l.2;simp only[mkC,lsz,jfC];omega
theorem jm2:∀(r:Cls)(M:Xc)(k:Nat),k+mkC r<=100000000->M.length+r.length<=9223372036854775807->(∀l∈r,twf l.2)->
  ∃X,jpA (vi (k:Nat)) (vi (M.length:Nat)) (M++r.map ltc)=some (.top,[vi ((k+mkC r:Nat):Int),.sl 67 X])
 | [],M,k,hk,hl,_=>by
  refine⟨M,?_⟩;rw[jym,List.map_nil,jf4];simp only[evz,mkC,jfg]
 |l::r,M,k,hk,hl,ht=>by
  simp only[mkC,jfC]at hk hl;have h1:((M.length:Nat):Int)<(((M++ltc l::r.map ltc).length:Nat):Int):=by simp;omega
  have hm:((k:Nat):Int).tmod 3=((k % 3:Nat):Int):=by rw[Int.tmod_eq_emod_of_nonneg (by omega)];rfl
  generalize hb:decide (((k % 3:Nat):Int)=0)=b;have h2:=jjB M (r.map ltc) (ltc l);have h3:=jiO M (r.map ltc) (ltc l);obtain⟨s,e0⟩:=jpc (k+1) (by omega);have s1:=jiP M (r.map ltc) (ltc l) [vb b,sv l.2.name,tms l.2.args];have i1:=jjB M (r.map ltc) [vb b,sv l.2.name,tms l.2.args];have g1:=jiO M (r.map ltc) [vb b,sv l.2.name,tms l.2.args];have s2:=jiP M (r.map ltc) [vb b,sv l.2.name,tms l.2.args] [vb b,sv s,tms l.2.args];have i2:=jjB M (r.map ltc) [vb b,sv s,tms l.2.args];have g2:=jiO M (r.map ltc) [vb b,sv s,tms l.2.args];obtain⟨Y,e3⟩:=jvj l.2 (ht l (by simp)) (k+2) (by omega);have s3:=jiP M (r.map ltc) [vb b,sv s,tms l.2.args] [vb b,sv s,.sl 2 Y];have e1:=jgj (i:=k) (n:=k+1) (by omega) (by omega);have e1':=jgj (i:=k+1) (n:=k+2) (by omega) (by omega);have e2:=jgj (i:=M.length) (n:=M.length+1) (by omega) (by omega);obtain⟨X,ih⟩:=jm2 r (M++[[vb b,sv s,.sl 2 Y]]) (k+2+mkL l.2.args) (by omega) (by simp;omega) λu hu=>ht u (by simp[hu]);have q:(M++[[vb b,sv s,.sl 2 Y]]).length=M.length+1:=by simp
  have q2:M++[[vb b,sv s,.sl 2 Y]]++r.map ltc=M++[vb b,sv s,.sl 2 Y]::r.map ltc:=by simp
  rw[q,q2,show k+2+mkL l.2.args+mkC r=k+(2+mkL l.2.args+mkC r) by omega]at ih;have o1:Zj (ltc l) 0 [vb b]=[vb b,sv l.2.name,tms l.2.args]:=rfl;have o2:Zj [vb b,sv l.2.name,tms l.2.args] 1 [sv s]=[vb b,sv s,tms l.2.args]:=rfl;have o3:Zj [vb b,sv s,tms l.2.args] 2 [.sl 2 Y]=[vb b,sv s,.sl 2 Y]:=rfl;have t1:jej (ltc l) 0 1=true:=rfl;have t2:jej [vb b,sv l.2.name,tms l.2.args] 1 1=true:=rfl;refine⟨X,?_⟩;rw[jym,jd1,mkC];simp only[evz,h1,jzv,hm,hb,h2,h3,juS,t1,o1,e1,e0,s1,i1,jnX,g1,t2,o2,e1',s2,i2,g2,jnW,e3,List.getElem?_cons_zero,o3,s3,e2,ih]
theorem jpb(c:Cls)(k:Nat)(hk:k+mkC c<=100000000)(hw:cwf c):∃X,jxF (vi (k:Nat)) (c.map ltc)=some (.top,[vi ((k+mkC c:Nat):Int),.sl 67 X]):=by
 obtain⟨X,h⟩:=jm2 c [] k hk (by simpa using hw.2) hw.1;refine⟨X,?_⟩;rw[jHv];exact h
def jmS:List Cls->Nat
 | []=>0
 |c::l=>mkC c+jmS l
theorem jyr:∀l:List Cls,jmS l<=2*jnc l
 | []=>by simp[jmS]
 |c::l=>by
  have h1:=jyr l;have h2:=jw9 c;simp only[jmS,jnc,csz];omega
theorem jkO:∀(r:List Cls)(M:Xc)(k:Nat),k+jmS r<=100000000->M.length+r.length<=9223372036854775807->(∀c∈r,cwf c)->
  ∃X,jpx (vi (k:Nat)) (vi (M.length:Nat)) (M++r.map clc)=some (.top,[vi ((k+jmS r:Nat):Int),.sl 65 X])
 | [],M,k,hk,hl,_=>by
  refine⟨M,?_⟩;rw[jyk,List.map_nil,jf4];simp only[evz,jmS,jfg]
 |c::r,M,k,hk,hl,ht=>by
  simp only[jmS,jfC]at hk hl;have h1:((M.length:Nat):Int)<(((M++clc c::r.map clc).length:Nat):Int):=by simp;omega
  have h2:=jjB M (r.map clc) (clc c);have h3:=jiO M (r.map clc) (clc c);obtain⟨Y,e3⟩:=jpb c k (by omega) (ht c (by simp));have s3:=jiP M (r.map clc) (clc c) [.sl 3 Y];have e2:=jgj (i:=M.length) (n:=M.length+1) (by omega) (by omega);obtain⟨X,ih⟩:=jkO r (M++[[.sl 3 Y]]) (k+mkC c) (by omega) (by simp;omega) λu hu=>ht u (by simp[hu]);have q:(M++[[A.sl 3 Y]]).length=M.length+1:=by simp
  have q2:M++[[A.sl 3 Y]]++r.map clc=M++[.sl 3 Y]::r.map clc:=by simp
  rw[q,q2,show k+mkC c+jmS r=k+(mkC c+jmS r) by omega]at ih;have o3:Zj (clc c) 0 [.sl 3 Y]=[.sl 3 Y]:=rfl;refine⟨X,?_⟩;rw[jyk,jd1,jmS];simp only[evz,h1,h2,h3,jnW,e3,List.getElem?_cons_zero,o3,s3,e2,ih]
theorem jm0:∀(r:Xi)(M:Xc)(k:Nat),k+r.length<=100000000->M.length+r.length<=9223372036854775807->
  ∃X,jnv (vi (k:Nat)) (vi (M.length:Nat)) (M++r.map ci)=some (.top,[vi ((k+r.length:Nat):Int),.sl 65 X])
 | [],M,k,hk,hl=>by
  refine⟨M,?_⟩;rw[jpK,List.map_nil,jf4];simp only[evz,jfg]
 |x::r,M,k,hk,hl=>by
  simp only[jfC]at hk hl;have h1:((M.length:Nat):Int)<(((M++ci x::r.map ci).length:Nat):Int):=by simp;omega
  have h2:=jjB M (r.map ci) (ci x);have h3:=jiO M (r.map ci) (ci x);have s3:=jiP M (r.map ci) (ci x) [vi (k:Nat)];have e1:=jgj (i:=k) (n:=k+1) (by omega) (by omega);have e2:=jgj (i:=M.length) (n:=M.length+1) (by omega) (by omega);obtain⟨X,ih⟩:=jm0 r (M++[[vi (k:Nat)]]) (k+1) (by omega) (by simp;omega);have q:(M++[[vi (k:Nat)]]).length=M.length+1:=by simp
  have q2:M++[[vi (k:Nat)]]++r.map ci=M++[vi (k:Nat)]::r.map ci:=by simp
  rw[q,q2,show k+1+r.length=k+(r.length+1) by omega]at ih;have o3:Zj (ci x) 0 [vi (k:Nat)]=[vi (k:Nat)]:=rfl;have t1:jej (ci x) 0 1=true:=rfl;refine⟨X,?_⟩;rw[jpK,jd1,jfC];simp only[evz,h1,h2,h3,jkK,t1,o3,s3,e1,e2,ih]
theorem jpa(l:Xi)(k:Nat)(hk:k+l.length<=100000000):∃X,jrM (vi (k:Nat)) (l.map ci)=some (.top,[vi ((k+l.length:Nat):Int),.sl 65 X]):=by
 obtain⟨X,h⟩:=jm0 l [] k hk (by simp;omega)
 refine⟨X,?_⟩;rw[jFa];exact h
def mkS(s:Stp):Nat:=1+s.par.length+s.whr.length+mkC s.cls
def joK:List Stp->Nat
 | []=>0
 |s::l=>mkS s+joK l
theorem jys:∀l:List Stp,joK l<=l.length+2*jns l
 | []=>by simp[joK]
 |s::l=>by
  have h1:=jys l;have h2:=jw9 s.cls;simp only[joK,mkS,jns,ssz,csz,jfC];omega
theorem jmb:∀(r:List Stp)(M:Xc)(k:Nat),k+joK r<=100000000->M.length+r.length<=9223372036854775807->(∀s∈r,swf s)->
  ∃X,jpy (vi (k:Nat)) (vi (M.length:Nat)) (M++r.map stc)=some (.top,[vi ((k+joK r:Nat):Int),.sl 68 X])
 | [],M,k,hk,hl,_=>by
  refine⟨M,?_⟩;rw[jyl,List.map_nil,jf4];simp only[evz,joK,jfg]
 |s::r,M,k,hk,hl,ht=>by
  simp only[joK,mkS,jfC]at hk hl;have h1:((M.length:Nat):Int)<(((M++stc s::r.map stc).length:Nat):Int):=by simp;omega
  have e1:=jgj (i:=k) (n:=k+1) (by omega) (by omega);have e2:=jgj (i:=M.length) (n:=M.length+1) (by omega) (by omega);obtain⟨Y1,m1⟩:=jpa s.par (k+1) (by omega);obtain⟨Y2,m2⟩:=jpa s.whr (k+1+s.par.length) (by omega);obtain⟨Y3,m3⟩:=jpb s.cls (k+1+s.par.length+s.whr.length) (by omega) (ht s (by simp)).2.2.2;have i0:=jjB M (r.map stc) (stc s);have g0:=jiO M (r.map stc) (stc s);have s0:=jiP M (r.map stc) (stc s) [vi (k:Nat),ints s.par,ints s.whr,.sl 3 (s.cls.map ltc)];have i1:=jjB M (r.map stc) [vi (k:Nat),ints s.par,ints s.whr,.sl 3 (s.cls.map ltc)];have g1:=jiO M (r.map stc) [vi (k:Nat),ints s.par,ints s.whr,.sl 3 (s.cls.map ltc)];have s1:=jiP M (r.map stc) [vi (k:Nat),ints s.par,ints s.whr,.sl 3 (s.cls.map ltc)] [vi (k:Nat),.sl 1 Y1,ints s.whr,.sl 3 (s.cls.map ltc)];have i2:=jjB M (r.map stc) [vi (k:Nat),.sl 1 Y1,ints s.whr,.sl 3 (s.cls.map ltc)];have g2:=jiO M (r.map stc) [vi (k:Nat),.sl 1 Y1,ints s.whr,.sl 3 (s.cls.map ltc)];have s2:=jiP M (r.map stc) [vi (k:Nat),.sl 1 Y1,ints s.whr,.sl 3 (s.cls.map ltc)] [vi (k:Nat),.sl 1 Y1,.sl 1 Y2,.sl 3 (s.cls.map ltc)];have i3:=jjB M (r.map stc) [vi (k:Nat),.sl 1 Y1,.sl 1 Y2,.sl 3 (s.cls.map ltc)];have g3:=jiO M (r.map stc) [vi (k:Nat),.sl 1 Y1,.sl 1 Y2,.sl 3 (s.cls.map ltc)];have s3:=jiP M (r.map stc) [vi (k:Nat),.sl 1 Y1,.sl 1 Y2,.sl 3 (s.cls.map ltc)] [vi (k:Nat),.sl 1 Y1,.sl 1 Y2,.sl 3 Y3];obtain⟨X,ih⟩:=jmb r (M++[[vi (k:Nat),.sl 1 Y1,.sl 1 Y2,.sl 3 Y3]]) (k+1+s.par.length+s.whr.length+mkC s.cls) (by omega) (by simp;omega) λu hu=>ht u (by simp[hu]);have q:(M++[[vi (k:Nat),.sl 1 Y1,.sl 1 Y2,.sl 3 Y3]]).length=M.length+1:=by simp
  have q2:M++[[vi (k:Nat),.sl 1 Y1,.sl 1 Y2,.sl 3 Y3]]++r.map stc=M++[vi (k:Nat),.sl 1 Y1,.sl 1 Y2,.sl 3 Y3]::r.map stc:=by simp
  rw[q,q2,show k+1+s.par.length+s.whr.length+mkC s.cls+joK r=k+(1+s.par.length+s.whr.length+mkC s.cls+joK r) by omega]at ih;have o0:Zj (stc s) 0 [vi (k:Nat)]=[vi (k:Nat),ints s.par,ints s.whr,.sl 3 (s.cls.map ltc)]:=rfl;have o1:Zj [vi (k:Nat),ints s.par,ints s.whr,.sl 3 (s.cls.map ltc)] 1 [.sl 1 Y1]=[vi (k:Nat),.sl 1 Y1,ints s.whr,.sl 3 (s.cls.map ltc)]:=rfl;have o2:Zj [vi (k:Nat),.sl 1 Y1,ints s.whr,.sl 3 (s.cls.map ltc)] 2 [.sl 1 Y2]=[vi (k:Nat),.sl 1 Y1,.sl 1 Y2,.sl 3 (s.cls.map ltc)]:=rfl;have o3:Zj [vi (k:Nat),.sl 1 Y1,.sl 1 Y2,.sl 3 (s.cls.map ltc)] 3 [.sl 3 Y3]=[vi (k:Nat),.sl 1 Y1,.sl 1 Y2,.sl 3 Y3]:=rfl;have t0:jej (stc s) 0 1=true:=rfl;refine⟨X,?_⟩;rw[jyl,jd1,joK,mkS];simp only[evz,h1,i0,g0,jkK,t0,o0,s0,e1,i1,g1,jnW,m1,List.getElem?_cons_zero,o1,s1,i2,g2,m2,o2,s2,i3,g3,m3,o3,s3,e2,ih]
theorem jtU(p:Prf)(hw:pwf p)(hz:psz p<=1048576):∃(k:Nat)(X Y:Xc),jz7 (vi 1) (p.ax.map clc) (p.st.map stc)=some (.top,[vi (k:Nat),.sl 65 X,.sl 68 Y]):=by
 have h1:=jyr p.ax;have h2:=jys p.st;unfold psz at hz;obtain⟨X,m1⟩:=jkO p.ax [] 1 (by omega) (by simpa using hw.1.2) hw.1.1;obtain⟨Y,m2⟩:=jmb p.st [] (1+jmS p.ax) (by omega) (by simpa using hw.2.2) hw.2.1;have e1:jAc (vi 1) (p.ax.map clc)=some (.top,[vi ((1+jmS p.ax:Nat):Int),.sl 65 X]):=by
  rw[jHp];exact m1
 have e2:jAd (vi ((1+jmS p.ax:Nat):Int)) (p.st.map stc)=some (.top,[vi ((1+jmS p.ax+joK p.st:Nat):Int),.sl 68 Y]):=by
  rw[jHq];exact m2
 refine⟨1+jmS p.ax+joK p.st,X,Y,?_⟩;rw[jHk];simp only[evz,e1,e2,List.getElem?_cons_zero]
def jnt(w:Nat->Bool)(q:Nat):Nat->Bool:=λj=>decide (j=q) || w j
def jkG(w:Nat->Bool)(ps:Xi):Nat->Bool:=ps.foldl (λw q=>jnt w q.toNat) w
def jkZ(par:Nat->Xi):Nat->(Nat->Bool)->Nat->Bool
 |0,w=>w
 |m+1,w=>jkZ par m (if w m then jkG w (par m)else w)
def jq4(par:Nat->Xi):Nat->(Nat->Bool)->Xf
 |0,_=>[]
 |m+1,w=>if w m then m::jq4 par m (jkG w (par m))else jq4 par m w
theorem jts{j:Nat} :∀(ps:Xi)(w:Nat->Bool),(∀q∈ps,0<=q/\q<(j:Int))->jkG w ps j=w j
 | [],_,_=>rfl
 |q::ps,w,h=>by
  show jkG (jnt w q.toNat) ps j=w j;rw[jts ps _ λx hx=>h x (List.mem_cons_of_mem _ hx)];have:=h q List.mem_cons_self;unfold jnt;rw[decide_eq_false (by omega),Bool.false_or]
section
variable{par:Nat->Xi}(hp:∀(i:Nat),∀q∈par i,0<=q/\q<(i:Int))
include hp
theorem jwe:∀(m:Nat)(w:Nat->Bool)(j:Nat),m<=j->jkZ par m w j=w j
 |0,_,_,_=>rfl
 |m+1,w,j,h=>by
  show jkZ par m _ j=w j;rw[jwe m _ j (by omega)];split
  .exact jts _ _ λq hq=>by have:=hp m q hq;omega
  .rfl
theorem jq5:∀(m:Nat)(w:Nat->Bool),(jq4 par m w).reverse=(List.range m).filter (jkZ par m w)
 |0,_=>rfl
 |m+1,w=>by
  have key:∀b:Nat->Bool,b m=w m->(jkZ par m b) m=w m:=λb hb=>by rw[jwe hp m b m (jdB _),hb]
  rw[List.range_succ,List.filter_append];show(if w m then m::jq4 par m (jkG w (par m))else jq4 par m w).reverse=List.filter (jkZ par m (if w m then jkG w (par m)else w)) (List.range m)++List.filter (jkZ par m (if w m then jkG w (par m)else w)) [m];cases hw:w m with
  |true=>
   rw[jbZ rfl,jbZ rfl,List.reverse_cons,jq5 m];have:=key (jkG w (par m)) (jts _ _ (hp m));rw[hw]at this;rw[List.filter_cons_of_pos this,List.filter_nil]
  |false=>
   rw[ja0 Bool.false_ne_true,ja0 Bool.false_ne_true,jq5 m];have:=key w rfl;rw[hw]at this;rw[List.filter_cons_of_neg (by rw[this];exact Bool.false_ne_true),List.filter_nil,jf4]
end
theorem jIb{n:Nat}(h:n<=4194304):jbB n 8=true:=by
 unfold jbB;exact decide_eq_true ⟨by omega,by omega⟩
theorem jwF{l:Xi}{j:Nat}{y:Int}(h:l[j]? = some y):jbF (l.map ci) j=some (ci y)/\jc0 (l.map ci) j 0=some (vi y)/\pIx l.length (vi (j:Nat))=some j:=by
 have hj:=(jeM.1 h).1;refine⟨by unfold jbF;simp[h],by unfold jc0;simp[h],jgZ hj⟩
theorem jAA(l:Xi)(j:Nat)(y:Int):Y9 (l.map ci) j [vi y]=(l.set j y).map ci:=by
 unfold Y9;rw[List.map_set]
theorem jC1:∀(n:Nat)(X M Y:Xi),M.length=n->X.length+M.length+Y.length<=1048576->
  jpz (vi (X.length:Nat)) (vi ((X.length:Nat)+(M.length:Nat)-1)) ((X++M++Y).map ci)=some (.top,[.sl 1 ((X++M.reverse++Y).map ci)]):=by
 intro n;induction n using Nat.strongRecOn with
 |ind n ih=>
 intro X M Y hn hl;rw[jEs]
 match M,hn with
 | [],_=>
  have h:¬((X.length:Nat):Int)<((X.length:Nat):Int)+((0:Nat):Int)-1:=by omega
  simp only[evz,h,List.reverse_nil]
 | [x],_=>
  have h:¬((X.length:Nat):Int)<((X.length:Nat):Int)+((1:Nat):Int)-1:=by omega
  simp only[evz,h,List.reverse_singleton]
 |x::z::T,hn=>
  obtain⟨W,y,hW⟩:∃W y,z::T=W++[y]:=⟨(z::T).dropLast,(z::T).getLast (by simp),(List.dropLast_concat_getLast (by simp)).symm⟩;rw[hW]at hn hl⊢;have hln:(x::(W++[y])).length=W.length+2:=by simp
  rw[hln]at hn hl⊢;generalize hq:X++x::(W++[y])++Y=l;have hL:l.length=X.length+W.length+2+Y.length:=by rw[<-hq];simp;omega
  have gi:l[X.length]? = some x:=by rw[<-hq];simp
  have gj:l[X.length+W.length+1]? = some y:=by
   rw[<-hq,show X++x::(W++[y])++Y=(X++x::W)++y::Y by simp,jeU (by simp;omega)]
   simp;rw[show X.length+W.length+1-(X.length+(W.length+1))=0 by omega];rfl
  have hj:((X.length:Nat):Int)+((W.length+2:Nat):Int)-1=((X.length+W.length+1:Nat):Int):=by omega
  rw[hj];have hlt:((X.length:Nat):Int)<((X.length+W.length+1:Nat):Int):=by omega
  obtain⟨a1,a2,a3⟩:=jwF gi;obtain⟨b1,b2,b3⟩:=jwF gj;have s1:=jAA l X.length y;have gj':(l.set X.length y)[X.length+W.length+1]? = some y:=by
   rw[jfy (by omega)];exact gj
  obtain⟨d1,d2,d3⟩:=jwF gj';rw[jfz]at d3;have s2:=jAA (l.set X.length y) (X.length+W.length+1) x;have fin:(l.set X.length y).set (X.length+W.length+1) x=(X++[y])++W++(x::Y):=by
   rw[<-hq,show X++x::(W++[y])++Y=X++x::(W++y::Y) by simp,List.set_append_right _ _ (jdB _),Nat.sub_self];show(X++y::(W++y::Y)).set (X.length+W.length+1) x=_;rw[show X++y::(W++y::Y)=(X++y::W)++y::Y by simp,List.set_append_right _ _ (by simp;omega)];simp;rw[show X.length+W.length+1-(X.length+(W.length+1))=0 by omega];rfl
  rw[fin]at s2;have c1:=jgj (i:=X.length) (n:=X.length+1) (by omega) (by omega);have c2:ck (((X.length+W.length+1:Nat):Int)-1)=some (vi (((X++[y]).length:Nat)+(W.length:Nat)-1)):=by
   rw[jgA (by omega) (by omega)];congr 2;simp;omega
  have:=ih W.length (by omega) (X++[y]) W (x::Y) rfl (by simp;omega)
  rw[show(X++[y]).length=X.length+1 by simp]at this c2;have e:X++[y]++W.reverse++x::Y=X++(x::(W++[y])).reverse++Y:=by simp
  rw[e]at this;have o1:Zj (ci x) 0 [vi y]=[vi y]:=rfl;have o2:Zj (ci y) 0 [vi x]=[vi x]:=rfl;simp only[evz,hlt,a1,a2,a3,b2,b3,s1,d1,s2,c1,c2,o1,o2,this,jfz]
theorem jxp(l:Xi)(hl:l.length<=1048576):jAh (l.map ci)=some (.top,[.sl 1 (l.reverse.map ci)]):=by
 have h:=jC1 l.length [] l [] rfl (by simpa using hl);have c:ck (((l.length:Nat):Int)-1)=some (vi (((l.length:Nat):Int)-1)):=jgA (by omega) (by omega);simp only[jfw,jf4,jfJ,Int.natCast_zero,Int.zero_add]at h;rw[jHu];simp only[evz,c,h]
def bT(n:Nat)(w:Nat->Bool):Xc:=(List.range n).map λi=>[vb (w i)]
theorem jk9(n:Nat)(w:Nat->Bool):(bT n w).length=n:=by simp[bT]
theorem jtx{n q:Nat}(w:Nat->Bool)(h:q<n):jbF (bT n w) q=some [vb (w q)]:=by simp[bT,jbF,h]
theorem jty{n q:Nat}(w:Nat->Bool)(h:q<n):jc0 (bT n w) q 0=some (vb (w q)):=by simp[bT,jc0,h]
theorem jtz{n q:Nat}(w:Nat->Bool)(h:q<n):Y9 (bT n w) q [vb true]=bT n (jnt w q):=by
 unfold Y9 bT;refine List.ext_getElem (by simp) λi h1 h2=>?_;simp only[List.getElem_set,List.getElem_map,List.getElem_range];unfold jnt;by_cases hq:q=i
 .subst hq;simp
 .rw [ja0 hq,decide_eq_false (by omega),Bool.false_or]
theorem jAq(n:Nat):QP n [vb false]=bT n λ_=>false:=by
 unfold QP bT;exact List.ext_getElem (by simp) λi h1 h2=>by simp
def prL(p:Prf)(i:Nat):Xi:=if h:i<p.st.length then p.st[i].par else[]
theorem jra{p:Prf}{i:Nat}(h:i<p.st.length):prL p i=p.st[i].par:=by unfold prL;rw[dif_pos h]
section
variable{p:Prf}(hp:∀i:Nat,∀q∈prL p i,0<=q/\q<(i:Int))(hb:∀i:Nat,(prL p i).length<=9223372036854775807)(h60:p.st.length<=60)
include hp hb h60
omit hp hb in
theorem jxY(a:A)(i:Nat)(R:Xc)(hi:i<=p.st.length):∀(r M:Xi)(w:Nat->Bool),(∀q∈r,0<=q/\q<(i:Int))->(M++r).length<=9223372036854775807->
  jpw (vi (i:Nat)) (ints (M++r)) (vi ((M++r).length:Nat)) (vi (M.length:Nat)) a (jhT p.st) (bT p.st.length w) R=jms (vi ((i:Nat)-1)) a (jhT p.st) (bT p.st.length (jkG w r)) R
 | [],M,w,_,_=>by
  have c:ck (((i:Nat):Int)-1)=some (vi (((i:Nat):Int)-1)):=jgA (by omega) (by omega);rw[jyj,jf4];simp only[evz,c];rfl
 |x::r,M,w,h,hl=>by
  have h1:=jtV M r x;have h2:kL 1 (ints (M++x::r)) (vi (M.length:Nat))=some (.elt (ci x) 0):=jqT (f:=ci) (k:=1) M r x;have h3:QO (.elt (ci x) 0)=some (vi x):=rfl;obtain⟨hx0,hx1⟩:=h x (by simp);obtain⟨q,rfl⟩:=jfX hx0;have hq:q<p.st.length:=by omega
  have h4:pIx p.st.length (vi ((q:Nat):Int))=some q:=jgZ hq;have h5:=jgj (i:=M.length) (n:=(M++(q:Int)::r).length) (by simp) (by simpa using hl);have ih:=jxY a i R hi r (M++[(q:Int)]) (jnt w q) (λy hy=>h y (by simp[hy])) (by simpa using hl);have e:(M++[(q:Int)]).length=M.length+1:=by simp
  rw[e,jet,List.singleton_append]at ih;have o1:Zj [vb (w q)] 0 [vb true]=[vb true]:=rfl;have e2:jkG w ((q:Int)::r)=jkG (jnt w q) r:=rfl;rw[jyj,e2];simp only[evz,h1,h2,h3,h4,jk9,jtx w hq,o1,jtz w hq,h5,ih]
theorem joy(a:A):∀(m:Nat)(w:Nat->Bool)(acc:Xi),m<=p.st.length->acc.length+m<=100->
  jms (vi ((m:Nat)-1)) a (jhT p.st) (bT p.st.length w) (acc.map ci)=some (.top,[ints ((acc++(jq4 (prL p) m w).map Int.ofNat).reverse)])
 |0,w,acc,hm,hl=>by
  have hr:=jxp acc (by omega);have h:¬(0:Int)<=((0:Nat):Int)-1:=by omega
  rw[jyi];simp only[evz,h,hr,jq4,List.map_nil,jf4]
 |m+1,w,acc,hm,hl=>by
  have hlt:m<p.st.length:=by omega
  rw[show((m+1:Nat):Int)-1=((m:Nat):Int) by omega];have h0:(0:Int)<=((m:Nat):Int):=by omega
  have h4:pIx p.st.length (vi ((m:Nat):Int))=some m:=jgZ hlt;have c:ck (((m:Nat):Int)-1)=some (vi (((m:Nat):Int)-1)):=jgA (by omega) (by omega);rw[jyi];show _=some (A.top,[ints ((acc++(if w m then m::jq4 (prL p) m (jkG w (prL p m))else jq4 (prL p) m w).map Int.ofNat).reverse)]);cases hw:w m with
  |false=>
   have ih:=joy a m w acc (by omega) (by omega);rw[ja0 Bool.false_ne_true];have b:=jty w hlt;rw[hw]at b;simp only[evz,h0,jk9,h4,b,c,ih]
  |true=>
   have hf:jbB (acc.length+1) 8=true:=jIb (by omega);have pl:jdk (.elt (stc p.st[m]) 0) 1=some (.elt (stc p.st[m]) 1):=by rw[jip]
   have lp:QO (.elt (stc p.st[m]) 1)=some (ints p.st[m].par):=rfl;have hin:=jxY h60 a m ((acc++[(m:Int)]).map ci) (by omega) p.st[m].par [] w (by rw[<-jra hlt];exact hp m) (by rw[jfw,<-jra hlt];exact hb m);have ih:=joy a m (jkG w (prL p m)) (acc++[(m:Int)]) (by omega) (by simp;omega);rw[jra hlt]at ih⊢;simp only[jfw,jfJ,Int.natCast_zero]at hin;have ha:jeV (acc.map ci) [[vi ((m:Nat):Int)]]=(acc++[(m:Int)]).map ci:=by unfold jeV;rw[List.map_append];rfl
   have e:acc++[(m:Int)]++(jq4 (prL p) m (jkG w p.st[m].par)).map Int.ofNat=acc++(m::jq4 (prL p) m (jkG w p.st[m].par)).map Int.ofNat:=by simp
   rw[jbZ rfl,<-e];have b:=jty w hlt;rw[hw]at b;simp only[evz,h0,jk9,h4,b,hf,jfY hlt,pl,lp,ha,hin,ih]
theorem jDI(k:Nat)(hk:k<p.st.length):jAb (prm p) (vi (k:Nat))=some (.top,[ints (((List.range (k+1)).filter (jkZ (prL p) (k+1) λj=>decide (j=k))).map Int.ofNat)]):=by
 have h:=joy hp hb h60 (cls p.ax) (k+1) (λj=>decide (j=k)) [] (by omega) (by simp;omega)
 rw[show((k+1:Nat):Int)-1=((k:Nat):Int) by omega,jfw,<-List.map_reverse,jq5 hp]at h;have mk:=jic (b:=1) (n:=p.st.length) (by omega) (by omega);have h4:pIx p.st.length (vi ((k:Nat):Int))=some k:=jgZ hk;have z:jnt (λ_=>false) k=λj=>decide (j=k):=by funext j;simp[jnt]
 have g:=jtx (λ_=>false) hk;have st:=jtz (λ_=>false) hk;rw[z]at st;have o1:Zj [vb false] 0 [vb true]=[vb true]:=rfl;simp only[List.map_nil]at h;rw[jHo];simp only[evz,mk,jAq,jk9,h4,g,o1,st,h]
omit hb in
theorem jxZ(a:A)(k i:Nat)(hi:i<=k)(hk:k<p.st.length):∀(r M:Xi)(w:Nat->Bool),prL p i=M++r->(M++r).length<=9223372036854775807->
  jpt (vi (k:Nat)) (vi (i:Nat)) (vi (M.length:Nat)) a (jhT p.st) (bT (k+1) w)=jnD (vi (k:Nat)) (vi ((i:Nat)-1)) a (jhT p.st) (bT (k+1) (if w i then jkG w r else w))
 | [],M,w,hM,_=>by
  have hlt:i<p.st.length:=by omega
  rw[jra hlt,jf4]at hM;have c:ck (((i:Nat):Int)-1)=some (vi (((i:Nat):Int)-1)):=jgA (by omega) (by omega);have pl:jdk (.elt (stc p.st[i]) 0) 1=some (.elt (stc p.st[i]) 1):=by rw[jip]
  have lp:QO (.elt (stc p.st[i]) 1)=some (ints M):=by rw[<-hM];rfl
  have e:(if w i then jkG w []else w)=w:=by split<;>rfl
  have n:¬((M.length:Nat):Int)<((M.length:Nat):Int):=by omega
  rw[jye,e];simp only[evz,jfY hlt,pl,lp,n,c]
 |x::r,M,w,hM,hl=>by
  have hlt:i<p.st.length:=by omega
  have hx:=hp i x (by rw[hM];simp)
  have hMp:=hM;rw[jra hlt]at hM;have c:ck (((i:Nat):Int)-1)=some (vi (((i:Nat):Int)-1)):=jgA (by omega) (by omega);have pl:jdk (.elt (stc p.st[i]) 0) 1=some (.elt (stc p.st[i]) 1):=by rw[jip]
  have lp:QO (.elt (stc p.st[i]) 1)=some (ints (M++x::r)):=by rw[<-hM];rfl
  have h1:=jtV M r x;have h2:kL 1 (ints (M++x::r)) (vi (M.length:Nat))=some (.elt (ci x) 0):=jqT (f:=ci) (k:=1) M r x;obtain⟨q,rfl⟩:=jfX hx.1;have h3:QO (.elt (ci (q:Int)) 0)=some (vi (q:Int)):=rfl;have hq:q<k+1:=by omega
  have h4:pIx (k+1) (vi ((q:Nat):Int))=some q:=jgZ hq;have h6:pIx (k+1) (vi ((i:Nat):Int))=some i:=jgZ (by omega);have h5:=jgj (i:=M.length) (n:=(M++(q:Int)::r).length) (by simp) (by simpa using hl);have o1:Zj [vb (w q)] 0 [vb true]=[vb true]:=rfl;have b:=jty w (show i<k+1 by omega);rw[jye];cases hw:w i with
  |false=>
   rw[hw]at b;rw[ja0 Bool.false_ne_true];simp only[evz,jfY hlt,pl,lp,h1,jk9,h6,b,c]
  |true=>
   rw[hw]at b;have ih:=jxZ a k i hi hk r (M++[(q:Int)]) (jnt w q) (by rw[hMp];simp) (by simpa using hl);have e:(M++[(q:Int)]).length=M.length+1:=by simp
   have eu:jnt w q i=true:=by unfold jnt;rw[hw,Bool.or_true]
   rw[e,eu,jbZ rfl]at ih;have e2:jkG w ((q:Int)::r)=jkG (jnt w q) r:=rfl;rw[jbZ rfl,e2];simp only[evz,jfY hlt,pl,lp,h1,h2,h3,h4,jk9,h6,b,jtx w hq,o1,jtz w hq,h5,ih]
theorem jrQ(a:A)(k:Nat)(hk:k<p.st.length):∀(m:Nat)(w:Nat->Bool),m<=k+1->
  jnD (vi (k:Nat)) (vi ((m:Nat)-1)) a (jhT p.st) (bT (k+1) w)=jk5 (vi (k:Nat)) (vi 0) (bT (k+1) (jkZ (prL p) m w)) []
 |0,w,_=>by
  have h:¬(0:Int)<=((0:Nat):Int)-1:=by omega
  rw[jyd];simp only[evz,h,jkZ]
 |m+1,w,hm=>by
  have h0:(0:Int)<=((m:Nat):Int):=by omega
  have h:=jxZ hp h60 a k m (by omega) hk (prL p m) [] w rfl (by rw[jfw];exact hb m)
  have ih:=jrQ a k hk m (if w m then jkG w (prL p m)else w) (by omega);simp only[jfJ,Int.natCast_zero]at h;rw[show((m+1:Nat):Int)-1=((m:Nat):Int) by omega,jyd];simp only[evz,h0,h,ih];rfl
omit hp hb h60 in
theorem jAm(k:Nat)(hk:k<=100)(W:Nat->Bool):jk5 (vi (k:Nat)) (vi 0) (bT (k+1) W) []=some (.top,[ints (((List.range (k+1)).filter W).map Int.ofNat)]):=by
 have key:=upto (P:=λi=>jk5 (vi (k:Nat)) (vi i) (bT (k+1) W) ((((List.range i).filter W).map Int.ofNat).map ci)=some (.top,[ints (((List.range (k+1)).filter W).map Int.ofNat)])) (n:=k+1) ?_ ?_ 0 (Nat.zero_le _)
 .exact key
 .have h:¬((k+1:Nat):Int)<=((k:Nat):Int):=by omega
  rw[jyf];simp only[evz,h]
 .intro i hi ih;have h:((i:Nat):Int)<=((k:Nat):Int):=by omega
  have h6:pIx (k+1) (vi ((i:Nat):Int))=some i:=jgZ hi;have b:=jty W hi;have h5:=jgj (i:=i) (n:=k+1) hi (by omega);have hl:((List.range i).filter W).length<=i:=by have:=List.length_filter_le W (List.range i);simpa using this
  rw[List.range_succ,List.filter_append]at ih;rw[jyf];cases hw:W i with
  |false=>
   rw[hw]at b;rw[List.filter_cons_of_neg (by rw[hw];exact Bool.false_ne_true),List.filter_nil,jf4]at ih;simp only[evz,h,jk9,h6,b,h5,ih]
  |true=>
   rw[hw]at b;rw[List.filter_cons_of_pos hw,List.filter_nil,List.map_append,List.map_append]at ih;have hf:jbB (((List.range i).filter W).length+1) 8=true:=jIb (by omega);have ha:jeV ((((List.range i).filter W).map Int.ofNat).map ci) [[vi ((i:Nat):Int)]]=(((List.range i).filter W).map Int.ofNat).map ci++([i].map Int.ofNat).map ci:=rfl;simp only[evz,h,jk9,h6,b,hf,ha,h5,ih]
theorem jDJ(k:Nat)(hk:k<p.st.length):jz8 (prm p) (vi (k:Nat))=some (.top,[ints (((List.range (k+1)).filter (jkZ (prL p) (k+1) λj=>decide (j=k))).map Int.ofNat)]):=by
 have h:=jrQ hp hb h60 (cls p.ax) k hk (k+1) (λj=>decide (j=k)) (jdB _);rw[jAm k (by omega),show((k+1:Nat):Int)-1=((k:Nat):Int) by omega]at h;have mk:=jic (b:=1) (n:=k+1) (by omega) (by omega);have c:ck (((k:Nat):Int)+1)=some (vi ((k+1:Nat):Int)):=by rw[jgA (by omega) (by omega)];rfl
 have hk1:k<k+1:=by omega
 have h4:pIx (k+1) (vi ((k:Nat):Int))=some k:=jgZ hk1;have z:jnt (λ_=>false) k=λj=>decide (j=k):=by funext j;simp[jnt]
 have g:=jtx (λ_=>false) hk1;have st:=jtz (λ_=>false) hk1;rw[z]at st;have o1:Zj [vb false] 0 [vb true]=[vb true]:=rfl;rw[jHl];simp only[evz,c,mk,jAq,jk9,h4,g,o1,st,h]
end
def jlF:Option Lt->Cls->Bool
 |_,[]=>true
 |none,l::r=>jiB l.2 && jlF (some l) r
 |some p,l::r=>jiB l.2 && (decide (cmpL p l<0) && jlF (some l) r)
theorem jsw:∀(p:Lt)(c:Cls),jlF (some p) c=(c.all (λl=>jiB l.2) && juq (p::c))
 |p,[]=>rfl
 |p,l::r=>by
  rw[jlF,jsw l r,jev,juq];cases jiB l.2<;>cases decide (cmpL p l<0)<;>simp
theorem jsv(c:Cls):(jlF none c && decide (c.length<=8))=jhP c:=by
 unfold jhP;cases c with
 |nil=>rfl
 |cons l r=>rw[jlF,jsw,jev];cases jiB l.2<;>simp[Bool.and_assoc]
theorem jgS(l:Lt):QN 3 (.elt (ltc l) 0)=some (ltm l):=rfl
theorem jwb(c:Cls)(hl:c.length<=1048576)(hz:∀l∈c,Tz l.2):∀i,i<=c.length-> ∀p:Option Lt,(p=none↔i=0)->(∀q,p=some q->jiB q.2=true/\ ∃h:i-1<c.length,c[i-1]=q)->
  jsE (.sl 3 (c.map ltc)) (vi (c.length:Nat)) (vi (i:Nat)) (.sl 3 (c.map ltc))=some (vb (jlF p (c.drop i) && decide (c.length<=8)),[]):=by
 refine upto ?_ ?_
 .intro p _ _;have e:decide (((c.length:Nat):Int)<=8)=decide (c.length<=8):=by congr 1;exact propext (by omega)
  rw[jBb,List.drop_length,<-e];have:jlF p []=true:=by cases p<;>rfl
  rw[this];simp only[evz,Bool.true_and]
 .intro i hi ih p hp hq;have hlt:(i:Int)<((c.length:Nat):Int):=by omega
  have h5:=jgj hi (by show c.length<=9223372036854775807;omega)
  have e1:=jnY c[i] (hz _ (jfL hi));have ix:=jfY (k:=3) (f:=ltc) hi;have e1:G 153 [.agg [vb c[i].1,sv c[i].2.name,tms c[i].2.args]]=some (vb (jiB c[i].2),[]):=e1;rw[jBb,jgg hi];cases ha:jiB c[i].2 with
  |false=>
   rw[ha]at e1;have:jlF p (c[i]::c.drop (i+1))=false:=by cases p<;>rw[jlF,ha]<;>rfl
   rw[this];simp only[evz,hlt,ix,jgS,e1,Bool.false_and]
  |true=>
   rw[ha]at e1;have ih1:=ih (some c[i]) (by simp) (λq hq=>by cases hq;exact⟨ha,by simpa using hi,rfl⟩);cases p with
   |none=>
    have h0:i=0:=hp.1 rfl;have hg:¬(0:Int)<(i:Int):=by omega
    rw[jlF,ha,Bool.true_and,<-ih1];simp only[evz,hlt,ix,jgS,e1,hg,h5]
   |some q=>
    obtain⟨hqa,hq1,hq2⟩:=hq q rfl;have hi0:¬i=0:=λh=>by have:=hp.2 h;cases this
    have hg:(0:Int)<(i:Int):=by omega
    have c1:ck ((i:Int)-1)=some (vi ((i-1:Nat):Int)):=by rw[show(i:Int)-1=((i-1:Nat):Int) by omega,jgA (by omega) (by omega)]
    have ix2:=jfY (k:=3) (f:=ltc) hq1;rw[hq2]at ix2;have hqz:Tz q.2:=by rw[<-hq2];exact hz _ (jfL hq1)
    have e2:=jjT q c[i] (jx1 hqa) hqz (jx1 ha) (hz _ (jfL hi));have e2:G 154 [.agg [vb q.1,sv q.2.name,tms q.2.args],.agg [vb c[i].1,sv c[i].2.name,tms c[i].2.args]]=some (vi (cmpL q c[i]),[]):=e2;rw[jlF,ha,Bool.true_and];by_cases hc:cmpL q c[i]<0
    .have hc':¬(0:Int)<=cmpL q c[i]:=by omega
     rw[decide_eq_true hc,Bool.true_and,<-ih1];generalize cmpL q c[i]=d at *;simp only[evz,hlt,ix,jgS,e1,hg,c1,ix2,e2,hc',h5]
    .have hc':(0:Int)<=cmpL q c[i]:=by omega
     rw[decide_eq_false hc];generalize cmpL q c[i]=d at *;simp only[evz,hlt,ix,jgS,e1,hg,c1,ix2,e2,hc',Bool.false_and]
theorem jkL(c:Cls)(hl:c.length<=1048576)(hz:∀l∈c,Tz l.2):G 126 [cm c]=some (vb (jhP c),[]):=by
 have key:=jwb c hl hz 0 (Nat.zero_le _) none (by simp) (λq h=>by cases h);rw[List.drop_zero,jsv]at key;simp only[Int.natCast_zero]at key;rw[jI6];simp only[evz,key]
theorem jwc(c:Cls)(hl:c.length<=1048576)(hz:∀l∈c,Tz l.2):∀i,i<=c.length-> ∀p:Option Lt,(p=none↔i=0)->(∀q,p=some q-> ∃h:i-1<c.length,c[i-1]=q)->
  jxV (vi (i:Nat)) (.sl 3 (c.map ltc))=some (vb (jlF p (c.drop i)),[]):=by
 refine upto ?_ ?_
 .intro p _ _;rw[jFs,List.drop_length];have:jlF p []=true:=by cases p<;>rfl
  rw[this];simp only[evz]
 .intro i hi ih p hp hq;have hlt:(i:Int)<((c.length:Nat):Int):=by omega
  have h5:=jgj hi (by show c.length<=9223372036854775807;omega)
  have e1:=jr2 c[i].2 (hz _ (jfL hi)).wf (hz _ (jfL hi));have ix:=jfY (k:=3) (f:=ltc) hi;have ad:jdk (.elt (ltc c[i]) 0) 1=some (.elt (ltc c[i]) 1):=rfl;have ld:QN 2 (.elt (ltc c[i]) 1)=some (tm c[i].2):=rfl;rw[jFs,jgg hi];cases ha:jiB c[i].2 with
  |false=>
   rw[ha]at e1;have:jlF p (c[i]::c.drop (i+1))=false:=by cases p<;>rw[jlF,ha]<;>rfl
   rw[this];simp only[evz,hlt,ix,ad,ld,e1]
  |true=>
   rw[ha]at e1;have ih1:=ih (some c[i]) (by simp) (λq hq=>by cases hq;exact⟨by simpa using hi,rfl⟩);cases p with
   |none=>
    have h0:i=0:=hp.1 rfl;have hg:¬(0:Int)<(i:Int):=by omega
    rw[jlF,ha,Bool.true_and,<-ih1];simp only[evz,hlt,ix,ad,ld,e1,hg,h5]
   |some q=>
    obtain⟨hq1,hq2⟩:=hq q rfl;have hi0:¬i=0:=λh=>by have:=hp.2 h;cases this
    have hg:(0:Int)<(i:Int):=by omega
    have c1:ck ((i:Int)-1)=some (vi ((i-1:Nat):Int)):=by rw[show(i:Int)-1=((i-1:Nat):Int) by omega,jgA (by omega) (by omega)]
    have ix2:=jfY (k:=3) (f:=ltc) hq1;rw[hq2]at ix2;have hqz:Tz q.2:=by rw[<-hq2];exact hz _ (jfL hq1)
    have e2:=jmZ q c[i] hqz (hz _ (jfL hi));rw[jlF,ha,Bool.true_and];by_cases hc:cmpL q c[i]<0
    .have hc':¬(0:Int)<=cmpL q c[i]:=by omega
     rw[decide_eq_true hc,Bool.true_and,<-ih1];generalize cmpL q c[i]=d at *;simp only[evz,hlt,ix,ad,ld,jgS,e1,hg,c1,ix2,e2,hc',h5]
    .have hc':(0:Int)<=cmpL q c[i]:=by omega
     rw[decide_eq_false hc];generalize cmpL q c[i]=d at *;simp only[evz,hlt,ix,ad,ld,jgS,e1,hg,c1,ix2,e2,hc',Bool.false_and]
theorem jmv(c:Cls)(hl:c.length<=1048576)(hz:∀l∈c,Tz l.2):G 91 [cm c]=some (vb (jhP c),[]):=by
 have key:=jwc c hl hz 0 (Nat.zero_le _) none (by simp) (λq h=>by cases h);rw[List.drop_zero]at key;simp only[Int.natCast_zero]at key;rw[g91,<-jsv];by_cases h8:c.length<=8
 .have h8':¬(8:Int)<((c.length:Nat):Int):=by omega
  rw[decide_eq_true h8,Bool.and_true];simp only[evz,h8',key]
 .have h8':(8:Int)<((c.length:Nat):Int):=by omega
  rw[decide_eq_false h8,Bool.and_false];simp only[evz,h8']
theorem jG6(l:Xa)(n:Xb):(vnA l n).length<=l.length+1:=by
 unfold vnA;split
 .omega
 .simp
theorem jFy{n:Nat}(h:n<=4194304):jbB n 16=true:=by
 unfold jbB;exact decide_eq_true ⟨by omega,by omega⟩
theorem jn2:∀(t:T)(l:Xa),(jjz l t).length<=l.length+nodes t:=by
 refine T.ind λt ih l=>?_;have hn:=jgx t;rw[jtZ];split
 .have:=jG6 l t.name;omega
 .have key:∀us:Xg,(∀u∈us,u∈t.args)-> ∀l:Xa,(jmg l us).length<=l.length+jgm us:=by
   intro us;induction us with
   |nil=>intro _ l;simp[jmg,jgm]
   |cons u us ih2=>
    intro hu l;have h1:=ih u (hu u (by simp)) l;have h2:=ih2 (λv hv=>hu v (by simp[hv])) (jjz l u);rw[jmg,jgm];omega
  have:=key t.args (λ_ h=>h) l;omega
theorem jw6:∀t:T,Tz t-> ∀l:Xa,l.length+nodes t<=4000000->jsB (tm t) (l.map cs)=some (.top,[.sl 1 ((jjz l t).map cs)]):=by
 refine T.ind λt ih ht l hl=>?_;have hz:=ht;unfold Tz at hz;rw[jgL]at hz;have hn:=jgx t;have e0:=jg9 t.name (((jgK t).1 ht.wf).1);have e1:=jtR l t.name (by show l.length<=9223372036854775807;omega);have key:=upto (P:=λi=>∀l:Xa,l.length+jgm (t.args.drop i)<=4000000->jnx (vi (i:Nat)) (sv t.name) (tms t.args) (l.map cs)=some (.top,[.sl 1 ((jmg l (t.args.drop i)).map cs)])) (n:=t.args.length) ?_ ?_ 0 (Nat.zero_le _);rotate_left
 .intro l _;rw[jqF,List.drop_length];simp only[evz];rfl
 .intro i hi ihi l hl;have hlt:(i:Int)<((t.args.length:Nat):Int):=by omega
  have h5:=jgj hi (by show t.args.length<=9223372036854775807;omega)
  rw[jgg hi,jgm]at hl;have q:=ih t.args[i] (jfL hi) (ht.args _ (jfL hi)) l (by omega);have hln:=jn2 t.args[i] l;have q2:=ihi (jjz l t.args[i]) (by omega);rw[jqF,jgg hi,jmg];generalize jjz l t.args[i]=l' at *;have hr:hR 1 (A.top,[.sl 1 (l'.map cs)]) 0=some (l'.map cs):=rfl;simp only[evz,hlt,jfY hi,jga,q,hr,h5,q2]
 have e2:jnw (vi 0) (sv t.name) (tms t.args) (l.map cs)=some (.top,[.sl 1 ((jmg l t.args).map cs)]):=by
  have key:=key l (by rw[List.drop_zero];omega)
  rw[List.drop_zero]at key;have:jnw (vi 0) (sv t.name) (tms t.args) (l.map cs)=jnx (vi 0) (sv t.name) (tms t.args) (l.map cs):=by rw[jBl,jqF]
  rw[this];exact key
 rw[jFV,jtZ];cases hv:jgk t.name<;>rw[hv]at e0
 .rw [ja0 Bool.false_ne_true];simp only[evz,e0,e2]
 .rw [jbZ rfl];unfold vnA;cases hc:l.contains t.name<;>rw[hc]at e1
  .have f:jbB (l.length+1) 16=true:=jFy (by omega);rw[ja0 Bool.false_ne_true,List.map_append];simp only[evz,e0,e1,f];rfl
  .rw [jbZ rfl];simp only[evz,e0,e1]
theorem jqN(c:Cls)(hl:c.length<=1000)(hz:∀l∈c,Tz l.2)(hs:∀l∈c,nodes l.2<=1000):G 114 [cm c]=some (.sl 1 ((jgU c).map cs),[]):=by
 have key:=upto (P:=λi=>∀l:Xa,l.length<=1000*i->jpR (vi (i:Nat)) (.sl 3 (c.map ltc)) (l.map cs)=some (.sl 1 (((c.drop i).foldl (λl x=>jjz l x.2) l).map cs),[])) (n:=c.length) ?_ ?_ 0 (Nat.zero_le _)
 .have key:=key [] (by simp);rw[List.drop_zero]at key;have key:jpR (vi 0) (.sl 3 (c.map ltc)) []=some (.sl 1 ((jgU c).map cs),[]):=key;rw[jI1];simp only[evz,key]
 .intro l _;rw[jA8,List.drop_length];simp only[evz];rfl
 .intro i hi ih l hll;have hlt:(i:Int)<((c.length:Nat):Int):=by omega
  have h5:=jgj hi (by show c.length<=9223372036854775807;omega)
  have ix:=jfY (k:=3) (f:=ltc) hi;have ad:jdk (.elt (ltc c[i]) 0) 1=some (.elt (ltc c[i]) 1):=rfl;have ld:QN 2 (.elt (ltc c[i]) 1)=some (tm c[i].2):=rfl;have hn:=hs _ (jfL hi);have q:=jw6 c[i].2 (hz _ (jfL hi)) l (by omega);have hol:=jn2 c[i].2 l;have q2:=ih (jjz l c[i].2) (by omega);rw[jA8,jgg hi,List.foldl_cons];generalize jjz l c[i].2=l' at *;have hr:hR 1 (A.top,[.sl 1 (l'.map cs)]) 0=some (l'.map cs):=rfl;simp only[evz,hlt,ix,ad,ld,q,hr,h5,q2]
theorem juw:∀t:T,Rx' t->Tz t-> ∀l:Xa,l.length+nodes t<=4000000->jlH (sv t.name) (tms t.args) (l.map cs)=some (.top,[.sl 1 ((jjz l t).map cs)]):=by
 refine T.ind λt ih hk ht l hl=>?_;have hz:=ht;unfold Tz at hz;rw[jgL]at hz;have hn:=jgx t;have e0:=jh8 t (hk.imp id λh=>h.1);have e1:=jjj l t.name (by show l.length<=9223372036854775807;omega);have key:=upto (P:=λi=>∀l:Xa,l.length+jgm (t.args.drop i)<=4000000->jlM (tms t.args) (vi (t.args.length:Nat)) (vi (i:Nat)) (l.map cs)=some (.top,[.sl 1 ((jmg l (t.args.drop i)).map cs)])) (n:=t.args.length) ?_ ?_ 0 (Nat.zero_le _);rotate_left
 .intro l _;rw[jl7,List.drop_length];simp only[evz];rfl
 .intro i hi ihi l hl;have hlt:(i:Int)<((t.args.length:Nat):Int):=by omega
  have h5:=jgj hi (by show t.args.length<=9223372036854775807;omega)
  rw[jgg hi,jgm]at hl;have q:=ih t.args[i] (jfL hi) (hk.args _ (jfL hi)) (ht.args _ (jfL hi)) l (by omega);have hln:=jn2 t.args[i] l;have q2:=ihi (jjz l t.args[i]) (by omega);rw[jl7,jgg hi,jmg];generalize jjz l t.args[i]=l' at *;have hr:hR 1 (A.top,[.sl 1 (l'.map cs)]) 0=some (l'.map cs):=rfl;simp only[evz,hlt,jfY hi,jga,q,hr,h5,q2]
 have e2:jlL (tms t.args) (vi (t.args.length:Nat)) (vi 0) (l.map cs)=some (.top,[.sl 1 ((jmg l t.args).map cs)]):=by
  have key:=key l (by rw[List.drop_zero];omega)
  rw[List.drop_zero]at key;have:∀n:A,jlL (tms t.args) n (vi 0) (l.map cs)=jlM (tms t.args) n (vi 0) (l.map cs):=λn=>by rw[ju0,jl7]
  rw[this];exact key
 rw[jAt,jtZ];cases hv:jgk t.name<;>rw[hv]at e0
 .rw [ja0 Bool.false_ne_true];by_cases hl0:((t.args.length:Nat):Int)=0
  .simp only[evz,hl0,e0];rw[hl0]at e2;exact e2
  .simp only[evz,hl0,e2]
 .have ha:t.args=[]:=by
   rcases hk with h|h
   .exact jh7 h hv
   .rw [h.1]at hv;exact absurd hv (by decide)
  have hl0:((t.args.length:Nat):Int)=0:=by rw[ha];rfl
  rw[jbZ rfl];unfold vnA;cases hc:l.contains t.name<;>rw[hc]at e1
  .have f:jbB (l.length+1) 16=true:=jFy (by omega);rw[ja0 Bool.false_ne_true,List.map_append];simp only[evz,hl0,e0,e1,f];rfl
  .rw [jbZ rfl];simp only[evz,hl0,e0,e1]
theorem jqW(c:Cls)(hl:c.length<=1000)(hk:∀l∈c,Rx' l.2)(hz:∀l∈c,Tz l.2)(hs:∀l∈c,nodes l.2<=1000):G 155 [cm c]=some (.sl 1 ((jgU c).map cs),[]):=by
 have key:=upto (P:=λi=>∀l:Xa,l.length<=1000*i->jpW (.sl 3 (c.map ltc)) (vi (c.length:Nat)) (vi (i:Nat)) (l.map cs)=some (.sl 1 (((c.drop i).foldl (λl x=>jjz l x.2) l).map cs),[])) (n:=c.length) ?_ ?_ 0 (Nat.zero_le _)
 .have key:=key [] (by simp);rw[List.drop_zero]at key;have key:jpW (.sl 3 (c.map ltc)) (vi (c.length:Nat)) (vi 0) []=some (.sl 1 ((jgU c).map cs),[]):=key;rw[jJp];simp only[evz,key]
 .intro l _;rw[jBn,List.drop_length];simp only[evz];rfl
 .intro i hi ih l hll;have hlt:(i:Int)<((c.length:Nat):Int):=by omega
  have h5:=jgj hi (by show c.length<=9223372036854775807;omega)
  have ix:=jfY (k:=3) (f:=ltc) hi;have hn:=hs _ (jfL hi);have q:=juw c[i].2 (hk _ (jfL hi)) (hz _ (jfL hi)) l (by omega);have hol:=jn2 c[i].2 l;have q2:=ih (jjz l c[i].2) (by omega);rw[jBn,jgg hi,List.foldl_cons];generalize jjz l c[i].2=l' at *;have hr:hR 1 (A.top,[.sl 1 (l'.map cs)]) 0=some (l'.map cs):=rfl;simp only[evz,hlt,ix,jgS,q,hr,h5,q2]
abbrev Eqs:=List (T×T)
def jus:jgn->Bool
 | []=>true
 | [_]=>true
 |p::q::s=>sLt p.1 q.1 && jus (q::s)
noncomputable def jgv(s:jgn):Bool:=decide (s.length<=12) && (jus s && s.all λq=>jgk q.1 && (jgR q.2 && !dq q.2.name q.1))
def jg4(s u:jgn):jgn:=jiC (s.map (λq=>(q.1,sub u q.2))++u.filter λq=>(look s q.1).isNone)
def jgq(x y:T):Xb×T:=if jgk x.name=false\/(jgk y.name=true/\sLt x.name y.name=true)then(y.name,x)else(x.name,y)
noncomputable def jhy(s:jgn)(l r:T)(rest:Eqs):Option (jgn×Eqs):=
 if jgr (sub s l)=false\/jgr (sub s r)=false then none
 else if dq (sub s l) (sub s r)then some (s,rest)
 else if jgk (sub s l).name=true\/jgk (sub s r).name=true then
  (if(jgq (sub s l) (sub s r)).1∈jgN (jgq (sub s l) (sub s r)).2\/jgv [jgq (sub s l) (sub s r)]=false\/jgv (jg4 s [jgq (sub s l) (sub s r)])=false then none else some (jg4 s [jgq (sub s l) (sub s r)],rest))
 else if(sub s l).name=(sub s r).name/\(sub s l).args.length=(sub s r).args.length then some (s,(sub s l).args.zip (sub s r).args++rest)else none
noncomputable def jgX:Nat->jgn->Eqs->Option (Option jgn)
 |_,s,[]=>some (some s)
 |0,_,_::_=>none
 |k+1,s,p::rest=>(match jhy s p.1 p.2 rest with|none=>some none|some q=>jgX k q.1 q.2)
def Exx(t:T):Prop:=(okT t=true\/(t.name=[61]/\t.args.length=2/\ ∀u∈t.args,okT u=true))/\nodes t<=31
def IdS(s:jgn):Prop:=∀q∈s,∀x∈jgN q.2,look s x=none
def jjk(s:jgn)(es:Eqs):Prop:=jgv s=true/\IdS s/\ ∀p∈es,Exx p.1/\Exx p.2
theorem jgE{s:jgn}(h:jgv s=true):s.length<=12/\jus s=true/\ ∀q∈s,jgk q.1=true/\jgR q.2=true/\q.2.name≠q.1:=by
 unfold jgv at h;rw[jbX,jfH,jbX,jfn]at h;refine⟨h.1,h.2.1,λq hq=>?_⟩;have:=h.2.2 q hq;rw[jbX,jbX,jfl]at this;exact⟨this.1,this.2.1,λe=>by rw[e,jmu]at this;exact absurd this.2.2 (by decide)⟩
theorem jmI{t:T}(h:jgR t=true):okT t=true:=by
 unfold jgR at h;rw[jbX]at h;exact h.2
theorem vsv{t:T}(h:jgk t.name=true):jgN t=[t.name]:=by rw[jjs,h,jbZ rfl]
theorem vsf{t:T}(h:jgk t.name=false):jgN t=jhg t.args:=by rw[jjs,h,ja0 Bool.false_ne_true]
theorem jhQ{x:Xb} :∀{ts:Xg},x∈jhg ts↔ ∃t∈ts,x∈jgN t
 | []=>by simp[jhg]
 |t::ts=>by rw[jhg,jeO,jhQ];simp
theorem jkf{s:jgn}(hs:IdS s):∀(w:T){x:Xb},x∈jgN (sub s w)->look s x=none:=by
 refine T.ind (p:=λw=>∀{x:Xb},x∈jgN (sub s w)->look s x=none) λw ih=>?_;intro x hx;cases hv:jgk w.name with
 |true=>
  rw[jig hv,jid]at hx;cases hl:look s w.name with
  |some r=>rw[hl]at hx;exact hs _ (jiw hl) x hx
  |none=>
   rw[hl]at hx;have hx:x∈jgN (.mk w.name []):=hx;rw[vsv (t:= .mk w.name []) hv,jdC]at hx;rw[hx];exact hl
 |false=>
  rw[jhK hv,vsf (t:= .mk w.name (w.args.map (sub s))) hv,jhQ]at hx;obtain⟨t,ht,hx⟩:=hx;obtain⟨a,ha,rfl⟩:=jfx.1 ht;exact ih a ha hx
theorem jsy{n:Xb}{t:T} :∀(w:T){x:Xb},x∈jgN (sub [(n,t)] w)->(x∈jgN w/\x≠n)\/x∈jgN t:=by
 refine T.ind (p:=λw=>∀{x:Xb},x∈jgN (sub [(n,t)] w)->(x∈jgN w/\x≠n)\/x∈jgN t) λw ih=>?_;intro x hx;cases hv:jgk w.name with
 |true=>
  rw[jig hv,jid]at hx;by_cases hn:n=w.name
  .have:look [(n,t)] w.name=some t:=by rw[look,jbZ hn]
   rw[this]at hx;exact Or.inr hx
  .have:look [(n,t)] w.name=none:=by rw[look,ja0 hn,look]
   rw[this]at hx;have hx:x∈jgN (.mk w.name []):=hx;rw[vsv (t:= .mk w.name []) hv,jdC]at hx;left;rw[vsv hv,hx];exact⟨by simp[T.name],λe=>hn e.symm⟩
 |false=>
  rw[jhK hv,vsf (t:= .mk w.name (w.args.map (sub [(n,t)]))) hv,jhQ]at hx;obtain⟨u,hu,hx⟩:=hx;obtain⟨a,ha,rfl⟩:=jfx.1 hu;rcases ih a ha hx with⟨h1,h2⟩|h
  .left;rw[vsf hv,jhQ];exact⟨⟨a,ha,h1⟩,h2⟩
  .exact Or.inr h
theorem joT{s:jgn} :∀(w:T),okT w=true->(∀x∈jgN w,look s x=none)->sub s w=w:=by
 refine T.ind λw ih=>?_;intro hk h;cases hv:jgk w.name with
 |true=>
  rw[jig hv,jid,h w.name (by rw[vsv hv];simp)]
  have ha:=jh7 hk hv;show T.mk w.name []=w;rw[<-ha,T.eta]
 |false=>
  rw[jhK hv];have:w.args.map (sub s)=w.args:=by
   conv=>rhs;rw[<-List.map_id w.args]
   refine List.map_congr_left λa ha=>ih a ha (jgQ hk a ha) λx hx=>h x ?_;rw[vsf hv,jhQ];exact⟨a,ha,hx⟩
  rw[this,T.eta]
theorem jrc{s:jgn}{n:Xb}{t:T}{q:Xb×T} :q∈jj8 s n t↔q∈s\/q=(n,t):=by
 unfold jj8;have e:=List.takeWhile_append_dropWhile (p:=λp:Xb×T=>sLt p.1 n) (l:=s);constructor
 .intro h;rcases jeO.1 h with h|h
  .left;rw[<-e];exact jfv _ h
  .rcases ja1.1 h with h|h
   .exact Or.inr h
   .left;rw[<-e];exact jfZ _ h
 .rintro (h|h)
  .rw [<-e]at h;rcases jeO.1 h with h|h
   .exact jfv _ h
   .exact jfZ _ (List.mem_cons_of_mem _ h)
  .rw [h];exact jfZ _ (List.mem_cons_self ..)
theorem jCU(s:jgn)(n:Xb)(t:T):(jj8 s n t).length=s.length+1:=by
 unfold jj8;have e:=congrArg List.length (List.takeWhile_append_dropWhile (p:=λp:Xb×T=>sLt p.1 n) (l:=s));rw[jf7]at e;rw[jf7,jfC];omega
theorem jkp:∀(m s:jgn),(∀q∈m,q.2.name≠q.1)->(m.foldl (λs p=>jiJ s p.1 p.2) s).length=s.length+m.length/\ ∀q,q∈m.foldl (λs p=>jiJ s p.1 p.2) s↔q∈s\/q∈m
 | [],s,_=>⟨rfl,λq=>by simp⟩
 |p::m,s,h=>by
  rw[List.foldl_cons];have e:jiJ s p.1 p.2=jj8 s p.1 p.2:=ja0 (h p (by simp));obtain⟨h1,h2⟩:=jkp m (jiJ s p.1 p.2) λq hq=>h q (by simp[hq]);refine⟨by rw[h1,e,jCU,jfC];omega,λq=>?_⟩;rw[h2,e,jrc,ja1,or_assoc]
theorem jqo{s:jgn}(hs:jgv s=true)(hi:IdS s){n:Xb}{t:T}(hn:jgk n=true)(hd:look s n=none)(ht:∀x∈jgN t,look s x=none)(ho:n ∉ jgN t)(htn:t.name≠n) :
  (jg4 s [(n,t)]).length=s.length+1/\IdS (jg4 s [(n,t)])/\(∀q,q∈jg4 s [(n,t)]↔(∃p∈s,q=(p.1,sub [(n,t)] p.2))\/q=(n,t))/\ ∀q∈s.map (λq=>(q.1,sub [(n,t)] q.2))++[(n,t)],q.2.name≠q.1:=by
 obtain⟨_,_,hv⟩:=jgE hs;have hf:([(n,t)]:jgn).filter (λq=>(look s q.1).isNone)=[(n,t)]:=by simp[hd]
 have hname:∀q∈s.map (λq=>(q.1,sub [(n,t)] q.2))++[(n,t)],q.2.name≠q.1:=by
  intro q hq;rcases jeO.1 hq with hq|hq
  .obtain ⟨p,hp,rfl⟩:=jfx.1 hq;intro e;have e:(sub [(n,t)] p.2).name=p.1:=e;have hx:p.1∈jgN (sub [(n,t)] p.2):=by rw[vsv (by rw[e];exact(hv p hp).1),e];simp
   have hk:look s p.1≠none:=λh=>jix.1 h p hp rfl;rcases jsy _ hx with⟨h1,_⟩|h1
   .exact hk (hi p hp _ h1)
   .exact hk (ht _ h1)
  .simp only[jdC]at hq;rw[hq];exact htn
 obtain⟨f1,f2⟩:=jkp _ [] hname;have hm:∀q,q∈jg4 s [(n,t)]↔(∃p∈s,q=(p.1,sub [(n,t)] p.2))\/q=(n,t):=by
  intro q;unfold jg4 jiC;rw[hf,f2];simp only[List.not_mem_nil,false_or,jeO,jfx,jdC];constructor
  .rintro (⟨p,h1,h2⟩|h)
   .exact Or.inl ⟨p,h1,h2.symm⟩
   .exact Or.inr h
  .rintro (⟨p,h1,h2⟩|h)
   .exact Or.inl ⟨p,h1,h2.symm⟩
   .exact Or.inr h
 refine⟨?_,?_,hm,hname⟩
 .unfold jg4 jiC;rw[hf,f1,jf7,List.length_map];simp
 .intro q hq x hx;have hxn:x≠n/\look s x=none:=by
   rcases(hm q).1 hq with⟨p,hp,rfl⟩|rfl
   .rcases jsy _ hx with⟨h1,h2⟩|h1
    .exact ⟨h2,hi p hp _ h1⟩
    .exact ⟨λe=>ho (e ▸ h1),ht _ h1⟩
   .exact ⟨λe=>ho (e ▸ hx),ht _ hx⟩
  refine jix.2 λp hp e=>?_;rcases(hm p).1 hp with⟨p',hp',rfl⟩|rfl
  .exact jix.1 hxn.2 p' hp' e
  .exact hxn.1 e.symm
def mz(s:jgn):Eqs->Nat
 | []=>0
 |p::r=>nodes (sub s p.1)+nodes (sub s p.2)+mz s r
theorem jsb(s:jgn):∀a b:Eqs,mz s (a++b)=mz s a+mz s b
 | [],b=>by simp[mz]
 |p::a,b=>by rw[jf0,mz,mz,jsb s a b];omega
theorem jCx{s:jgn} :∀(a b:Xg),(∀u∈a,sub s u=u)->(∀u∈b,sub s u=u)->mz s (a.zip b)<=jgm a+jgm b
 | [],_,_,_=>by simp[mz]
 |_::_,[],_,_=>by simp[mz]
 |x::a,y::b,h1,h2=>by
  have:=jCx a b (λu hu=>h1 u (by simp[hu])) (λu hu=>h2 u (by simp[hu]));rw[List.zip_cons_cons,mz,h1 x (by simp),h2 y (by simp)];simp only[jgm];omega
theorem Exx.sub{s:jgn}(hs:jgv s=true){t:T}(h:Exx t):okT (sub s t)=true\/((sub s t).name=[61]/\(sub s t).args.length=2/\ ∀u∈(sub s t).args,okT u=true):=by
 obtain⟨_,_,hv⟩:=jgE hs;have ho:∀q∈s,okT q.2=true:=λq hq=>(jmI (hv q hq).2.1);rcases h.1 with h|⟨h1,h2,h3⟩
 .exact Or.inl (jkc ho t h)
 .have hvn:jgk t.name=false:=by rw[h1];decide
  right;rw[jhK hvn];refine⟨h1,by show(t.args.map _).length=2;rw[List.length_map,h2],λu hu=>?_⟩;obtain⟨a,ha,rfl⟩:=jfx.1 hu;exact jkc ho a (h3 a ha)
theorem jha{t:T}(h:jgr t=true):nodes t<=30:=by
 simp only[jgr,jbX,jfH]at h;exact h.1
theorem jx6{t:T}(h:okT t=true\/(t.name=[61]/\t.args.length=2/\ ∀u∈t.args,okT u=true)):∀u∈t.args,okT u=true:=by
 rcases h with h|h
 .exact jgQ h
 .exact h.2.2
theorem jhp{s:jgn}{l r:T}{rest:Eqs}(h:jjk s ((l,r)::rest)){s':jgn}{es:Eqs}(hst:jhy s l r rest=some (s',es)):jjk s' es/\((s'=s/\mz s' es<mz s ((l,r)::rest))\/s'.length=s.length+1):=by
 obtain⟨hv,hi,he⟩:=h;obtain⟨el,er⟩:=he (l,r) (by simp);have hrest:∀p∈rest,Exx p.1/\Exx p.2:=λp hp=>he p (by simp[hp]);have xl:=el.sub hv;have xr:=er.sub hv;have nl:=jhX (sub s l);have vl:=λ{x} (hx:x∈jgN (sub s l))=>jkf hi l hx;have vr:=λ{x} (hx:x∈jgN (sub s r))=>jkf hi r hx;have hmz:mz s ((l,r)::rest)=nodes (sub s l)+nodes (sub s r)+mz s rest:=rfl;unfold jhy at hst;split at hst
 .cases hst
 rename_i hsm;have hs1:jgr (sub s l)=true:=by
  cases h:jgr (sub s l)with
  |true=>rfl
  |false=>exact absurd (Or.inl h) hsm
 have hs2:jgr (sub s r)=true:=by
  cases h:jgr (sub s r)with
  |true=>rfl
  |false=>exact absurd (Or.inr h) hsm
 split at hst
 .cases hst;exact⟨⟨hv,hi,hrest⟩,Or.inl ⟨rfl,by rw[hmz];omega⟩⟩
 split at hst
 .rename_i hvar;split at hst
  .cases hst
  rename_i hno;cases hst;have h1:(jgq (sub s l) (sub s r)).1 ∉ jgN (jgq (sub s l) (sub s r)).2:=λh=>hno (Or.inl h);have h2:jgv (jg4 s [jgq (sub s l) (sub s r)])=true:=by
   cases h:jgv (jg4 s [jgq (sub s l) (sub s r)])with
   |true=>rfl
   |false=>exact absurd (Or.inr (Or.inr h)) hno
  have h3:jgv [jgq (sub s l) (sub s r)]=true:=by
   cases h:jgv [jgq (sub s l) (sub s r)]with
   |true=>rfl
   |false=>exact absurd (Or.inr (Or.inl h)) hno
  have hb:look s (jgq (sub s l) (sub s r)).1=none/\ ∀x∈jgN (jgq (sub s l) (sub s r)).2,look s x=none:=by
   unfold jgq;split
   .rename_i hc;have hy:jgk (sub s r).name=true:=by
     rcases hc with hc|hc
     .rcases hvar with h|h
      .rw [hc]at h;cases h
      .exact h
     .exact hc.1
    exact⟨vr (by rw[vsv hy];simp),λx hx=>vl hx⟩
   .rename_i hc;have hx:jgk (sub s l).name=true:=by
     cases h:jgk (sub s l).name with
     |true=>rfl
     |false=>exact absurd (Or.inl h) hc
    exact⟨vl (by rw[vsv hx];simp),λx hx=>vr hx⟩
  obtain⟨_,_,h4⟩:=jgE h3;obtain⟨k1,_,k3⟩:=h4 _ (List.mem_singleton_self _);generalize jgq (sub s l) (sub s r)=p at *;obtain⟨n,t⟩:=p;obtain⟨c1,c2,_,_⟩:=jqo hv hi k1 hb.1 hb.2 h1 k3;exact⟨⟨h2,c2,hrest⟩,Or.inr c1⟩
 .rename_i hnv;split at hst
  .rename_i hnm;cases hst;have v1:jgk (sub s l).name=false:=by
    cases h:jgk (sub s l).name with
    |false=>rfl
    |true=>exact absurd (Or.inl h) hnv
   have v2:jgk (sub s r).name=false:=by
    cases h:jgk (sub s r).name with
    |false=>rfl
    |true=>exact absurd (Or.inr h) hnv
   have a1:∀u∈(sub s l).args,okT u=true/\nodes u<=31/\sub s u=u:=λu hu=>by
    have hk:=jx6 xl u hu;have:=jh9 hu;have:=jha hs1;exact⟨hk,by omega,joT u hk λx hx=>vl (by rw[vsf v1,jhQ];exact⟨u,hu,hx⟩)⟩
   have a2:∀u∈(sub s r).args,okT u=true/\nodes u<=31/\sub s u=u:=λu hu=>by
    have hk:=jx6 xr u hu;have:=jh9 hu;have:=jha hs2;exact⟨hk,by omega,joT u hk λx hx=>vr (by rw[vsf v2,jhQ];exact⟨u,hu,hx⟩)⟩
   refine⟨⟨hv,hi,λp hp=>?_⟩,Or.inl ⟨rfl,?_⟩⟩
   .rcases jeO.1 hp with hp|hp
    .have hm:=List.of_mem_zip (a:=p.1) (b:=p.2) hp;exact⟨⟨Or.inl (a1 _ hm.1).1,(a1 _ hm.1).2.1⟩,⟨Or.inl (a2 _ hm.2).1,(a2 _ hm.2).2.1⟩⟩
    .exact hrest p hp
   .have:=jCx (s:=s) (sub s l).args (sub s r).args (λu hu=>(a1 u hu).2.2) (λu hu=>(a2 u hu).2.2);have e1:=jgx (sub s l);have e2:=jgx (sub s r);rw[jsb,hmz];omega
  .cases hst
theorem jxE:∀(m1 m2:Nat)(s:jgn)(es:Eqs),jjk s es->13-s.length<=m1->mz s es<=m2-> ∃k res,jgX k s es=some res:=by
 intro m1;induction m1 with
 |zero=>
  intro m2 s es h h1;have:=(jgE h.1).1;omega
 |succ m1 ih1=>
  intro m2;induction m2 with
  |zero=>
   intro s es h _ h2;cases es with
   |nil=>exact⟨0,_,rfl⟩
   |cons p es=>
    have:=jhX (sub s p.1);simp only[mz]at h2;omega
  |succ m2 ih2=>
   intro s es h h1 h2;cases es with
   |nil=>exact⟨0,_,rfl⟩
   |cons p es=>
    obtain⟨l,r⟩:=p;cases hst:jhy s l r es with
    |none=>exact⟨1,none,by rw[jgX,hst]⟩
    |some q=>
     obtain⟨s',es'⟩:=q;obtain⟨hinv,hor⟩:=jhp h hst;have hl:=(jgE h.1).1;rcases hor with⟨e,hlt⟩|e
     .obtain ⟨k,res,hk⟩:=ih2 s' es' hinv (by rw[e];exact h1) (by omega)
      exact⟨k+1,res,by rw[jgX,hst];exact hk⟩
     .obtain ⟨k,res,hk⟩:=ih1 (mz s' es') s' es' hinv (by omega) (jdB _);exact⟨k+1,res,by rw[jgX,hst];exact hk⟩
theorem jro:∀(k:Nat)(s:jgn)(es:Eqs){u:jgn},jjk s es->jgX k s es=some (some u)->jgv u=true/\IdS u:=by
 intro k;induction k with
 |zero=>
  intro s es u h hu;cases es with
  |nil=>simp only[jgX,jb4]at hu;rw[<-hu];exact⟨h.1,h.2.1⟩
  |cons p es=>simp[jgX]at hu
 |succ k ih=>
  intro s es u h hu;cases es with
  |nil=>simp only[jgX,jb4]at hu;rw[<-hu];exact⟨h.1,h.2.1⟩
  |cons p es=>
   obtain⟨l,r⟩:=p;rw[jgX]at hu;cases hst:jhy s l r es with
   |none=>rw[hst]at hu;simp at hu
   |some q=>
    rw[hst]at hu;exact ih q.1 q.2 (jhp h hst).1 hu
def Bx(t:T):Prop:=(t.name=[61]/\t.args.length=2/\ ∀u∈t.args,okT u=true)\/(jhO t.name=true/\okT t=true)
theorem Bx.rx{t:T}(h:Bx t):Rx' t:=h.elim (λh=>Or.inr ⟨h.1,h.2.2⟩) λh=>Or.inl h.2
theorem Bx.ax{t:T}(h:Bx t):okT t=true\/(t.name=[61]/\t.args.length=2/\ ∀u∈t.args,okT u=true):=h.elim Or.inr λh=>Or.inl h.2
theorem Bx.args{t:T}(h:Bx t):∀u∈t.args,okT u=true:=h.elim (λh=>h.2.2) λh=>jgQ h.2
theorem jxB{n:Xb}(h:jhO n=true):jgk n=false:=by
 cases hv:jgk n with
 |false=>rfl
 |true=>rw[jrm hv]at h;cases h
theorem Bx.nv{t:T}(h:Bx t):jgk t.name=false:=h.elim (λh=>by rw[h.1];decide) λh=>jxB h.1
theorem jHj{t:T}(h:t.args.length=2):t.args=[jjS t,jkx t]:=by
 obtain⟨n,us⟩:=t
 match us,h with
 | [a,b],_=>rfl
theorem jnN{t:T} :jiB t=true↔Bx t/\jgr t=true:=by
 unfold jiB Bx;by_cases he:t.name=[61]
 .rw [jbZ he];unfold jl0;rw[jbX,jbX,jbX,jfH];constructor
  .rintro ⟨h1,h2,h3,h4⟩;refine⟨Or.inl ⟨he,h1,λu hu=>?_⟩,h2⟩;rw[jHj h1]at hu;simp only[ja1,List.not_mem_nil,or_false]at hu;rcases hu with rfl|rfl
   .exact h3
   .exact h4
  .rintro ⟨h|h,h2⟩
   .obtain ⟨_,_,ma,mb⟩:=jjd h.2.1;exact⟨h.2.1,h2,h.2.2 _ ma,h.2.2 _ mb⟩
   .rw [he]at h;exact absurd h.1 (by decide)
 .rw [ja0 he];unfold jgR;rw[jbX,jbX];constructor
  .rintro ⟨h1,h2,h3⟩;exact⟨Or.inr ⟨h1,h3⟩,h2⟩
  .rintro ⟨h|h,h2⟩
   .exact absurd h.1 he
   .exact ⟨h.1,h2,h.2⟩
theorem Bx.atom{t:T}(h:Bx t):jiB t=jgr t:=by
 cases hs:jgr t with
 |true=>exact jnN.2 ⟨h,hs⟩
 |false=>
  cases ha:jiB t with
  |false=>rfl
  |true=>rw[(jnN.1 ha).2]at hs;cases hs
theorem Bx.tsz{t:T}(h:Bx t):tsz t<=10*nodes t:=by
 rcases h with h|h
 .rw [jgL,jgx,h.1,h.2.1];have:=jyw h.2.2;simp only[jfC,jfJ];omega
 .exact joL t h.2
theorem Bx.tz{t:T}(h:Bx t)(hn:nodes t<=100000):Tz t:=by have:=h.tsz;unfold Tz;omega
theorem Bx.exx{t:T}(h:Bx t)(hn:nodes t<=31):Exx t:=⟨h.ax,hn⟩
theorem Bx.sub{s:jgn}(hs:jgv s=true){t:T}(h:Bx t):Bx (sub s t):=by
 obtain⟨_,_,hv⟩:=jgE hs;have ho:∀q∈s,okT q.2=true:=λq hq=>jmI (hv q hq).2.1;have hn:=h.nv;rcases h with h|h
 .left;rw[job hn,jmm hn,List.length_map];refine⟨h.1,h.2.1,λu hu=>?_⟩;obtain⟨a,ha,rfl⟩:=jfx.1 hu;exact jkc ho a (h.2.2 a ha)
 .right;rw[job hn];exact⟨h.1,jkc ho t h.2⟩
theorem jjM{s:jgn}(hs:jgv s=true):∀q∈s,nodes q.2<=30:=λq hq=>by
 have:=((jgE hs).2.2 q hq).2.1;unfold jgR at this;rw[jbX]at this;exact jha this.1
theorem jiA{s:jgn}(hs:jgv s=true):∀q∈s,okT q.2=true:=λq hq=>jmI ((jgE hs).2.2 q hq).2.1
theorem joW:jgv []=true:=by unfold jgv;simp[jus]
mutual
theorem jsj(f:Xb->Xb):∀t:T,nodes (jgV f t)<=nodes t
 |.mk n us=>by
  rw[jgV];split
  .have:=jhX (.mk n us);show 1+0<=_;omega
  .have:=jrf f us;simp only[nodes];omega
theorem jrf(f:Xb->Xb):∀ts:Xg,jgm (y9 f ts)<=jgm ts
 | []=>jdB _
 |t::ts=>by have:=jsj f t;have:=jrf f ts;simp only[y9,jgm];omega
end
mutual
theorem jEL(f:Xb->Xb):∀t:T,dep (jgV f t)<=dep t
 |.mk n us=>by
  rw[jgV];split
  .rw [jjv (.mk n us)];show 1+0<=_;omega
  .have:=jvN f us;simp only[dep];omega
theorem jvN(f:Xb->Xb):∀ts:Xg,jky (y9 f ts)<=jky ts
 | []=>jdB _
 |t::ts=>by have:=jEL f t;have:=jvN f ts;simp only[y9,jky];omega
end
theorem jmj{f:Xb->Xb}{t:T}(h:jgk t.name=false):(jgV f t).name=t.name:=by rw[jkr,h,ja0 Bool.false_ne_true];rfl
theorem jkU{f:Xb->Xb}{t:T}(h:jgk t.name=false):(jgV f t).args=t.args.map (jgV f):=by rw[jkr,h,ja0 Bool.false_ne_true];rfl
theorem jCY{f:Xb->Xb}(hf:∀n,jgk n=true->jgk (f n)=true):∀t:T,okT t=true->okT (jgV f t)=true:=by
 refine T.ind λt ih h=>?_;cases hv:jgk t.name with
 |true=>rw[jkr,hv,jbZ rfl];exact jCC _ (hf _ hv)
 |false=>
  have hk:=h;rw[jht,hv,ja0 Bool.false_ne_true,jbX,jbX,jfH]at h;rw[jht,jmj hv,jkU hv,hv,ja0 Bool.false_ne_true,jbX,jbX,jfH,List.length_map,jiH,jfn];refine⟨h.1,h.2.1,λu hu=>?_⟩;obtain⟨a,ha,rfl⟩:=jfx.1 hu;exact ih a ha (jgQ hk a ha)
theorem Bx.ren{f:Xb->Xb}(hf:∀n,jgk n=true->jgk (f n)=true){t:T}(h:Bx t):Bx (jgV f t):=by
 have hn:=h.nv;rcases h with h|h
 .left;rw[jmj hn,jkU hn,List.length_map];refine⟨h.1,h.2.1,λu hu=>?_⟩;obtain⟨a,ha,rfl⟩:=jfx.1 hu;exact jCY hf a (h.2.2 a ha)
 .right;rw[jmj hn];exact⟨h.1,jCY hf t h.2⟩
theorem joF:∀d:Nat,d<10->jiD (UInt8.ofNat (48+d))=true:=by decide
theorem jin{u:Nat}(h:u<10):Lib.decDigits u=[UInt8.ofNat (48+u)]:=Lib.decDigits_one h
theorem jje{u:Nat}(h:¬u<10):Lib.decDigits u=Lib.decDigits (u / 10)++[UInt8.ofNat (48+u % 10)]:=by rw[Lib.decDigits,dif_neg h]
theorem ji3:∀(k u:Nat),u<10 ^ (k+1)->(Lib.decDigits u).all jiD=true/\(Lib.decDigits u).length<=k+1
 |0,u,h=>by rw[jin (by omega)];exact⟨by rw[jev,joF u (by omega),List.all_nil];rfl,by simp⟩
 |k+1,u,h=>by
  by_cases hu:u<10
  .rw [jin hu];exact⟨by rw[jev,joF u hu,List.all_nil];rfl,by simp⟩
  .obtain ⟨h1,h2⟩:=ji3 k (u / 10) (by rw[Nat.pow_succ]at h;omega)
   rw[jje hu,List.all_append,h1,jf7];exact⟨by rw[jev,joF (u % 10) (by omega),List.all_nil];rfl,by simp only[jfC,jfJ];omega⟩
theorem jAJ:∀a:Nat,a<10-> ∀b:Nat,b<10->UInt8.ofNat (48+a)=UInt8.ofNat (48+b)->a=b:=by decide
theorem jx5(a b:Nat)(h1:a<10)(h2:b<10)(h:UInt8.ofNat (48+a)=UInt8.ofNat (48+b)):a=b:=jAJ a h1 b h2 h
theorem jwK:∀(u v:Nat),Lib.decDigits u=Lib.decDigits v->u=v:=by
 intro u;induction u using Nat.strongRecOn with
 |ind u ih=>
  intro v h;by_cases hu:u<10<;>by_cases hv:v<10
  .rw [jin hu,jin hv]at h;exact jx5 u v hu hv (by simpa using h)
  .have h2:=congrArg List.length h;rw[jin hu,jje hv,jf7,Lib.decDigits_length]at h2;have:=Lib.nDigits_pos (v / 10);simp only[jfC,jfJ]at h2;omega
  .have h2:=congrArg List.length h;rw[jin hv,jje hu,jf7,Lib.decDigits_length]at h2;have:=Lib.nDigits_pos (u / 10);simp only[jfC,jfJ]at h2;omega
  .rw [jje hu,jje hv]at h;obtain⟨h1,h2⟩:=List.append_inj' h rfl;have e1:=ih (u / 10) (by omega) (v / 10) h1;have e2:=jx5 (u % 10) (v % 10) (by omega) (by omega) (by simpa using h2);omega
theorem jCz{p:UInt8}{i j:Nat}(h:jiG p i=jiG p j):i=j:=by
 unfold jiG at h;exact jwK i j (by simpa using h)
theorem jCA{p:UInt8}(hp:upc p=true){i:Nat}(hi:i<1000):jgk (jiG p i)=true:=by
 obtain⟨h1,h2⟩:=ji3 2 i (by omega);show(upc p && ((Lib.decDigits i).all jiD && decide ((Lib.decDigits i).length<=3)))=true;rw[hp,h1,decide_eq_true (by omega)];rfl
theorem jE4{l:Xa}{n x:Xb} :x∈vnA l n↔x∈l\/x=n:=by
 unfold vnA;split
 .rename_i h;rw[List.contains_iff_mem]at h;exact⟨Or.inl,λh'=>h'.elim id λe=>e ▸ h⟩
 .simp
theorem jz0{l:Xa}{n:Xb}(h:l.Nodup):(vnA l n).Nodup:=by
 unfold vnA;split
 .exact h
 .rename_i hc;rw[List.contains_iff_mem]at hc;refine jfq.2 ⟨h,by simp,λa ha b hb=>?_⟩;simp only[jdC]at hb;rintro rfl;exact hc (hb ▸ ha)
mutual
theorem jvr:∀(t:T)(l:Xa)(x:Xb),x∈jjz l t↔x∈l\/x∈jgN t
 |.mk n us,l,x=>by
  rw[jjz,jgN];split
  .rw [jE4];simp
  .exact jvq us l x
theorem jvq:∀(ts:Xg)(l:Xa)(x:Xb),x∈jmg l ts↔x∈l\/x∈jhg ts
 | [],l,x=>by simp[jmg,jhg]
 |t::ts,l,x=>by rw[jmg,jhg,jvq ts,jvr t,jeO,or_assoc]
end
mutual
theorem jq2:∀(t:T){l:Xa},l.Nodup->(jjz l t).Nodup
 |.mk n us,l,h=>by
  rw[jjz];split
  .exact jz0 h
  .exact jq1 us h
theorem jq1:∀(ts:Xg){l:Xa},l.Nodup->(jmg l ts).Nodup
 | [],l,h=>h
 |t::ts,l,h=>by rw[jmg];exact jq1 ts (jq2 t h)
end
theorem jqV:∀(c:Cls)(l:Xa)(x:Xb),x∈c.foldl (λl x=>jjz l x.2) l↔x∈l\/ ∃y∈c,x∈jgN y.2
 | [],l,x=>by simp
 |y::c,l,x=>by rw[List.foldl_cons,jqV c,jvr,or_assoc];simp
theorem jnn{c:Cls}{x:Xb} :x∈jgU c↔ ∃y∈c,x∈jgN y.2:=by unfold jgU;rw[jqV];simp
theorem jlm(c:Cls):(jgU c).Nodup:=by
 have:∀(c:Cls)(l:Xa),l.Nodup->(c.foldl (λl x=>jjz l x.2) l).Nodup:=by
  intro c;induction c with
  |nil=>intro l h;exact h
  |cons y c ih=>intro l h;exact ih _ (jq2 y.2 h)
 exact this c [] List.nodup_nil
theorem jno{c:Cls}{x:Xb}(h:x∈jgU c):jgk x=true:=by
 obtain⟨y,_,hx⟩:=jnn.1 h;exact jwd y.2 hx
def CN(c:Cls):Prop:=c.length<=8/\ ∀l∈c,Bx l.2/\nodes l.2<=30
theorem jio{c:Cls}(h:CN c):(jgU c).length<=240:=by
 have:∀(c:Cls)(l:Xa),(∀y∈c,nodes y.2<=30)->(c.foldl (λl x=>jjz l x.2) l).length<=l.length+30*c.length:=by
  intro c;induction c with
  |nil=>intro l _;simp
  |cons y c ih=>
   intro l h;have h1:=jn2 y.2 l;have h2:=h y (by simp);have h3:=ih (jjz l y.2) λz hz=>h z (by simp[hz]);rw[List.foldl_cons,jfC];omega
 have h2:=this c [] λy hy=>(h.2 y hy).2;have h3:=h.1;rw[jfJ]at h2;unfold jgU;omega
theorem jrU{p:UInt8}{l:Xa}{i:Nat}(hl:l.Nodup)(hi:i<l.length):jgY p l l[i]=jiG p i:=by
 unfold jgY;have:l.findIdx? (λx=>decide (x=l[i]))=some i:=by
  rw[List.findIdx?_eq_some_iff_getElem];refine⟨hi,by simp,λj hj=>?_⟩;simp only[jfH];intro e;exact(List.pairwise_iff_getElem.1 hl) j i (by omega) hi hj e
 rw[this]
theorem joB{p:UInt8}(hp:upc p=true){l:Xa}(hl:l.length<=1000){n:Xb}(hn:jgk n=true):jgk (jgY p l n)=true:=by
 unfold jgY;split
 .rename_i i h;have:=(List.findIdx?_eq_some_iff_getElem.1 h).1;exact jCA hp (by omega)
 .exact hn
theorem juR{α:Type}(c:α->α->Int)(l:List α)(x:α):(jlD c l x).length<=l.length+1:=by
 unfold jlD;split
 .omega
 .have:=congrArg List.length (List.takeWhile_append_dropWhile (p:=λa=>decide (c a x<0)) (l:=l));rw[jf7]at this;rw[jf7,jfC];omega
theorem joJ{α:Type}(c:α->α->Int)(l:List α):(jhA c l).length<=l.length:=by
 have:∀(l m:List α),(l.foldl (jlD c) m).length<=m.length+l.length:=by
  intro l;induction l with
  |nil=>intro m;simp
  |cons x l ih=>
   intro m;have h1:=juR c m x;have h2:=ih (jlD c m x);rw[List.foldl_cons,jfC];omega
 have:=this l [];simpa[jhA]using this
theorem jmx{l:Cls}{x:Lt} :x∈jhA cmpL l↔x∈l:=(jmw ji1 l).2 x
theorem jvi{l:Cls}(h:Asc cmpL l):jhA cmpL l=l:=by
 obtain⟨h1,h2⟩:=jmw ji1 l;exact jtw ji1 h1 h h2
theorem CN.make{l:Cls}(hl:l.length<=8)(h:∀x∈l,Bx x.2/\nodes x.2<=30):CN (jhA cmpL l):=⟨by have:=joJ cmpL l;omega,λx hx=>h x (jmx.1 hx)⟩
theorem CN.ren{p:UInt8}(hp:upc p=true){c:Cls}(h:CN c):∀x∈c.map (λl=>(l.1,jgV (jgY p (jgU c)) l.2)),Bx x.2/\nodes x.2<=30:=by
 intro x hx;obtain⟨l,hl,rfl⟩:=jfx.1 hx;have hn:=jio h;have:=jsj (jgY p (jgU c)) l.2;have:=(h.2 l hl).2;exact⟨(h.2 l hl).1.ren λn hn=>joB hp (by omega) hn,by show nodes (jgV (jgY p (jgU c)) l.2)<=30;omega⟩
theorem CN.renC{p:UInt8}(hp:upc p=true){c:Cls}(h:CN c):CN (renC p c):=CN.make (by rw[List.length_map];exact h.1) (h.ren hp)
theorem CN.normF:∀(k:Nat){c:Cls},CN c->CN (normF k c)
 |0,c,h=>h
 |k+1,c,h=>by
  rw[Go.Proofs.YthlhadhipnokfaaGreatDoor.normF];split
  .exact h
  .exact CN.normF k (CN.renC (by decide) h)
theorem CN.normC{c:Cls}(h:CN c):CN (normC c):=CN.normF 10 h
theorem jiz{c:Cls}(h:jhP c=true):CN c/\Asc cmpL c/\(∀l∈c,jiB l.2=true):=by
 unfold jhP at h;rw[jbX,jbX,jfn,jfH,jur]at h;exact⟨⟨h.2.2,λl hl=>⟨(jnN.1 (h.1 l hl)).1,jha (jnN.1 (h.1 l hl)).2⟩⟩,h.2.1,h.1⟩
theorem CN.tz{c:Cls}(h:CN c):∀l∈c,Tz l.2:=λl hl=>(h.2 l hl).1.tz (by have:=(h.2 l hl).2;omega)
theorem CN.rx{c:Cls}(h:CN c):∀l∈c,Rx' l.2:=λl hl=>(h.2 l hl).1.rx
theorem jrV{f:Xb->Xb} :∀{xs bs:Xg},(∀u∈xs,∀v∈bs,jhE (jgV f u) (jgV f v)=jhE u v)->jhn (xs.map (jgV f)) (bs.map (jgV f))=jhn xs bs
 | [],_,_=>rfl
 |_::_,[],_=>rfl
 |x::xs,b::bs,h=>by
  rw[jd1,jd1,jhn,jhn,h x (by simp) b (by simp),jrV λu hu v hv=>h u (by simp[hu]) v (by simp[hv])]
theorem Rx'.va{t:T}(h:Rx' t)(hv:jgk t.name=true):t.args=[]:=h.elim (λh=>jh7 h hv) λh=>by rw[h.1]at hv;exact absurd hv (by decide)
theorem jDN{L:Xa}{f:Xb->Xb}(hf:∀n∈L,jgk (f n)=true)(hc:∀n∈L,∀m∈L,jg0 (f n) (f m)=jg0 n m):∀a:T,Rx' a->(∀x∈jgN a,x∈L)-> ∀b:T,Rx' b->(∀x∈jgN b,x∈L)->jhE (jgV f a) (jgV f b)=jhE a b:=by
 refine T.ind λa ih ra la b rb lb=>?_;have hk:cK (jhS (jgV f a)) (jhS (jgV f b))=cK (jhS a) (jhS b):=by
  have v1:∀t:T,Rx' t->(∀x∈jgN t,x∈L)->jgk t.name=true->jhS t=(0,(t.name,0))/\jhS (jgV f t)=(0,(f t.name,0))/\t.name∈L:=λt rt lt hv=>by
   have ha:=rt.va hv;have hm:t.name∈L:=lt _ (by rw[vsv hv];simp);have e1:vF t.name=0:=by unfold vF;rw[hv,jbZ rfl]
   have e2:vF (f t.name)=0:=by unfold vF;rw[hf _ hm,jbZ rfl]
   refine⟨by unfold jhS;rw[e1,ha];rfl,?_,hm⟩
   rw[jkr,hv,jbZ rfl];show(vF (f t.name),(f t.name,0))=_;rw[e2]
  have v2:∀t:T,jgk t.name=false->jhS (jgV f t)=jhS t/\(jhS t).1=1:=λt hv=>by
   refine⟨by unfold jhS;rw[jmj hv,jkU hv,List.length_map],?_⟩
   show vF t.name=1;unfold vF;rw[hv,ja0 Bool.false_ne_true]
  cases va:jgk a.name<;>cases vb:jgk b.name
  .rw [(v2 a va).1,(v2 b vb).1]
  .obtain ⟨p1,p2,_⟩:=v1 b rb lb vb;obtain⟨q1,q2⟩:=v2 a va;rw[q1,p1,p2];have e:∀z:Key,z.1=0->cK (jhS a) z=1:=λz hz=>by
    have:jg1 (jhS a).1 z.1=1:=by rw[q2,hz];decide
    unfold cK;rw[this,jbZ (by decide)]
   rw[e _ rfl,e _ rfl]
  .obtain ⟨p1,p2,_⟩:=v1 a ra la va;obtain⟨q1,q2⟩:=v2 b vb;rw[q1,p1,p2];have e:∀z:Key,z.1=0->cK z (jhS b) = -1:=λz hz=>by
    have:jg1 z.1 (jhS b).1 = -1:=by rw[q2,hz];decide
    unfold cK;rw[this,jbZ (by decide)]
   rw[e _ rfl,e _ rfl]
  .obtain ⟨p1,p2,p3⟩:=v1 a ra la va;obtain⟨q1,q2,q3⟩:=v1 b rb lb vb;rw[p1,p2,q1,q2];unfold cK;simp only;rw[hc _ p3 _ q3]
 rw[jkk,jkk a b,hk];by_cases h0:cK (jhS a) (jhS b)=0
 .rw [ja0 (λh=>h h0),ja0 (λh=>h h0)];cases va:jgk a.name with
  |true=>
   have:(jgV f a).args=[]:=by rw[jkr,va,jbZ rfl];rfl
   rw[this,ra.va va];rfl
  |false=>
   have vb:jgk b.name=false:=by rw[<-(jqD ((jlb.zero _ _).1 h0)).1];exact va
   rw[jkU va,jkU vb];exact jrV λu hu v hv=>ih u hu (ra.args u hu) (λx hx=>la x (by rw[vsf va,jhQ];exact⟨u,hu,hx⟩)) v (rb.args v hv) λx hx=>lb x (by rw[vsf vb,jhQ];exact⟨v,hv,hx⟩)
 .rw [jbZ h0,jbZ h0]
def jgp(d:Cls):Cls:=d.map λl=>(l.1,jgV (jgY 89 (jgU d)) l.2)
def jgu(c:Cls):Bool:=jhP c && ji4 c
theorem jgG{c:Cls}(h:jgu c=true):CN c/\Asc cmpL c/\jhP c=true/\ji4 c=true:=by
 unfold jgu at h;rw[jbX]at h;exact⟨(jiz h.1).1,(jiz h.1).2.1,h.1,h.2⟩
theorem jyT(p q:UInt8)(x y:Xb):jg0 (p::x) (p::y)=jg0 (q::x) (q::y):=by
 have e:sLt (p::x) (p::y)=sLt (q::x) (q::y):=by
  rw[jj9,jj9];congr 1;simp[]
 unfold jg0;rw[e];simp
theorem jnp{d:Cls}(h:ji4 d=true){n:Xb}(hn:n∈jgU d):∃i,i<(jgU d).length/\n=jiG 88 i/\jgY 89 (jgU d) n=jiG 89 i:=by
 obtain⟨i,hi,rfl⟩:=List.mem_iff_getElem.1 hn;unfold ji4 at h;rw[jfH]at h;refine⟨i,hi,?_,jrU (jlm d) hi⟩;have:=congrArg (λl=>l[i]?) h;simp only[jam hi,jel,jfr hi,jen]at this;exact jf2 this
theorem jyN{d:Cls}(h:jgu d=true):Asc cmpL (jgp d):=by
 obtain⟨hc,ha,_,hn⟩:=jgG h;have hl:=jio hc;unfold Asc jgp;rw[List.pairwise_map];refine List.Pairwise.imp_of_mem ?_ ha;intro x y hx hy hlt;have e:jhE (jgV (jgY 89 (jgU d)) x.2) (jgV (jgY 89 (jgU d)) y.2)=jhE x.2 y.2:=by
  refine jDN (L:=jgU d) (λn hn'=>joB (by decide) (by omega) (jno hn')) (λn h1 m h2=>?_) x.2 (hc.rx x hx) (λz hz=>jnn.2 ⟨x,hx,hz⟩) y.2 (hc.rx y hy) (λz hz=>jnn.2 ⟨y,hy,hz⟩);obtain⟨i,_,rfl,e1⟩:=jnp hn h1;obtain⟨j,_,rfl,e2⟩:=jnp hn h2;rw[e1,e2];exact jyT _ _ _ _
 show cmpL (x.1,jgV (jgY 89 (jgU d)) x.2) (y.1,jgV (jgY 89 (jgU d)) y.2)<0;unfold cmpL at hlt⊢;simp only;rw[e];exact hlt
theorem apart_eq{d:Cls}(h:jgu d=true):renC 89 d=jgp d:=jvi (jyN h)
theorem jnM{d:Cls}(h:jgu d=true):CN (jgp d):=⟨by unfold jgp;rw[List.length_map];exact(jgG h).1.1,(jgG h).1.ren (by decide)⟩
theorem joA(d:Cls):(jgp d).length=d.length:=by unfold jgp;rw[List.length_map]
open Classical in
noncomputable def jiu(a b:T):Option jgn:=if h:∃r k,jgX k [] [(a,b)]=some r then h.choose else none
theorem jsr{a b:T}(ha:Exx a)(hb:Exx b):jjk [] [(a,b)]:=⟨joW,(λ_ h=>(List.not_mem_nil h).elim:IdS []),λp hp=>by rw[jdC.1 hp];exact⟨ha,hb⟩⟩
theorem jjr{a b:T}(ha:Exx a)(hb:Exx b):∃k,jgX k [] [(a,b)]=some (jiu a b):=by
 obtain⟨k,r,h⟩:=jxE 13 _ [] [(a,b)] (jsr ha hb) (by simp) (jdB _);have hex:∃r k,jgX k [] [(a,b)]=some r:=⟨r,k,h⟩;unfold jiu;rw[dif_pos hex];exact hex.choose_spec
theorem jjL{a b:T}(ha:Exx a)(hb:Exx b){u:jgn}(h:jiu a b=some u):jgv u=true:=by
 obtain⟨k,hk⟩:=jjr ha hb;rw[h]at hk;exact(jro k _ _ (jsr ha hb) hk).1
noncomputable def jjR(s:jgn)(l:Cls):Option Cls:=if(l.all λx=>jgr (sub s x.2)) && jhP (jhA cmpL (l.map λx=>(x.1,sub s x.2)))then some (jhA cmpL (l.map λx=>(x.1,sub s x.2)))else none
noncomputable def jhZ(s:jgn)(l:Cls):Option Cls:=(jjR s l).bind λc=>if jgu (normC c)then some (normC c)else none
abbrev cz:A:= .agg [.sl 3 []]
def jiQ(o:Option Cls):Xe:=match o with|some c=>some (.tup [cm c,vb true],[])|none=>some (.tup [cz,vb false],[])
theorem jjp{s:jgn}{l:Cls}{c:Cls}(h:jhZ s l=some c):jgu c=true:=by
 unfold jhZ at h;rw[jcv]at h;obtain⟨d,_,h⟩:=h;split at h
 .rename_i hn;cases h;exact hn
 .cases h
theorem jk8{s:jgn}{l:Cls}{c:Cls}(h:jjR s l=some c):jhP c=true/\Asc cmpL c:=by
 unfold jjR at h;split at h
 .rename_i hn;cases h;rw[jbX]at hn;exact⟨hn.2,(jmw ji1 _).1⟩
 .cases h
def atI:Xi->T->Option T
 | [],t=>some t
 |i::p,t=>if 0<=i/\i<(t.args.length:Int)then atI p (t.args.getD i.toNat (.mk [] []))else none
theorem jAp:∀{p:Xi}{t u:T},atI p t=some u-> ∃q:Xf,p=q.map (λn:Nat=>(n:Int))/\okP q t/\u=atT q t
 | [],t,u,h=>by simp only[atI,jb4]at h;exact⟨[],rfl,trivial,h.symm⟩
 |i::p,t,u,h=>by
  rw[atI]at h;split at h;rotate_left
  .cases h
  rename_i hi;obtain⟨q,e,h1,h2⟩:=jAp h;refine⟨i.toNat::q,?_,⟨by omega,h1⟩,h2⟩;rw[jd1,<-e];congr 1;omega
theorem jCB:∀{p:Xf}{t:T},p≠ []->okP p t->(∀u∈t.args,okT u=true)->okT (atT p t)=true/\nodes (atT p t)<=nodes t
 | [],t,h,_,_=>absurd rfl h
 |i::p,t,_,h,ha=>by
  obtain⟨h1,h2⟩:=h;rw[atT];rw[jhC h1]at h2⊢;have hm:t.args[i]∈t.args:=jfL h1;have hk:=ha _ hm;have hn:=jh9 hm;by_cases hp:p=[]
  .subst hp;exact⟨hk,by show nodes t.args[i]<=_;omega⟩
  .have:=jCB hp h2 (jgQ hk);exact⟨this.1,by omega⟩
theorem juf{s:T}(hs:okT s=true):∀{p:Xf}{t:T},okP p t->okT t=true->okT (jgM s p t)=true
 | [],t,_,_=>hs
 |i::p,t,h,hk=>by
  obtain⟨h1,h2⟩:=h;rw[jhC h1]at h2;have hv:jgk t.name=false:=by
   cases hv:jgk t.name with
   |false=>rfl
   |true=>rw[jh7 hk hv]at h1;simp at h1
  have hk':=hk;rw[jht,hv,ja0 Bool.false_ne_true,jbX,jbX,jfH]at hk;rw[jgM,jhC h1,jht];show(if jgk t.name=true then _ else(jhO t.name && (decide ((t.args.set i (jgM s p t.args[i])).length<=4) && jqZ (t.args.set i (jgM s p t.args[i])))))=true;rw[hv,ja0 Bool.false_ne_true,jfz,hk.1,decide_eq_true hk.2.1,jiH,Bool.true_and,Bool.true_and,jfn];intro u hu;rcases jfQ hu with hu|hu
  .exact jgQ hk' u hu
  .rw [hu];exact juf hs h2 (jgQ hk' _ (jfL h1))
theorem jyK{s:T}(hs:okT s=true){p:Xf}{t:T}(hp:p≠ [])(h:okP p t)(hb:Bx t):Bx (jgM s p t):=by
 match p,hp,h with
 |i::p,_,⟨h1,h2⟩=>
  rw[jhC h1]at h2;rcases hb with hb|hb
  .left;rw[jgM,jhC h1];refine⟨hb.1,by show(t.args.set i _).length=2;rw[jfz];exact hb.2.1,λu hu=>?_⟩;rcases jfQ (show u∈t.args.set i (jgM s p t.args[i]) from hu)with hu|hu
   .exact hb.2.2 u hu
   .rw [hu];exact juf hs h2 (hb.2.2 _ (jfL h1))
  .right;refine⟨hb.1,?_⟩;exact juf (p:=i::p) hs ⟨h1,by rw[jhC h1];exact h2⟩ hb.2
theorem jrr(s:T):∀(p:Xf)(t:T),okP p t->nodes (jgM s p t)<=nodes t+nodes s
 | [],t,_=>by rw[jgM];omega
 |i::p,t,h=>by
  obtain⟨h1,h2⟩:=h;rw[jhC h1]at h2;have ih:=jrr s p t.args[i] h2;rw[jgM,jhC h1,jgx t];show 1+jgm (t.args.set i (jgM s p t.args[i]))<=_;have key:∀(ts:Xg)(i:Nat)(h:i<ts.length)(u:T),nodes u<=nodes ts[i]+nodes s->jgm (ts.set i u)<=jgm ts+nodes s:=by
   intro ts;induction ts with
   |nil=>intro i h;simp at h
   |cons x xs ih2=>
    intro i h u hu;cases i with
    |zero=>simp only[List.set_cons_zero,jgm,List.getElem_cons_zero]at hu⊢;omega
    |succ i=>
     have:=ih2 i (by simpa using h) u (by simpa using hu);simp only[List.set_cons_succ,jgm];omega
  have:=key t.args i h1 _ ih;omega
def EXB(t:T):Prop:=EX false t/\Bx t
theorem jmf{rs:Xg}(hr:RS rs){t u:T}(h:EXB t)(ho:jj0 rs false t=some u):Tz u/\Bx u/\(jgr u=true->EX false u)/\G 250 [tm u]=some (vb (jgr u),[]):=by
 have hn:=jxe hr t false h.1 ho;have hn0:=h.1.1.1;rw[jlo]at ho;split at ho;rotate_left
 .cases ho
 rename_i us hus;cases ho;obtain⟨g1,g2⟩:=jln hus;have hk:∀v∈us,okT v=true:=g2 (λv=>okT v=true) (λv hv=>(h.1.2.1 v hv).1) λv hv u' hu'=>jyz hr.ok v (h.1.2.1 v hv).1 hu';have hb:Bx (.mk t.name us):=by
  rcases h.2 with h2|h2
  .exact Or.inl ⟨h2.1,g1.trans h2.2.1,hk⟩
  .refine Or.inr ⟨h2.1,?_⟩;have h3:=h2.2;rw[jht,jxB h2.1,ja0 Bool.false_ne_true,jbX,jbX,jfH]at h3;rw[jht];show(if jgk t.name=true then _ else(jhO t.name && (decide (us.length<=4) && jqZ us)))=true;rw[jxB h2.1,ja0 Bool.false_ne_true,h2.1,g1,decide_eq_true h3.2.1,jiH,Bool.true_and,Bool.true_and,jfn];exact hk
 have hz:Tz (.mk t.name us):=hb.tz (by omega);refine⟨hz,hb,λhs=>?_,jtt hz hb.ax⟩;have hns:=jha hs;refine⟨⟨by omega,hz⟩,λv hv=>⟨hk v hv,?_⟩,λh=>by cases h⟩;have:=jh9 (t:= .mk t.name us) hv;omega
theorem jxs(rs:Xg)(hr:RS rs):∀(k n:Nat),k+n=51->1<=k-> ∀t:T,EXB t->jp5 (tms rs) (vb false) (vi (n:Nat)) (sv []) (sv t.name) (tms t.args) []=jvt (rwN rs false k n t):=by
 intro k;induction k with
 |zero=>intro n _ h;omega
 |succ k ih=>
  intro n hk _ t ht;have e1:=jzm rs hr false t ht.1;rw[jGE,rwN];cases ho:jj0 rs false t with
  |none=>
   rw[ho]at e1;have e1:G 259 [tm t,tms rs,vb false]=some (.tup [tm t,vb false],[]):=e1;show _=some (A.tup [tm t,vi (n:Nat),vb true],[]);simp only[evz,e1]
  |some u=>
   rw[ho]at e1;have e1:G 259 [tm t,tms rs,vb false]=some (.tup [tm u,vb true],[]):=e1;obtain⟨hu,hb,hs,hA⟩:=jmf hr ht ho;have e2:G 250 [tm u]=some (vb (jgr u),[]):=hA;by_cases h50:n=50
   .have hk0:k=0:=by omega
    have hn:((n:Nat):Int)=50:=by omega
    show _=jvt (if k=0\/jgr u=false then none else rwN rs false k (n+1) u);rw[jbZ (Or.inl hk0)];show _=some (A.tup [.agg [sv [],.sl 2 []],vi 0,vb false],[]);simp only[evz,e1,hn]
   .have hn:¬((n:Nat):Int)=50:=by omega
    have hk0:¬k=0:=by omega
    show _=jvt (if k=0\/jgr u=false then none else rwN rs false k (n+1) u);cases hsm:jgr u with
    |false=>
     rw[hsm]at e2;rw[jbZ (Or.inr rfl)];show _=some (A.tup [.agg [sv [],.sl 2 []],vi 0,vb false],[]);simp only[evz,e1,hn,e2]
    |true=>
     rw[hsm]at e2;rw[ja0 (by simp[hk0])];have h5:ck ((n:Int)+1)=some (vi ((n+1:Nat):Int)):=jgA (by omega) (by omega);have:=ih (n+1) (by omega) (by omega) u ⟨hs hsm,hb⟩;rw[<-this];simp only[evz,e1,hn,e2,h5]
theorem jxq(rs:Xg)(hr:RS rs):∀(k n:Nat),k+n=51->1<=k-> ∀t:T,EXB t->jpX (tms rs) (vb false) (vi (n:Nat)) (sv []) (sv t.name) (tms t.args) []=jvt (rwN rs false k n t):=by
 intro k;induction k with
 |zero=>intro n _ h;omega
 |succ k ih=>
  intro n hk _ t ht;have e1:=jzk rs hr t false ht.1;rw[jGx,rwN];cases ho:jj0 rs false t with
  |none=>
   rw[ho]at e1;have e1:G 204 [tm t,tms rs,vb false]=some (.tup [.agg [sv [],.sl 2 []],vb false],[]):=e1;show _=some (A.tup [tm t,vi (n:Nat),vb true],[]);simp only[evz,e1]
  |some u=>
   rw[ho]at e1;have e1:G 204 [tm t,tms rs,vb false]=some (.tup [tm u,vb true],[]):=e1;obtain⟨hu,hb,hs,hA⟩:=jmf hr ht ho;have e2:G 205 [tm u]=some (vb (jgr u),[]):=jli u hu.wf hu;by_cases h50:n=50
   .have hk0:k=0:=by omega
    have hn:((n:Nat):Int)=50:=by omega
    show _=jvt (if k=0\/jgr u=false then none else rwN rs false k (n+1) u);rw[jbZ (Or.inl hk0)];show _=some (A.tup [.agg [sv [],.sl 2 []],vi 0,vb false],[]);simp only[evz,e1,hn]
   .have hn:¬((n:Nat):Int)=50:=by omega
    have hk0:¬k=0:=by omega
    show _=jvt (if k=0\/jgr u=false then none else rwN rs false k (n+1) u);cases hsm:jgr u with
    |false=>
     rw[hsm]at e2;rw[jbZ (Or.inr rfl)];show _=some (A.tup [.agg [sv [],.sl 2 []],vi 0,vb false],[]);simp only[evz,e1,hn,e2]
    |true=>
     rw[hsm]at e2;rw[ja0 (by simp[hk0])];have h5:ck ((n:Int)+1)=some (vi ((n+1:Nat):Int)):=jgA (by omega) (by omega);have:=ih (n+1) (by omega) (by omega) u ⟨hs hsm,hb⟩;rw[<-this];simp only[evz,e1,hn,e2,h5]
theorem jC3(rs:Xg)(hr:RS rs)(t:T)(ht:EXB t):G 219 [tm t,tms rs,vb false]=jvt (rwN rs false 51 0 t):=by
 have e1:=jmh t ht.1.1.2;have:=jxs rs hr 51 0 rfl (by decide) t ht;have:jp5 (tms rs) (vb false) (vi 0) (sv []) (sv t.name) (tms t.args) []=_:=this;rw[jKd];simp only[evz,e1,this]
theorem jC2(rs:Xg)(hr:RS rs)(t:T)(ht:EXB t):G 162 [tm t,tms rs,vb false]=jvt (rwN rs false 51 0 t):=by
 have e1:=jim t ht.1.1.2;have:=jxq rs hr 51 0 rfl (by decide) t ht;have:jpX (tms rs) (vb false) (vi 0) (sv []) (sv t.name) (tms t.args) []=_:=this;rw[jJu];simp only[evz,e1,this]
theorem Bx.exB{t:T}(h:Bx t)(hn:nodes t<=30):EXB t:=⟨⟨⟨by omega,h.tz (by omega)⟩,λu hu=>⟨h.args u hu,by have:=jh9 hu;omega⟩,λh=>by cases h⟩,h⟩
theorem jmA{rs:Xg}(hr:RS rs):∀(k n:Nat){t:T}{r:T×Nat},EXB t->rwN rs false k n t=some r->Bx r.1/\nodes r.1<=31
 |0,n,t,r,_,h=>by simp[rwN]at h
 |k+1,n,t,r,ht,h=>by
  rw[rwN]at h;cases ho:jj0 rs false t with
  |none=>rw[ho]at h;cases h;exact⟨ht.2,ht.1.1.1⟩
  |some u=>
   rw[ho]at h;have h:(if k=0\/jgr u=false then none else rwN rs false k (n+1) u)=some r:=h;split at h
   .cases h
   rename_i hc;obtain⟨_,hb,hs,_⟩:=jmf hr ht ho;have hsm:jgr u=true:=by
    cases hs':jgr u with
    |true=>rfl
    |false=>exact absurd (Or.inr hs') hc
   exact jmA hr k (n+1) ⟨hs hsm,hb⟩ h
end Go.Proofs.YthlhadhipnokfaaGreatDoor
