/- Pd -/
import Derived.Test.YthlhadhipnokfaaGreatDoorPb
import Derived.Test.YthlhadhipnokfaaGreatDoorPa
namespace Go.Proofs.YthlhadhipnokfaaGreatDoor
open Go Go.RowKit Go.Proofs.YthlhadhipnokfaaGreatDoor.Abs
set_option linter.unusedSimpArgs false
set_option linter.unusedVariables false
set_option maxHeartbeats 1000000
theorem qS(t:T)(h:zy t=true\/t.name=[61]):G 197 [tm t]=some (vb (js t.name),[]):=by
 rcases h with h|h
 .exact Yp t h
 .have e1:=jdA 61;have hx:yr (sv t.name) (vi 0)=some (vy ((61:UInt8).toNat:Int)):=by rw[h];exact qU
  have hv:js t.name=upc 61:=by rw[h];decide
  rw[jHR,hv];simp only[je,hx,e1]
theorem jaj(x y:Xb):zs x y=if yK x y then -1 else if yK y x then 1 else 0:=by
 have hf:=K9.flip x y;cases h1:yK x y with
 |true=>unfold zs;rw[h1];rfl
 |false=>
  rw[jh Bool.false_ne_true];cases h2:yK y x with
  |true=>
   have:zs y x = -1:=by unfold zs;rw[h2,jg rfl]
   rw[jg rfl];omega
  |false=>
   rw[jh Bool.false_ne_true];have a1:zs x y=0\/zs x y=1:=by
    unfold zs;rw[h1,jh Bool.false_ne_true];split<;>simp
   have a2:zs y x=0\/zs y x=1:=by
    unfold zs;rw[h2,jh Bool.false_ne_true];split<;>simp
   omega
theorem jgb(b:Bool)(x y:Xb):jy .gtr b (sv x) (sv y)=some (vb (yK y x)):=by
 show some (vb (!(yK x y || decide (x=y))))=_;by_cases e:x=y
 .subst e;rw[jaI,decide_eq_true rfl];rfl
 have h1:=jaj x y;have h3:=K9.flip x y;have h4:=jaj y x;rw[decide_eq_false e,Bool.or_false];cases a:yK x y<;>cases c:yK y x<;>rw[a,c]at h1 h4
 .exact absurd ((K9.zero x y).1 h1) e
 .rfl
 .rfl
 .have h1:zs x y = -1:=h1;have h4:zs y x = -1:=h4;omega
theorem jbx(x y:Xb):G 223 [sv x,sv y]=some (vi (zs x y),[]):=by
 have n1:G 265 [sv x]=some (vb false,[]):=by rw[jHX];simp only[je]
 have n2:G 265 [sv y]=some (vb false,[]):=by rw[jHX];simp only[je]
 rw[jKR,jaj];cases h1:yK x y<;>cases h2:yK y x<;>simp only[je,n1,n2,jgb,h1,h2]
theorem jgD(x y:Nat):G 186 [vi (x:Nat),vi (y:Nat)]=some (vi (zt x y),[]):=by
 have n1:G 102 [vi (x:Nat)]=some (vb false,[]):=by rw[jHI];simp only[je]
 have n2:G 102 [vi (y:Nat)]=some (vb false,[]):=by rw[jHI];simp only[je]
 rw[jKn];unfold zt;by_cases h1:x<y
 .have h1':((x:Nat):Int)<((y:Nat):Int):=by omega
  rw[jg h1];simp only[je,n1,n2,h1']
 .have h1':¬((x:Nat):Int)<((y:Nat):Int):=by omega
  rw[jh h1];by_cases h2:y<x
  .have h2':((y:Nat):Int)<((x:Nat):Int):=by omega
   rw[jg h2];simp only[je,n1,n2,h1',h2']
  .have h2':¬((y:Nat):Int)<((x:Nat):Int):=by omega
   rw[jh h2];simp only[je,n1,n2,h1',h2']
theorem jAI(a b:Int):G 184 [.sl 1 [[vi a],[vi b]]]=some (vi (if a≠0 then a else b),[]):=by
 have i0:jk 1 (.sl 1 [[vi a],[vi b]]) (vi 0)=some (.elt [vi a] 0):=rfl;have i1:jk 1 (.sl 1 [[vi a],[vi b]]) (vi 1)=some (.elt [vi b] 0):=rfl;have ll:kP (.sl 1 [[vi a],[vi b]])=some (vi 2):=rfl;have c0:jy .add false (vi 0) (vi 1)=some (vi 1):=by rw[Kz,jV (by decide) (by decide)];rfl
 have c1:jy .add false (vi 1) (vi 1)=some (vi 2):=by rw[Kz,jV (by decide) (by decide)];rfl
 have z0:(0:Int)<2:=by decide
 have z1:(1:Int)<2:=by decide
 have z2:¬(2:Int)<2:=by decide
 generalize A.sl 1 [[vi a],[vi b]]=X at *;have k2:jib (vi 0) X (vi 2) (vi 2)=some (vi 0,[]):=by rw[js5];simp only[je,z2]
 have k1:jib (vi 0) X (vi 2) (vi 1)=some (vi b,[]):=by
  rw[js5];by_cases hb:b=0
  .simp only[je,z1,i1,hb,c1,k2]
  .simp only[je,z1,i1,hb]
 rw[jKl];simp only[cev];rw[ll,Option.bind_some,js5];by_cases ha:a=0
 .rw [jh (λh=>h ha)];simp only[je,z0,i0,ha,c0,k1]
 .rw [jg ha];simp only[je,z0,i0,ha]
def Rx'(t:T):Prop:=zy t=true\/(t.name=[61]/\ ∀u∈t.args,zy u=true)
theorem Rx'.args{t:T}(h:Rx' t):∀u∈t.args,Rx' u:=λu hu=>Or.inl (by
 rcases h with h|h
 .exact kO h u hu
 .exact h.2 u hu)
theorem jfZ(ts us:Xg)(hl:ts.length<=1048576)(hlen:ts.length=us.length)(ih:∀t∈ts,∀u∈us,G 185 [tm t,tm u]=some (vi (y5 t u),[])) :
  ∀i,i<=ts.length->jng (jG ts) (jG us) (.fn 185 []) (jG ts) (vi (ts.length:Nat)) (vi (i:Nat))=some (vi (yk (ts.drop i) (us.drop i)),[]):=by
 refine upto ?_ ?_
 .rw [jzM,List.drop_length,yk];simp only[je,hlen]
 .intro i hi ih';have hlt:(i:Int)<((ts.length:Nat):Int):=by omega
  have hi2:i<us.length:=by omega
  have hge:¬((us.length:Nat):Int)<=(i:Int):=by omega
  have h5:=jo hi (by show ts.length<=9223372036854775807;omega)
  have e1:=ih ts[i] (jr _) us[i] (jr _);rw[jzM,ji hi,ji hi2,yk];by_cases hc:y5 ts[i] us[i]=0
  .rw [jh (λh=>h hc)];rw[hc]at e1;simp only[je,hlt,ja hi,ja hi2,jd,hge,qx (f:=185) rfl,zm,e1,h5,ih']
  .rw [jg hc];generalize y5 ts[i] us[i]=c at *;simp only[je,hlt,ja hi,ja hi2,jd,hge,qx (f:=185) rfl,zm,e1,hc]
theorem jg9:∀a:T,Rx' a->Tz a-> ∀b:T,Rx' b->Tz b->G 185 [tm a,tm b]=some (vi (y5 a b),[]):=by
 refine T.ind λa ih ha za b hb zb=>?_;have va:=qS a (ha.imp id λh=>h.1);have vb':=qS b (hb.imp id λh=>h.1);have hz:=za;unfold Tz at hz;rw[kH]at hz;have e1:=jbx a.name b.name;have e2:=jgD a.args.length b.args.length;have e3:=jAI (zs a.name b.name) (zt a.args.length b.args.length);have e4:a.args.length=b.args.length->G 224 [jG a.args,jG b.args,.fn 185 []]=some (vi (yk a.args b.args),[]):=λhlen=>by
  have key:=jfZ a.args b.args (by omega) hlen (λt ht u hu=>ih t ht (ha.args t ht) (za.args t ht) u (hb.args u hu) (zb.args u hu)) 0 (Nat.zero_le _);simp only[Int.natCast_zero,List.drop_zero]at key;rw[jKS];simp only[je,key]
 rw[jKm,Y0];unfold cK qv vF;cases h1:js a.name<;>cases h2:js b.name<;>rw[h1]at va<;>rw[h2]at vb'
 .show _=some (vi (if(if zt 1 1≠0 then zt 1 1 else if zs a.name b.name≠0 then zs a.name b.name else zt a.args.length b.args.length)≠0 then(if zt 1 1≠0 then zt 1 1 else if zs a.name b.name≠0 then zs a.name b.name else zt a.args.length b.args.length)else yk a.args b.args),[]);rw[jh (show ¬zt 1 1≠0 by decide)];by_cases hz0:(if zs a.name b.name≠0 then zs a.name b.name else zt a.args.length b.args.length)=0
  .have hlen:a.args.length=b.args.length:=by
    split at hz0
    .rename_i h;exact absurd hz0 h
    .exact (jbv.zero _ _).1 hz0
   rw[jh (λh=>h hz0)];rw[hz0]at e3;simp only[je,va,vb',e1,e2,e3,e4 hlen]
  .rw [jg hz0];generalize (if zs a.name b.name≠0 then zs a.name b.name else zt a.args.length b.args.length)=c at *;simp only[je,va,vb',e1,e2,e3,hz0]
 .have:(if(if zt 1 0≠0 then zt 1 0 else if zs a.name b.name≠0 then zs a.name b.name else zt a.args.length b.args.length)≠0 then(if zt 1 0≠0 then zt 1 0 else if zs a.name b.name≠0 then zs a.name b.name else zt a.args.length b.args.length)else yk a.args b.args)=1:=by
   rw[jg (show zt 1 0≠0 by decide),jg (show zt 1 0≠0 by decide)];rfl
  show _=some (vi (if(if zt 1 0≠0 then zt 1 0 else if zs a.name b.name≠0 then zs a.name b.name else zt a.args.length b.args.length)≠0 then(if zt 1 0≠0 then zt 1 0 else if zs a.name b.name≠0 then zs a.name b.name else zt a.args.length b.args.length)else yk a.args b.args),[]);rw[this];simp only[je,va,vb']
 .have:(if(if zt 0 1≠0 then zt 0 1 else if zs a.name b.name≠0 then zs a.name b.name else zt a.args.length b.args.length)≠0 then(if zt 0 1≠0 then zt 0 1 else if zs a.name b.name≠0 then zs a.name b.name else zt a.args.length b.args.length)else yk a.args b.args) = -1:=by
   rw[jg (show zt 0 1≠0 by decide),jg (show zt 0 1≠0 by decide)];rfl
  show _=some (vi (if(if zt 0 1≠0 then zt 0 1 else if zs a.name b.name≠0 then zs a.name b.name else zt a.args.length b.args.length)≠0 then(if zt 0 1≠0 then zt 0 1 else if zs a.name b.name≠0 then zs a.name b.name else zt a.args.length b.args.length)else yk a.args b.args),[]);rw[this];simp only[je,va,vb']
 .show _=some (vi (if(if zt 0 0≠0 then zt 0 0 else if zs a.name b.name≠0 then zs a.name b.name else zt a.args.length b.args.length)≠0 then(if zt 0 0≠0 then zt 0 0 else if zs a.name b.name≠0 then zs a.name b.name else zt a.args.length b.args.length)else yk a.args b.args),[]);rw[jh (show ¬zt 0 0≠0 by decide)];by_cases hz0:(if zs a.name b.name≠0 then zs a.name b.name else zt a.args.length b.args.length)=0
  .have hlen:a.args.length=b.args.length:=by
    split at hz0
    .rename_i h;exact absurd hz0 h
    .exact (jbv.zero _ _).1 hz0
   rw[jh (λh=>h hz0)];rw[hz0]at e3;simp only[je,va,vb',e1,e2,e3,e4 hlen]
  .rw [jg hz0];generalize (if zs a.name b.name≠0 then zs a.name b.name else zt a.args.length b.args.length)=c at *;simp only[je,va,vb',e1,e2,e3,hz0]
theorem jwh(x y:Xb):G 170 [sv x,sv y]=some (vi (zs x y),[]):=by
 rw[jKb,jaj];cases h1:yK x y<;>cases h2:yK y x<;>simp only[je,jgb,h1,h2]
theorem jjc(n m:Xb)(ts us:Xg)(hl:ts.length<=1048576)(hlen:ts.length=us.length)(ih:∀t∈ts,∀u∈us,G 144 [tm t,tm u]=some (vi (y5 t u),[])) :
  ∀i,i<=ts.length->jh5 (vi (i:Nat)) (sv n) (jG ts) (sv m) (jG us)=some (vi (yk (ts.drop i) (us.drop i)),[]):=by
 refine upto ?_ ?_
 .rw [jzj,List.drop_length,yk];simp only[je]
 .intro i hi ih';have hlt:(i:Int)<((ts.length:Nat):Int):=by omega
  have hi2:i<us.length:=by omega
  have h5:=jo hi (by show ts.length<=9223372036854775807;omega)
  have e1:=ih ts[i] (jr _) us[i] (jr _);rw[jzj,ji hi,ji hi2,yk];by_cases hc:y5 ts[i] us[i]=0
  .rw [jh (λh=>h hc)];rw[hc]at e1;simp only[je,hlt,ja hi,ja hi2,jd,e1,h5,ih']
  .rw [jg hc];generalize y5 ts[i] us[i]=c at *;simp only[je,hlt,ja hi,ja hi2,jd,e1,hc]
theorem jsN(a b:T):y5 a b=if js a.name=true/\js b.name=false then -1 else if js a.name=false/\js b.name=true then 1 else if ¬a.name=b.name then zs a.name b.name else if a.args.length<b.args.length then -1 else if b.args.length<a.args.length then 1 else yk a.args b.args:=by
 rw[Y0];unfold cK qv vF;have hn:=K9.zero a.name b.name;have hzr:zt 1 1=0/\zt 0 0=0/\zt 0 1 = -1/\zt 1 0=1:=by decide
 obtain⟨z1,z2,z3,z4⟩:=hzr;have hz:zt a.args.length b.args.length=if a.args.length<b.args.length then -1 else if b.args.length<a.args.length then 1 else 0:=rfl;cases h1:js a.name<;>cases h2:js b.name<;>simp only[KI,qi,if_false,z1,z2,z3,z4,hz]
 all_goals have hs:=(K9.zero b.name b.name).2 rfl
 all_goals by_cases e:a.name=b.name
 all_goals by_cases l1:a.args.length<b.args.length
 all_goals by_cases l2:b.args.length<a.args.length
 all_goals first
  |(simp[e,hs,l1,l2];done)
  |(have ne:¬zs a.name b.name=0:=λh=>e (hn.1 h);simp only[ne_eq,e,ne,not_false_eq_true,not_true_eq_false,qi,if_false,and_true,and_false,reduceCtorEq];done)
  |simp[l1,l2]
theorem joi:∀a:T,Tz a-> ∀b:T,Tz b->G 144 [tm a,tm b]=some (vi (y5 a b),[]):=by
 refine T.ind λa ih za b zb=>?_;have va:=zL a.name (((kE a).1 za.wf).1);have vb':=zL b.name (((kE b).1 zb.wf).1);have hz:=za;unfold Tz at hz;rw[kH]at hz;have e1:=jwh a.name b.name;have e4:a.args.length=b.args.length->jh5 (vi 0) (sv a.name) (jG a.args) (sv b.name) (jG b.args)=some (vi (yk a.args b.args),[]):=λhlen=>by
  have key:=jjc a.name b.name a.args b.args (by omega) hlen (λt ht u hu=>ih t ht (za.args t ht) u (zb.args u hu)) 0 (Nat.zero_le _);simp only[Int.natCast_zero,List.drop_zero]at key;exact key
 rw[jJS,jsN];have main:∀p:Bool,G 168 [sv a.name]=some (vb p,[])->G 168 [sv b.name]=some (vb p,[])->_:=λp _ _=>trivial;clear main;cases h1:js a.name<;>cases h2:js b.name<;>rw[h1]at va<;>rw[h2]at vb'
 all_goals by_cases en:a.name=b.name
 all_goals try (exfalso;rw[en,h2]at h1;cases h1;done)
 all_goals by_cases l1:a.args.length<b.args.length
 all_goals by_cases l2:b.args.length<a.args.length
 all_goals have l1':(((a.args.length:Nat):Int)<((b.args.length:Nat):Int))=(a.args.length<b.args.length):=propext (by omega)
 all_goals have l2':(((b.args.length:Nat):Int)<((a.args.length:Nat):Int))=(b.args.length<a.args.length):=propext (by omega)
 all_goals first
  |(have e4:=e4 (by omega);rw[en]at e4;simp only[je,vb',en,l1,l2,l1',l2',e4,and_true,and_false];done)
  |(simp only[je,va,vb',e1,en,l1,l2,l1',l2',and_true,and_false];done)
  |(simp only[je,va,vb',e1,en,l1,l2,l1',l2',and_true,true_and,and_false,false_and])
abbrev jN(l:Lt):Xd:=[vb l.1,sv l.2.name,.sl 2 (l.2.args.map jm)]
abbrev ltm(l:Lt):A:= .agg [vb l.1,sv l.2.name,.sl 2 (l.2.args.map jm)]
theorem juO(b:Bool):G 187 [vb b]=some (vi (fl b:Nat),[]):=by
 rw[jKo];cases b<;>simp only[je]<;>rfl
theorem Yl(a b:Lt)(ha:Rx' a.2)(za:Tz a.2)(hb:Rx' b.2)(zb:Tz b.2):G 154 [ltm a,ltm b]=some (vi (cmpL a b),[]):=by
 have e1:=jg9 a.2 ha za b.2 hb zb;have e2:=juO a.1;have e3:=juO b.1;have e4:=jgD (fl a.1) (fl b.1);have e5:=jAI (y5 a.2 b.2) (zt (fl a.1) (fl b.1));have e6:cmpL a b=if y5 a.2 b.2≠0 then y5 a.2 b.2 else zt (fl a.1) (fl b.1):=rfl;rw[jJY,e6];generalize (if y5 a.2 b.2≠0 then y5 a.2 b.2 else zt (fl a.1) (fl b.1))=c at *;generalize zt (fl a.1) (fl b.1)=d at *;generalize y5 a.2 b.2=f at *;simp only[je,e1,e2,e3,e4,e5]
theorem jdc(a b:Lt)(za:Tz a.2)(zb:Tz b.2):G 113 [ltm a,ltm b]=some (vi (cmpL a b),[]):=by
 have e1:=joi a.2 za b.2 zb;have e6:cmpL a b=if y5 a.2 b.2≠0 then y5 a.2 b.2 else zt (fl a.1) (fl b.1):=rfl;rw[jJA,e6];by_cases h:y5 a.2 b.2=0
 .rw [jh (λh'=>h' h)];rw[h]at e1;obtain⟨p,t⟩:=a;obtain⟨q,u⟩:=b;have d1:zt (fl false) (fl true) = -1:=by decide
  have d2:zt (fl true) (fl false)=1:=by decide
  have d3:zt (fl true) (fl true)=0:=by decide
  have d4:zt (fl false) (fl false)=0:=by decide
  cases p<;>cases q<;>simp only[je,e1,d1,d2,d3,d4]
 .rw [jg h];generalize y5 a.2 b.2=c at *;simp only[je,e1,h]
open Go Go.RowKit Go.ChangeShapes Go.Deep Go.Proofs.YthlhadhipnokfaaGreatDoor.Abs
section
variable{P:Program}{t:Nat}{H:Type}{enc:TypeId×Value->H}{w:World}{base:Nat}{spare:Nat->Bool}{held:Bool}{fuel:Nat}{cs:Xh}{x:DataW H×List MemPlace}
theorem jtY{α β γ δ:Type}{g0:α->Xd}{g1:β->Xd}{g2:γ->Xd}{g3:δ->Xd}{p0:α->Prop}{p1:β->Prop}{p2:γ->Prop}{p3:δ->Prop}{f0 f1 f2 f3:Field}{k0 k1 k2 k3:Nat}(ht:P.underlying t=some (.struct #[f0,f1,f2,f3]))
  (o0:f0.offset=0) (o1:f1.offset=k0) (o2:f2.offset=k0+k1) (o3:f3.offset=k0+k1+k2) (c0:P.cellsOf f0.type=k0) (c1:P.cellsOf f1.type=k1) (c2:P.cellsOf f2.type=k2) (c3:P.cellsOf f3.type=k3) (c:P.cellsOf t=k0+k1+k2+k3)
  (h0:∀n cs x,n<fuel->DataW.trod enc P w base spare held n f0.type cs=some x-> ∃a,p0 a/\jz w (λ_=>False) (g0 a) cs/\jx cs)
  (h1:∀n cs x,n<fuel->DataW.trod enc P w base spare held n f1.type cs=some x-> ∃a,p1 a/\jz w (λ_=>False) (g1 a) cs/\jx cs)
  (h2:∀n cs x,n<fuel->DataW.trod enc P w base spare held n f2.type cs=some x-> ∃a,p2 a/\jz w (λ_=>False) (g2 a) cs/\jx cs)
  (h3:∀n cs x,n<fuel->DataW.trod enc P w base spare held n f3.type cs=some x-> ∃a,p3 a/\jz w (λ_=>False) (g3 a) cs/\jx cs)
  (h:DataW.trod enc P w base spare held fuel t cs=some x):∃a b d e,p0 a/\p1 b/\p2 d/\p3 e/\jz w (λ_=>False) (g0 a++g1 b++g2 d++g3 e) cs/\jx cs:=by
 obtain⟨xs,n,hfn,rfl,hl,hlen,hf⟩:=DataW.trod_struct ht h;have e0:=hf 0 f0 rfl;have e1:=hf 1 f1 rfl;have e2:=hf 2 f2 rfl;have e3:=hf 3 f3 rfl;rw[o0,c0]at e0;rw[o1,c1]at e1;rw[o2,c2]at e2;rw[o3,c3]at e3;have hlen:xs.length=4:=hlen;have hx0:xs[0]? = some xs[0]:=j7 (by omega);have hx1:xs[1]? = some xs[1]:=j7 (by omega);have hx2:xs[2]? = some xs[2]:=j7 (by omega);have hx3:xs[3]? = some xs[3]:=j7 (by omega);rw[hx0]at e0;rw[hx1]at e1;rw[hx2]at e2;rw[hx3]at e3;obtain⟨a,q1,q2,q3⟩:=h0 n _ _ (by omega) e0;obtain⟨b,r1,r2,r3⟩:=h1 n _ _ (by omega) e1;obtain⟨d,s1,s2,s3⟩:=h2 n _ _ (by omega) e2;obtain⟨f,u1,u2,u3⟩:=h3 n _ _ (by omega) e3;have e:cs=(cs.drop 0).take k0++(cs.drop k0).take k1++(cs.drop (k0+k1)).take k2++(cs.drop (k0+k1+k2)).take k3:=by
  rw[yN (l:=cs.drop (k0+k1+k2)) (by simp;omega),List.drop_zero,ze,<-List.drop_drop (i:=k2),Qj,ze,<-List.drop_drop,Qj,Qj]
 rw[e];exact⟨a,b,d,f,q1,r1,s1,u1,zl (zl (zl q2 r2) s2) u2,jx.append (jx.append (jx.append q3 r3) s3) u3⟩
end
abbrev clc(c:kj):Xd:=[.sl 3 (c.map jN)]
structure Stp where
 rule:Int
 par:Xi
 whr:Xi
 cls:kj
abbrev stc(s:Stp):Xd:=[vi s.rule,ints s.par,ints s.whr,.sl 3 (s.cls.map jN)]
abbrev stm(s:Stp):A:= .agg [vi s.rule,ints s.par,ints s.whr,.sl 3 (s.cls.map jN)]
structure Prf where
 ax:List kj
 st:List Stp
abbrev cls(l:List kj):A:= .sl 1 (l.map clc)
abbrev yj(l:List Stp):A:= .sl 4 (l.map stc)
abbrev prc(p:Prf):Xd:=[cls p.ax,yj p.st]
abbrev Qu(p:Prf):A:= .agg [cls p.ax,yj p.st]
structure Sch where
 prf:Prf
 act:Xi
 pas:Xi
 lost:Bool
abbrev scc(s:Sch):Xd:=[cls s.prf.ax,yj s.prf.st,ints s.act,ints s.pas,vb s.lost]
abbrev scm(s:Sch):A:= .agg [cls s.prf.ax,yj s.prf.st,ints s.act,ints s.pas,vb s.lost]
def iwf(l:Xi):Prop:=(∀x∈l,I64 x)/\l.length<=9223372036854775807
def cwf(c:kj):Prop:=(∀l∈c,Jv l.2)/\c.length<=9223372036854775807
def swf(s:Stp):Prop:=I64 s.rule/\iwf s.par/\iwf s.whr/\cwf s.cls
def pwf(p:Prf):Prop:=((∀c∈p.ax,cwf c)/\p.ax.length<=9223372036854775807)/\((∀s∈p.st,swf s)/\p.st.length<=9223372036854775807)
def jMh(s:Sch):Prop:=pwf s.prf/\iwf s.act/\iwf s.pas
theorem jGz:Rdr Tryz.prog 119 jN (λl:Lt=>Jv l.2):=λ_ _ _ _ _ _ fuel cs x h=>by
 obtain⟨a,b,h1,h2,h3,h4⟩:=jkd (k0:=1) (k1:=2) Tryz.underlying119 rfl rfl (by kernel_rfl) (by kernel_rfl) (by kernel_rfl)
  (λ_ _ _ _ h=>jDD _ _ _ _ _ _ _ _ _ h) (λ_ _ _ _ h=>jDG _ _ _ _ _ _ _ _ _ h) h
 rw[kU]at h3;exact⟨(a,b),h2,h3,h4⟩
theorem jDE:Rdr Tryz.prog 67 (λc:kj=>[A.sl 3 (c.map jN)]) cwf:=
 Rdr.slice Tryz.underlying67 (by kernel_rfl) (by decide) (λ_=>rfl) jGz
theorem jlW:Rdr Tryz.prog 69 clc cwf:=λ_ _ _ _ _ _ fuel cs x h=>by
 obtain⟨a,h1,h2,h3⟩:=jtX (k0:=1) Tryz.underlying69 rfl (by kernel_rfl) (by kernel_rfl)
  (λ_ _ _ _ h=>jDE _ _ _ _ _ _ _ _ _ h) h
 exact⟨a,h1,h2,h3⟩
theorem jtD:Rdr Tryz.prog 22 (λl:List kj=>[cls l]) (λl=>(∀c∈l,cwf c)/\l.length<=9223372036854775807):=
 Rdr.slice Tryz.underlying22 (by kernel_rfl) (by decide) (λ_=>rfl) jlW
theorem jDF:Rdr Tryz.prog 72 stc swf:=λ_ _ _ _ _ _ fuel cs x h=>by
 obtain⟨a,b,d,e,h1,h2,h3,h4,h5,h6⟩:=jtY (k0:=1) (k1:=1) (k2:=1) (k3:=1) Tryz.underlying72 rfl rfl rfl rfl (by kernel_rfl) (by kernel_rfl) (by kernel_rfl) (by kernel_rfl) (by kernel_rfl)
  (λ_ _ _ _ h=>jtE _ _ _ _ _ _ _ _ _ h) (λ_ _ _ _ h=>jvv _ _ _ _ _ _ _ _ _ h) (λ_ _ _ _ h=>jvv _ _ _ _ _ _ _ _ _ h) (λ_ _ _ _ h=>jlW _ _ _ _ _ _ _ _ _ h) h
 exact⟨⟨a,b,d,e⟩,⟨h1,h2,h3,h4⟩,h5,h6⟩
theorem jA5:Rdr Tryz.prog 23 (λl:List Stp=>[yj l]) (λl=>(∀s∈l,swf s)/\l.length<=9223372036854775807):=
 Rdr.slice Tryz.underlying23 (by kernel_rfl) (by decide) (λ_=>rfl) jDF
theorem jA4:Rdr Tryz.prog 25 prc pwf:=λ_ _ _ _ _ _ fuel cs x h=>by
 obtain⟨a,b,h1,h2,h3,h4⟩:=jkd (k0:=1) (k1:=1) Tryz.underlying25 rfl rfl (by kernel_rfl) (by kernel_rfl) (by kernel_rfl)
  (λ_ _ _ _ h=>jtD _ _ _ _ _ _ _ _ _ h) (λ_ _ _ _ h=>jA5 _ _ _ _ _ _ _ _ _ h) h
 exact⟨⟨a,b⟩,⟨h1,h2⟩,h3,h4⟩
def JH(t:T):Bool:=if t.name=[61]then jbB t else qo t.name && kQ t
theorem jly(t:T)(hw:Jv t)(hs:tsz t<=1048576):G 112 [tm t]=some (vb (JH t),[]):=by
 unfold JH;by_cases he:t.name=[61]
 .rw [jg he];exact jdC t hw hs he
 .have e1:=Y8 t.name ((kE t).1 hw).1;have e2:=KQ t hw hs;rw[jh he,jFW];cases h:qo t.name<;>rw[h]at e1
  .simp only[je,he,e1,Bool.false_and]
  .simp only[je,he,e1,e2,Bool.true_and]
theorem ji4(t:T)(hw:Jv t)(hs:tsz t<=1048576):G 183 [tm t]=some (vb (JH t),[]):=by
 unfold JH;by_cases he:t.name=[61]
 .rw [jg he];exact jaQ t hw hs he
 .have e0:=qj t;rw[decide_eq_false he]at e0;have e1:=jbJ t.name ((kE t).1 hw).1;have e2:=jbK t hw hs;rw[jh he,jHQ];cases h:qo t.name<;>rw[h]at e1
  .simp only[je,e0,e1,Bool.false_and]
  .simp only[je,e0,e1,e2,Bool.true_and]
abbrev cm(c:kj):A:= .agg [.sl 3 (c.map jN)]
def qp(c:kj):Bool:=c.all (λl=>JH l.2) && (jpn c && decide (c.length<=8))
theorem juA{t:T}(h:JH t=true):Rx' t:=by
 unfold JH at h;by_cases he:t.name=[61]
 .rw [jg he]at h;unfold jbB at h;rw[jI,ky,jI,jI]at h;refine Or.inr ⟨he,λu hu=>?_⟩;obtain⟨n,us⟩:=t
  match us,h.1 with
  | [a,b],_=>
   have hu:u ∈ [a,b]:=hu;simp only[jK,List.not_mem_nil,or_false]at hu;rcases hu with rfl|rfl
   .exact h.2.2.1
   .exact h.2.2.2
 .rw [jh he,jI]at h;have h2:=h.2;unfold kQ at h2;rw[jI]at h2;exact Or.inl h2.2
theorem jeQ(l:Lt)(hz:Tz l.2):G 153 [ltm l]=some (vb (JH l.2),[]):=by
 have e:=ji4 l.2 hz.wf hz;rw[jJX];simp only[je,e]
theorem jyh(a b c d e f g h:A):jS [a,b,c,d] 0 [e,f,g,h]=[e,f,g,h]:=rfl
theorem jge(l:Lt):kC 3 (.elt (jN l) 0)=some (ltm l):=rfl
theorem JD(c:kj):kC 1 (.elt (clc c) 0)=some (cm c):=rfl
theorem yP(s:Stp):kC 4 (.elt (stc s) 0)=some (stm s):=rfl
def lsz:kj->Nat
 | []=>0
 |l::c=>tsz l.2+lsz c
def csz(c:kj):Nat:=c.length+lsz c
def jdt:List kj->Nat
 | []=>0
 |c::l=>csz c+jdt l
def ssz(s:Stp):Nat:=s.par.length+s.whr.length+csz s.cls
def jdZ:List Stp->Nat
 | []=>0
 |s::l=>ssz s+jdZ l
def psz(p:Prf):Nat:=(p.ax.length+jdt p.ax)+(p.st.length+jdZ p.st)
def jMg(s:Sch):Nat:=psz s.prf+s.act.length+s.pas.length
theorem jhK:∀{c:kj}{l:Lt},l∈c->tsz l.2<=lsz c
 |x::c,l,h=>by
  simp only[lsz];rcases jK.1 h with rfl|h
  .omega
  .have:=jhK h;omega
theorem jiF:∀{l:List kj}{c:kj},c∈l->csz c<=jdt l
 |x::c,l,h=>by
  simp only[jdt];rcases jK.1 h with rfl|h
  .omega
  .have:=jiF h;omega
theorem jcb:∀{l:List Stp}{s:Stp},s∈l->ssz s<=jdZ l
 |x::c,l,h=>by
  simp only[jdZ];rcases jK.1 h with rfl|h
  .omega
  .have:=jcb h;omega
theorem jGG(l:Lt)(hw:Jv l.2)(left:Int)(h0:0<=left)(h1:left<=1048576):G 90 [ltm l,vi left]=some (vi (ko left ((tsz l.2:Nat):Int)),[]):=by
 have e1:=jD3 l.2 hw left h0 h1;rw[g90];by_cases h:ko left ((tsz l.2:Nat):Int)<0
 .have:ko left ((tsz l.2:Nat):Int) = -1:=by have:=jbN left (tsz l.2:Nat);omega
  simp only[je,e1,this]
 .simp only[je,e1,h]
theorem jFR(l:Lt)(hw:Jv l.2):G 96 [ltm l,ltm l]=some (vb true,[]):=by
 have e1:=jC1 l.2 hw;rw[g96];cases l.1<;>simp only[je,e1]
theorem jD1(l:List Lt)(hl:l.length<=9223372036854775807)(ih:∀t∈l,∀left:Int,0<=left->left<=1048576->G 90 [ltm t,vi left]=some (vi (ko left ((tsz t.2:Nat):Int)),[]))
  (left:Int) (h0:0<=left) (h1:left<=1048576):G 63 [.sl 3 (l.map jN),vi left]=some (vi (ko left ((l.length+lsz l:Nat):Int)),[]):=by
 have loop:∀(a:Int),0<=a->a<=1048576->jpe (.sl 3 (l.map jN)) (vi a) (vi 0)=some (vi (ko a (lsz l)),[]):=by
  have key:=(upto (P:=λi=>∀a:Int,0<=a->a<=1048576->jpe (.sl 3 (l.map jN)) (vi a) (vi i)=some (vi (ko a (lsz (l.drop i))),[])) (n:=l.length) ?_ ?_ 0 (Nat.zero_le _))
  .simp only[List.drop_zero,Int.natCast_zero]at key;exact key
  .intro b hb hb';rw[jEG,List.drop_length];simp only[je,lsz];rw[jau hb]
  .intro i hi ih' b hb hb';have e1:=ih l[i] (jr _) b hb hb';rw[jEG,ji hi];simp only[je,hi,Int.ofNat_lt,ja hi,jge,e1,jo hi hl,lsz];by_cases hc:b<(tsz l[i].2:Nat)
   .rw [z8 hc,z8 (by omega)];rfl
   .have hp:=Ke (Int.not_lt.1 hc);have ih':=ih' (ko b (tsz l[i].2:Nat)) (by omega) (by omega);have hn:¬ko b ((tsz l[i].2:Nat):Int)<0:=by omega
    simp only[je,hn,ih'];rw[QK (Int.not_lt.1 hc),<-Int.natCast_add]
 have hk:=jfX h0 (Int.le_trans h1 (by decide)) hl;rw[g63];simp only[je,hk];by_cases hc:left-l.length<0
 .simp only[je,hc];rw[z8 (by omega)]
 .have hl:=loop (left-l.length) (by omega) (by omega);simp only[je,hc,hl];rw[Yb,<-Int.natCast_add]
theorem jCZ(l:List Lt)(hl:l.length<=9223372036854775807)(ih:∀t∈l,G 96 [ltm t,ltm t]=some (vb true,[])):G 69 [.sl 3 (l.map jN),.sl 3 (l.map jN)]=some (vb true,[]):=by
 have key:=(upto (P:=λi=>jun (.sl 3 (l.map jN)) (.sl 3 (l.map jN)) (vi i)=some (vb true,[])) (n:=l.length) ?_ ?_ 0 (Nat.zero_le _))
 .rw [g69];simp only[Int.natCast_zero]at key;simp only[je,key]
 .rw [jEH];simp only[je]
 .intro i hi ih';have h5:=jo hi hl;have e1:=ih l[i] (jr _);rw[jEH];simp only[je,hi,Int.ofNat_lt,ja hi,jge,e1,h5,ih']
theorem jBB(c:kj)(hw:cwf c)(left:Int)(h0:0<=left)(h1:left<=1048576):G 41 [cm c,vi left]=some (vi (ko left ((csz c:Nat):Int)),[]):=by
 have e1:G 63 [.sl 3 (c.map jN),vi left]=some (vi (ko left ((csz c:Nat):Int)),[]):=jD1 c hw.2 (λl hl=>jGG l (hw.1 l hl)) left h0 h1;rw[g41];by_cases h:ko left ((csz c:Nat):Int)<0
 .have:ko left ((csz c:Nat):Int) = -1:=by have:=jbN left (csz c:Nat);omega
  simp only[je,e1,this]
 .simp only[je,e1,h]
theorem jyG(c:kj)(hw:cwf c):G 49 [cm c,cm c]=some (vb true,[]):=by
 have e1:=jCZ c hw.2 λl hl=>jFR l (hw.1 l hl);rw[g49];simp only[je,e1]
theorem jD0(l:List kj)(hl:l.length<=9223372036854775807)(ih:∀t∈l,∀left:Int,0<=left->left<=1048576->G 41 [cm t,vi left]=some (vi (ko left ((csz t:Nat):Int)),[]))
  (left:Int) (h0:0<=left) (h1:left<=1048576):G 20 [.sl 1 (l.map clc),vi left]=some (vi (ko left ((l.length+jdt l:Nat):Int)),[]):=by
 have loop:∀(a:Int),0<=a->a<=1048576->jpc (.sl 1 (l.map clc)) (vi a) (vi 0)=some (vi (ko a (jdt l)),[]):=by
  have key:=(upto (P:=λi=>∀a:Int,0<=a->a<=1048576->jpc (.sl 1 (l.map clc)) (vi a) (vi i)=some (vi (ko a (jdt (l.drop i))),[])) (n:=l.length) ?_ ?_ 0 (Nat.zero_le _))
  .simp only[List.drop_zero,Int.natCast_zero]at key;exact key
  .intro b hb hb';rw[jEz,List.drop_length];simp only[je,jdt];rw[jau hb]
  .intro i hi ih' b hb hb';have e1:=ih l[i] (jr _) b hb hb';rw[jEz,ji hi];simp only[je,hi,Int.ofNat_lt,ja hi,JD,e1,jo hi hl,jdt];by_cases hc:b<(csz l[i]:Nat)
   .rw [z8 hc,z8 (by omega)];rfl
   .have hp:=Ke (Int.not_lt.1 hc);have ih':=ih' (ko b (csz l[i]:Nat)) (by omega) (by omega);have hn:¬ko b ((csz l[i]:Nat):Int)<0:=by omega
    simp only[je,hn,ih'];rw[QK (Int.not_lt.1 hc),<-Int.natCast_add]
 have hk:=jfX h0 (Int.le_trans h1 (by decide)) hl;rw[g20];simp only[je,hk];by_cases hc:left-l.length<0
 .simp only[je,hc];rw[z8 (by omega)]
 .have hl:=loop (left-l.length) (by omega) (by omega);simp only[je,hc,hl];rw[Yb,<-Int.natCast_add]
theorem jCY(l:List kj)(hl:l.length<=9223372036854775807)(ih:∀t∈l,G 49 [cm t,cm t]=some (vb true,[])):G 29 [.sl 1 (l.map clc),.sl 1 (l.map clc)]=some (vb true,[]):=by
 have key:=(upto (P:=λi=>jui (.sl 1 (l.map clc)) (.sl 1 (l.map clc)) (vi i)=some (vb true,[])) (n:=l.length) ?_ ?_ 0 (Nat.zero_le _))
 .rw [g29];simp only[Int.natCast_zero]at key;simp only[je,key]
 .rw [jEB];simp only[je]
 .intro i hi ih';have h5:=jo hi hl;have e1:=ih l[i] (jr _);rw[jEB];simp only[je,hi,Int.ofNat_lt,ja hi,JD,e1,h5,ih']
theorem jdE{left:Int}{m n:Nat}(h1:left<=1048576)(h:¬ko left (m:Int)<0):ko (ko left (m:Int)) (n:Int)=ko left ((m+n:Nat):Int)/\0<=ko left (m:Int)/\ko left (m:Int)<=1048576:=by
 have hm:(m:Int)<=left:=by
  refine Int.not_lt.1 λhc=>h ?_;rw[z8 hc];decide
 have:=Ke hm;refine⟨?_,by omega,by omega⟩;rw[QK hm,<-Int.natCast_add]
theorem jji{left:Int}{m n:Nat}(h:ko left (m:Int)<0):ko left ((m+n:Nat):Int) = -1:=by
 have:left<m:=by
  refine Int.not_le.1 λhc=>?_;rw[Ke hc]at h;omega
 exact z8 (by omega)
theorem jD2(s:Stp)(hw:swf s)(left:Int)(h0:0<=left)(h1:left<=1048576):G 42 [stm s,vi left]=some (vi (ko left ((ssz s:Nat):Int)),[]):=by
 have e1:=jvH s.par hw.2.1.2 left h0 h1;rw[g42];unfold ssz;by_cases c1:ko left ((s.par.length:Nat):Int)<0
 .rw [jk1,jji c1];simp only[je,e1,c1]
 .obtain ⟨d1,d2,d3⟩:=jdE (n:=s.whr.length) h1 c1;have e2:=jvH s.whr hw.2.2.1.2 _ d2 d3;rw[d1]at e2;by_cases c2:ko left ((s.par.length+s.whr.length:Nat):Int)<0
  .rw [jji c2];simp only[je,e1,c1,e2,c2]
  .obtain ⟨d4,d5,d6⟩:=jdE (n:=csz s.cls) h1 c2;have e3:=jBB s.cls hw.2.2.2 _ d5 d6;rw[d4]at e3;by_cases c3:ko left ((s.par.length+s.whr.length+csz s.cls:Nat):Int)<0
   .have:ko left ((s.par.length+s.whr.length+csz s.cls:Nat):Int) = -1:=by have:=jbN left (s.par.length+s.whr.length+csz s.cls:Nat);omega
    simp only[je,e1,c1,e2,c2,e3,this]
   .simp only[je,e1,c1,e2,c2,e3,c3]
theorem jC0(s:Stp)(hw:swf s):G 50 [stm s,stm s]=some (vb true,[]):=by
 have e1:=jnX s.par hw.2.1.2;have e2:=jnX s.whr hw.2.2.1.2;have e3:=jyG s.cls hw.2.2.2;rw[g50];simp only[je,e1,e2,e3]
theorem jBD(l:List Stp)(hl:l.length<=9223372036854775807)(ih:∀t∈l,∀left:Int,0<=left->left<=1048576->G 42 [stm t,vi left]=some (vi (ko left ((ssz t:Nat):Int)),[]))
  (left:Int) (h0:0<=left) (h1:left<=1048576):G 21 [.sl 4 (l.map stc),vi left]=some (vi (ko left ((l.length+jdZ l:Nat):Int)),[]):=by
 have loop:∀(a:Int),0<=a->a<=1048576->jpd (.sl 4 (l.map stc)) (vi a) (vi 0)=some (vi (ko a (jdZ l)),[]):=by
  have key:=(upto (P:=λi=>∀a:Int,0<=a->a<=1048576->jpd (.sl 4 (l.map stc)) (vi a) (vi i)=some (vi (ko a (jdZ (l.drop i))),[])) (n:=l.length) ?_ ?_ 0 (Nat.zero_le _))
  .simp only[List.drop_zero,Int.natCast_zero]at key;exact key
  .intro b hb hb';rw[jEA,List.drop_length];simp only[je,jdZ];rw[jau hb]
  .intro i hi ih' b hb hb';have e1:=ih l[i] (jr _) b hb hb';rw[jEA,ji hi];simp only[je,hi,Int.ofNat_lt,ja hi,yP,e1,jo hi hl,jdZ];by_cases hc:b<(ssz l[i]:Nat)
   .rw [z8 hc,z8 (by omega)];rfl
   .have hp:=Ke (Int.not_lt.1 hc);have ih':=ih' (ko b (ssz l[i]:Nat)) (by omega) (by omega);have hn:¬ko b ((ssz l[i]:Nat):Int)<0:=by omega
    simp only[je,hn,ih'];rw[QK (Int.not_lt.1 hc),<-Int.natCast_add]
 have hk:=jfX h0 (Int.le_trans h1 (by decide)) hl;rw[g21];simp only[je,hk];by_cases hc:left-l.length<0
 .simp only[je,hc];rw[z8 (by omega)]
 .have hl:=loop (left-l.length) (by omega) (by omega);simp only[je,hc,hl];rw[Yb,<-Int.natCast_add]
theorem jyI(l:List Stp)(hl:l.length<=9223372036854775807)(ih:∀t∈l,G 50 [stm t,stm t]=some (vb true,[])):G 30 [.sl 4 (l.map stc),.sl 4 (l.map stc)]=some (vb true,[]):=by
 have key:=(upto (P:=λi=>juj (.sl 4 (l.map stc)) (.sl 4 (l.map stc)) (vi i)=some (vb true,[])) (n:=l.length) ?_ ?_ 0 (Nat.zero_le _))
 .rw [g30];simp only[Int.natCast_zero]at key;simp only[je,key]
 .rw [jEC];simp only[je]
 .intro i hi ih';have h5:=jo hi hl;have e1:=ih l[i] (jr _);rw[jEC];simp only[je,hi,Int.ofNat_lt,ja hi,yP,e1,h5,ih']
theorem jBC(p:Prf)(hw:pwf p)(left:Int)(h0:0<=left)(h1:left<=1048576):G 6 [Qu p,vi left]=some (vi (ko left ((psz p:Nat):Int)),[]):=by
 have e1:=jD0 p.ax hw.1.2 (λc hc=>jBB c (hw.1.1 c hc)) left h0 h1;rw[g6];unfold psz;by_cases c1:ko left ((p.ax.length+jdt p.ax:Nat):Int)<0
 .rw [jji c1];simp only[je,e1,c1]
 .obtain ⟨d1,d2,d3⟩:=jdE (n:=p.st.length+jdZ p.st) h1 c1;have e2:=jBD p.st hw.2.2 (λs hs=>jD2 s (hw.2.1 s hs)) _ d2 d3;rw[d1]at e2;by_cases c2:ko left ((p.ax.length+jdt p.ax+(p.st.length+jdZ p.st):Nat):Int)<0
  .have:ko left ((p.ax.length+jdt p.ax+(p.st.length+jdZ p.st):Nat):Int) = -1:=by have:=jbN left (p.ax.length+jdt p.ax+(p.st.length+jdZ p.st):Nat);omega
   simp only[je,e1,c1,e2,this]
  .simp only[je,e1,c1,e2,c2]
theorem jyH(p:Prf)(hw:pwf p):G 11 [Qu p,Qu p]=some (vb true,[]):=by
 have e1:=jCY p.ax hw.1.2 λc hc=>jyG c (hw.1.1 c hc);have e2:=jyI p.st hw.2.2 λs hs=>jC0 s (hw.2.1 s hs);rw[g11];simp only[je,e1,e2]
theorem jeP(s:Xb):y9 (sv s)=true:=rfl
theorem jqa(b:Bool):y9 (vb b)=true:=rfl
theorem QI(n:Int):y9 (vi n)=true:=rfl
theorem jeO(k:Nat)(xs:Xc):jc9 (.sl k xs)=true:=rfl
theorem jxl(ts:Xg)(hl:ts.length<=1048576)(ih:∀t∈ts,jmL (tm t)=some (.top,[sv t.name,.sl 66 (t.args.map jm)])):jdn (jG ts)=some (.top,[.sl 66 (ts.map jm)]):=by
 have key:=(upto (P:=λi=>jd8 (jG ts) (vi i) (part jm [sv [],.sl 2 []] ts i)=some (.top,[.sl 66 (ts.map jm)])) (n:=ts.length) ?_ ?_ 0 (Nat.zero_le _))
 .rw [jFs];have hm:=qV (b:=40) (n:=ts.length) (by omega) hl;simp only[Int.natCast_zero,<-KT]at key;simp only[je,hm,key]
 .rw [jqk,Yz];simp only[je]
 .intro i hi ih';have h1:=Jq (f:=jm) (z:=[sv [],.sl 2 []]) (Nat.le_of_lt hi);have h2:Zt (part jm [sv [],.sl 2 []] ts i).length (vi i)=some i:=zg (by omega);have h4:=YB (f:=jm) (z:=[sv [],.sl 2 []]) hi;rw[kU]at h4;have h5:=jo hi (Zs hl (by decide));have e1:=ih ts[i] (jr _);rw[jqk];simp only[je,hi,Int.ofNat_lt,ja hi,jd,e1,List.getElem?_cons_zero,jeP,h2,YA hi,jhB,h4,h5,ih']
theorem jBH(t:T)(ht:jdn (jG t.args)=some (.top,[.sl 66 (t.args.map jm)])):jmL (tm t)=some (.top,[sv t.name,.sl 66 (t.args.map jm)]):=by
 rw[jFp];simp only[je,ht]
theorem jD5(t:T):tsz t<=1048576->jdn (jG t.args)=some (.top,[.sl 66 (t.args.map jm)]):=by
 refine T.ind (p:=λt=>tsz t<=1048576->jdn (jG t.args)=some (.top,[.sl 66 (t.args.map jm)])) ?_ t;intro t ih h;rw[kH]at h;exact jxl t.args (by omega) λu hu=>jBH u (ih u hu (by have:=yv hu;omega))
theorem jBG(t:T)(h:tsz t<=1048576):jsk (sv t.name) (jG t.args)=some (.top,[sv t.name,.sl 66 (t.args.map jm)]):=by
 have e1:=jD5 t h;rw[jFo];simp only[je,e1]
theorem jAO(n:Int):jdP (.sl 1 [[vy n]])=some (sv [UInt8.ofNat n.toNat]):=rfl
theorem jtw(x:Int):jy .rem false (vi x) (vi 10)=some (vi (x.tmod 10)):=rfl
theorem jwF(x:Int):jy .rem false (vi x) (vi 3)=some (vi (x.tmod 3)):=rfl
theorem jtv(x:Int):jy .quo false (vi x) (vi 10)=ck (x.tdiv 10):=rfl
theorem jDw(k:IntKind)(a:Int):qB .u8 (.val (.int k a))=some (vy (IntKind.u8.wrap a)):=rfl
theorem jGr(n:Int):jU (vy n)=true:=rfl
theorem jkR:∀(k:Nat)(out:Xb),out.length+k<=1000000000-> ∃s,juo (vi (k:Nat)) (sv out)=some (sv s,[]):=by
 intro k;induction k using Nat.strongRecOn with
 |ind k ih=>
  intro out hl;by_cases hk:(0:Int)<(k:Nat)
  .have h1:((k:Nat):Int).tdiv 10=((k / 10:Nat):Int):=by rw[Int.tdiv_eq_ediv_of_nonneg (by omega)];rfl
   have h2:((k:Nat):Int).tmod 10=((k % 10:Nat):Int):=by rw[Int.tmod_eq_emod_of_nonneg (by omega)];rfl
   have c1:ck ((k / 10:Nat):Int)=some (vi ((k / 10:Nat):Int)):=jV (by omega) (by omega);have c2:ck (48+((k % 10:Nat):Int))=some (vi (48+((k % 10:Nat):Int))):=jV (by omega) (by omega);generalize hc:UInt8.ofNat (IntKind.u8.wrap (48+((k % 10:Nat):Int))).toNat=c;have e1:jy .add false (sv [c]) (sv out)=some (sv ([c]++out)):=by rw[QN,jg (by simp;omega)]
   obtain⟨s,hs⟩:=ih (k / 10) (by omega) ([c]++out) (by simp;omega)
   refine⟨s,?_⟩;rw[jEI];simp only[je,hk,jtw,h2,c2,jDw,jGr,jAO,hc,e1,jtv,h1,c1,hs]
  .have e1:jy .add false (sv [109]) (sv out)=some (sv ([109]++out)):=by rw[QN,jg (by simp;omega)]
   refine⟨[109]++out,?_⟩;rw[jEI];simp only[je,hk,e1]
theorem jgS(k:Nat)(h:k<=1000000000):∃s,G 70 [vi (k:Nat)]=some (sv s,[]):=by
 rw[g70];by_cases hk:((k:Nat):Int)<=0
 .exact ⟨[109,48],by simp only[je,hk]⟩
 .obtain ⟨s,hs⟩:=jkR k [] (by simpa using h);exact⟨s,by simp only[je,hk,hs]⟩
theorem jc8:∀(n:Nat)(M:Xi)(k:Int),0<=k->k+n<=4194304->M.length+n<=9223372036854775807->juh (ints (M++jdy k n)) (vi k) (vi (M.length:Nat))=some (vi (k+(n:Nat)),[])
 |0,M,k,h0,hk,hl=>by
  rw[jEy];simp only[je,jdy,zm,Int.natCast_zero,Int.add_zero]
 |n+1,M,k,h0,hk,hl=>by
  rw[jdy];have h1:((M.length:Nat):Int)<(((M++k::jdy (k+1) n).length:Nat):Int):=jdH M _ k;have h2:=jjr (f:=ci) (k:=1) M (jdy (k+1) n) k;have e1:ck (k+1)=some (vi (k+1)):=jV (by omega) (by omega);have h5:=jo (i:=M.length) (n:=(M++k::jdy (k+1) n).length) (by simp) (by simp[jgH];omega);have ih:=jc8 n (M++[k]) (k+1) (by omega) (by omega) (by simp;omega);have q:(M++[k]).length=M.length+1:=by simp
  rw[q,ze,List.singleton_append,show k+1+((n:Nat):Int)=k+((n+1:Nat):Int) by omega]at ih;rw[jEy];simp only[je,h1,h2,e1,h5,ih]
theorem jpZ(n:Nat)(k:Int)(h0:0<=k)(hk:k+n<=4194304):G 14 [ints (jdy k n),vi k]=some (vi (k+(n:Nat)),[]):=by
 have:=jc8 n [] k h0 hk (by simp;omega)
 rw[g14];exact this
mutual
def mkN:T->Nat
 |.mk _ us=>1+mkL us
def mkL:Xg->Nat
 | []=>0
 |t::ts=>mkN t+mkL ts
end
theorem jAv(t:T):mkN t=1+mkL t.args:=by cases t;simp[mkN,T.args]
mutual
theorem jDl:∀t:T,mkN t<=1+tsz t
 |.mk n us=>by
  have:=jot us;simp only[mkN,tsz];omega
theorem jot:∀ts:Xg,mkL ts<=ts.length+ZG ts
 | []=>by simp[mkL]
 |t::ts=>by
  have h1:=jDl t;have h2:=jot ts;simp only[mkL,ZG,j8];omega
end
theorem jbR:∀(r:Xg)(M:Xc)(k:Nat),k+mkL r<=100000000->M.length+r.length<=9223372036854775807->
  (∀t∈r,∀k:Nat,k+mkL t.args<=100000000-> ∃X,jk3 (vi (k:Nat)) (t.args.map jm)=some (.top,[vi ((k+mkL t.args:Nat):Int),.sl 66 X]))->
  ∃X,jhy (vi (k:Nat)) (vi (M.length:Nat)) (M++r.map jm)=some (.top,[vi ((k+mkL r:Nat):Int),.sl 66 X])
 | [],M,k,hk,hl,_=>by
  refine⟨M,?_⟩;rw[jve,List.map_nil,zm];simp only[je,mkL,j6]
 |t::r,M,k,hk,hl,ht=>by
  simp only[mkL,jAv,j8]at hk hl;have h1:((M.length:Nat):Int)<(((M++jm t::r.map jm).length:Nat):Int):=by simp;omega
  have h2:=ZD M (r.map jm) (jm t);have h3:=J2 M (r.map jm) (jm t);obtain⟨s,e0⟩:=jgS k (by omega);have h4:=J3 M (r.map jm) (jm t) [sv s,jG t.args];have h5:=ZD M (r.map jm) [sv s,jG t.args];have h6:=J2 M (r.map jm) [sv s,jG t.args];have e1:=jo (i:=k) (n:=k+1) (by omega) (by omega);have e2:=jo (i:=M.length) (n:=M.length+1) (by omega) (by omega);obtain⟨Y,e3⟩:=ht t (by simp) (k+1) (by omega);have h7:=J3 M (r.map jm) [sv s,jG t.args] [sv s,.sl 2 Y];obtain⟨X,ih⟩:=jbR r (M++[[sv s,.sl 2 Y]]) (k+1+mkL t.args) (by omega) (by simp;omega) λu hu=>ht u (by simp[hu]);have q:(M++[[sv s,.sl 2 Y]]).length=M.length+1:=by simp
  have q2:M++[[sv s,.sl 2 Y]]++r.map jm=M++[sv s,.sl 2 Y]::r.map jm:=by simp
  rw[q,q2,show k+1+mkL t.args+mkL r=k+(1+mkL t.args+mkL r) by omega]at ih;have o1:jS (jm t) 0 [sv s]=[sv s,jG t.args]:=by rw[kU];rfl
  have o2:jS [sv s,jG t.args] 1 [.sl 2 Y]=[sv s,.sl 2 Y]:=rfl;have tv:jaU (jm t) 0 1=true:=by rw[kU];rfl
  refine⟨X,?_⟩;rw[jve,kK,mkL,jAv];simp only[je,h1,e0,h2,h3,jeP,tv,o1,h4,h5,h6,jeO,e1,e3,List.getElem?_cons_zero,o2,h7,e2,ih]
theorem jqK(t:T):Jv t-> ∀k:Nat,k+mkL t.args<=100000000-> ∃X,jk3 (vi (k:Nat)) (t.args.map jm)=some (.top,[vi ((k+mkL t.args:Nat):Int),.sl 66 X]):=by
 refine T.ind (p:=λt=>Jv t-> ∀k:Nat,k+mkL t.args<=100000000-> ∃X,jk3 (vi (k:Nat)) (t.args.map jm)=some (.top,[vi ((k+mkL t.args:Nat):Int),.sl 66 X])) ?_ t;intro t ih hw k hk;obtain⟨_,w2,w3⟩:=(kE t).1 hw;have w3:=(ke _).1 w3;obtain⟨X,h⟩:=jbR t.args [] k hk (by simpa using w2) λu hu=>ih u hu (w3 u hu);refine⟨X,?_⟩;rw[jHw];exact h
def HL:Nat->Xg->Nat->Prop
 |k,[],k'=>k'=k
 |k,u::us,k'=>∃k1:Nat,G 70 [vi (k:Nat)]=some (sv u.name,[])/\G 89 [jG u.args,vi ((k+1:Nat):Int)]=some (vi (k1:Nat),[])/\k<k1/\HL k1 us k'
theorem jyg(a b c d e f:A):jS [a,b,c] 0 [d,e,f]=[d,e,f]:=rfl
theorem jyf(a d:A):jS [a] 0 [d]=[d]:=rfl
theorem jLR(a b c:A)(k:Nat)(r:Xc):hR k (A.top,[a,b,c,.sl k r]) 3=some r:=by
 unfold hR;simp
theorem jmm(l:Xi)(hl:l.length<=1048576):jud (ints l)=some (.top,[.sl 65 (l.map ci)]):=by
 have key:=(upto (P:=λi=>jhx (ints l) (vi i) (part ci [vi 0] l i)=some (.top,[.sl 65 (l.map ci)])) (n:=l.length) ?_ ?_ 0 (Nat.zero_le _))
 .rw [jHv];have hm:=qV (b:=8) (n:=l.length) (by omega) hl;simp only[Int.natCast_zero,<-KT]at key;simp only[je,hm,key]
 .rw [jvd,Yz];simp only[je]
 .intro i hi ih;have h1:=Jq (f:=ci) (z:=[vi 0]) (Nat.le_of_lt hi);have h2:Zt (part ci [vi 0] l i).length (vi i)=some i:=zg (by omega);have h4:=YB (f:=ci) (z:=[vi 0]) hi;have h5:=jo hi (Zs hl (by decide));rw[jvd];simp only[je,hi,Int.ofNat_lt,ja hi,h2,YA hi,jCj,h4,h5,ih,QI]
theorem jD6(l:Lt)(h:tsz l.2<=1048576):jxP (ltm l)=some (.top,[vb l.1,sv l.2.name,.sl 66 (l.2.args.map jm)]):=by
 have e1:=jBG l.2 h;rw[jHz];simp only[je,e1,List.getElem?_cons_zero]
theorem jrV(c:kj)(hl:c.length<=1048576)(hs:∀l∈c,tsz l.2<=1048576):juc (.sl 3 (c.map jN))=some (.top,[.sl 67 (c.map jN)]):=by
 have key:=(upto (P:=λi=>jhw (.sl 3 (c.map jN)) (vi i) (part jN [vb false,sv [],.sl 2 []] c i)=some (.top,[.sl 67 (c.map jN)])) (n:=c.length) ?_ ?_ 0 (Nat.zero_le _))
 .rw [jHu];have hm:=qV (b:=48) (n:=c.length) (by omega) hl;simp only[Int.natCast_zero,<-KT]at key;simp only[je,hm,key]
 .rw [jvc,Yz];simp only[je]
 .intro i hi ih';have h1:=Jq (f:=jN) (z:=[vb false,sv [],.sl 2 []]) (Nat.le_of_lt hi);have h2:Zt (part jN [vb false,sv [],.sl 2 []] c i).length (vi i)=some i:=zg (by omega);have h4:=YB (f:=jN) (z:=[vb false,sv [],.sl 2 []]) hi;have h5:=jo hi (Zs hl (by decide));have e1:=jD6 c[i] (hs _ (jr _));rw[jvc];simp only[je,hi,Int.ofNat_lt,ja hi,jge,e1,List.getElem?_cons_zero,List.getElem?_cons_succ,jeP,jqa,h2,YA hi,jyg,h4,h5,ih']
theorem jt5(c:kj)(hl:c.length<=1048576)(hs:∀l∈c,tsz l.2<=1048576):jxL (cm c)=some (.top,[.sl 67 (c.map jN)]):=by
 have e1:=jrV c hl hs;rw[jHp];simp only[je,e1]
theorem jt4(c:kj)(hl:c.length<=1048576)(hs:∀l∈c,tsz l.2<=1048576):jxM (.sl 3 (c.map jN))=some (.top,[.sl 67 (c.map jN)]):=by
 have e1:=jrV c hl hs;rw[jHq];simp only[je,e1]
theorem jrU(l:List kj)(hl:l.length<=1048576)(hs:∀c∈l,csz c<=1048576):jxD (cls l)=some (.top,[.sl 65 (l.map clc)]):=by
 have key:=(upto (P:=λi=>jhn (cls l) (vi i) (part clc [.sl 3 []] l i)=some (.top,[.sl 65 (l.map clc)])) (n:=l.length) ?_ ?_ 0 (Nat.zero_le _))
 .rw [jHh];have hm:=qV (b:=24) (n:=l.length) (by omega) hl;simp only[Int.natCast_zero,<-KT]at key;simp only[je,hm,key]
 .rw [ju1,Yz];simp only[je]
 .intro i hi ih';have h1:=Jq (f:=clc) (z:=[.sl 3 []]) (Nat.le_of_lt hi);have h2:Zt (part clc [.sl 3 []] l i).length (vi i)=some i:=zg (by omega);have h4:=YB (f:=clc) (z:=[.sl 3 []]) hi;have h5:=jo hi (Zs hl (by decide));have hz:=hs _ (jr hi);have e1:=jt5 l[i] (by unfold csz at hz;omega) λx hx=>by have:=jhK hx;unfold csz at hz;omega
  rw[ju1];simp only[je,hi,Int.ofNat_lt,ja hi,JD,e1,h2,YA hi,jyf,h4,h5,ih']
theorem jBF(s:Stp)(hz:ssz s<=1048576):jxN (stm s)=some (.top,[vi s.rule,.sl 65 (s.par.map ci),.sl 65 (s.whr.map ci),.sl 67 (s.cls.map jN)]):=by
 unfold ssz csz at hz;have e1:=jmm s.par (by omega);have e2:=jmm s.whr (by omega);have e3:=jt4 s.cls (by omega) λx hx=>by have:=jhK hx;omega
 rw[jHr];simp only[je,e1,e2,e3]
theorem jxk(l:List Stp)(hl:l.length<=1048576)(hs:∀s∈l,ssz s<=1048576):jxE (yj l)=some (.top,[.sl 68 (l.map stc)]):=by
 have key:=(upto (P:=λi=>jho (yj l) (vi i) (part stc [vi 0,.sl 1 [],.sl 1 [],.sl 3 []] l i)=some (.top,[.sl 68 (l.map stc)])) (n:=l.length) ?_ ?_ 0 (Nat.zero_le _))
 .rw [jHi];have hm:=qV (b:=80) (n:=l.length) (by omega) hl;simp only[Int.natCast_zero,<-KT]at key;simp only[je,hm,key]
 .rw [ju2,Yz];simp only[je]
 .intro i hi ih';have h1:=Jq (f:=stc) (z:=[vi 0,.sl 1 [],.sl 1 [],.sl 3 []]) (Nat.le_of_lt hi);have h2:Zt (part stc [vi 0,.sl 1 [],.sl 1 [],.sl 3 []] l i).length (vi i)=some i:=zg (by omega);have h4:=YB (f:=stc) (z:=[vi 0,.sl 1 [],.sl 1 [],.sl 3 []]) hi;have h5:=jo hi (Zs hl (by decide));have e1:=jBF l[i] (hs _ (jr hi));rw[ju2];simp only[je,hi,Int.ofNat_lt,ja hi,yP,e1,jLR,List.getElem?_cons_zero,QI,h2,YA hi,jyh,h4,h5,ih']
theorem jxj(p:Prf)(hz:psz p<=1048576):jkC (cls p.ax) (yj p.st)=some (.top,[.sl 65 (p.ax.map clc),.sl 68 (p.st.map stc)]):=by
 unfold psz at hz;have e1:=jrU p.ax (by omega) λc hc=>by have:=jiF hc;omega
 have e2:=jxk p.st (by omega) λs hs=>by have:=jcb hs;omega
 rw[jJn];simp only[je,e1,e2]
def mkC:kj->Nat
 | []=>0
 |l::c=>2+mkL l.2.args+mkC c
theorem jtm:∀c:kj,mkC c<=2*c.length+lsz c
 | []=>by simp[mkC]
 |l::c=>by
  have h1:=jtm c;have h2:=jot l.2.args;have h3:=kH l.2;simp only[mkC,lsz,j8];omega
theorem jdf:∀(r:kj)(M:Xc)(k:Nat),k+mkC r<=100000000->M.length+r.length<=9223372036854775807->(∀l∈r,Jv l.2)->
  ∃X,jhv (vi (k:Nat)) (vi (M.length:Nat)) (M++r.map jN)=some (.top,[vi ((k+mkC r:Nat):Int),.sl 67 X])
 | [],M,k,hk,hl,_=>by
  refine⟨M,?_⟩;rw[jva,List.map_nil,zm];simp only[je,mkC,j6]
 |l::r,M,k,hk,hl,ht=>by
  simp only[mkC,j8]at hk hl;have h1:((M.length:Nat):Int)<(((M++jN l::r.map jN).length:Nat):Int):=by simp;omega
  have hm:((k:Nat):Int).tmod 3=((k % 3:Nat):Int):=by rw[Int.tmod_eq_emod_of_nonneg (by omega)];rfl
  generalize hb:decide (((k % 3:Nat):Int)=0)=b;have h2:=ZD M (r.map jN) (jN l);have h3:=J2 M (r.map jN) (jN l);obtain⟨s,e0⟩:=jgS (k+1) (by omega);have s1:=J3 M (r.map jN) (jN l) [vb b,sv l.2.name,jG l.2.args];have i1:=ZD M (r.map jN) [vb b,sv l.2.name,jG l.2.args];have g1:=J2 M (r.map jN) [vb b,sv l.2.name,jG l.2.args];have s2:=J3 M (r.map jN) [vb b,sv l.2.name,jG l.2.args] [vb b,sv s,jG l.2.args];have i2:=ZD M (r.map jN) [vb b,sv s,jG l.2.args];have g2:=J2 M (r.map jN) [vb b,sv s,jG l.2.args];obtain⟨Y,e3⟩:=jqK l.2 (ht l (by simp)) (k+2) (by omega);have s3:=J3 M (r.map jN) [vb b,sv s,jG l.2.args] [vb b,sv s,.sl 2 Y];have e1:=jo (i:=k) (n:=k+1) (by omega) (by omega);have e1':=jo (i:=k+1) (n:=k+2) (by omega) (by omega);have e2:=jo (i:=M.length) (n:=M.length+1) (by omega) (by omega);obtain⟨X,ih⟩:=jdf r (M++[[vb b,sv s,.sl 2 Y]]) (k+2+mkL l.2.args) (by omega) (by simp;omega) λu hu=>ht u (by simp[hu]);have q:(M++[[vb b,sv s,.sl 2 Y]]).length=M.length+1:=by simp
  have q2:M++[[vb b,sv s,.sl 2 Y]]++r.map jN=M++[vb b,sv s,.sl 2 Y]::r.map jN:=by simp
  rw[q,q2,show k+2+mkL l.2.args+mkC r=k+(2+mkL l.2.args+mkC r) by omega]at ih;have o1:jS (jN l) 0 [vb b]=[vb b,sv l.2.name,jG l.2.args]:=rfl;have o2:jS [vb b,sv l.2.name,jG l.2.args] 1 [sv s]=[vb b,sv s,jG l.2.args]:=rfl;have o3:jS [vb b,sv s,jG l.2.args] 2 [.sl 2 Y]=[vb b,sv s,.sl 2 Y]:=rfl;have t1:jaU (jN l) 0 1=true:=rfl;have t2:jaU [vb b,sv l.2.name,jG l.2.args] 1 1=true:=rfl;refine⟨X,?_⟩;rw[jva,kK,mkC];simp only[je,h1,jwF,hm,hb,h2,h3,jqa,t1,o1,e1,e0,s1,i1,jeP,g1,t2,o2,e1',s2,i2,g2,jeO,e3,List.getElem?_cons_zero,o3,s3,e2,ih]
theorem jgR(c:kj)(k:Nat)(hk:k+mkC c<=100000000)(hw:cwf c):∃X,jub (vi (k:Nat)) (c.map jN)=some (.top,[vi ((k+mkC c:Nat):Int),.sl 67 X]):=by
 obtain⟨X,h⟩:=jdf c [] k hk (by simpa using hw.2) hw.1;refine⟨X,?_⟩;rw[jHt];exact h
def jcW:List kj->Nat
 | []=>0
 |c::l=>mkC c+jcW l
theorem jvi:∀l:List kj,jcW l<=2*jdt l
 | []=>by simp[jcW]
 |c::l=>by
  have h1:=jvi l;have h2:=jtm c;simp only[jcW,jdt,csz];omega
theorem QL:∀(r:List kj)(M:Xc)(k:Nat),k+jcW r<=100000000->M.length+r.length<=9223372036854775807->(∀c∈r,cwf c)->
  ∃X,jhq (vi (k:Nat)) (vi (M.length:Nat)) (M++r.map clc)=some (.top,[vi ((k+jcW r:Nat):Int),.sl 65 X])
 | [],M,k,hk,hl,_=>by
  refine⟨M,?_⟩;rw[ju5,List.map_nil,zm];simp only[je,jcW,j6]
 |c::r,M,k,hk,hl,ht=>by
  simp only[jcW,j8]at hk hl;have h1:((M.length:Nat):Int)<(((M++clc c::r.map clc).length:Nat):Int):=by simp;omega
  have h2:=ZD M (r.map clc) (clc c);have h3:=J2 M (r.map clc) (clc c);obtain⟨Y,e3⟩:=jgR c k (by omega) (ht c (by simp));have s3:=J3 M (r.map clc) (clc c) [.sl 3 Y];have e2:=jo (i:=M.length) (n:=M.length+1) (by omega) (by omega);obtain⟨X,ih⟩:=QL r (M++[[.sl 3 Y]]) (k+mkC c) (by omega) (by simp;omega) λu hu=>ht u (by simp[hu]);have q:(M++[[A.sl 3 Y]]).length=M.length+1:=by simp
  have q2:M++[[A.sl 3 Y]]++r.map clc=M++[.sl 3 Y]::r.map clc:=by simp
  rw[q,q2,show k+mkC c+jcW r=k+(mkC c+jcW r) by omega]at ih;have o3:jS (clc c) 0 [.sl 3 Y]=[.sl 3 Y]:=rfl;refine⟨X,?_⟩;rw[ju5,kK,jcW];simp only[je,h1,h2,h3,jeO,e3,List.getElem?_cons_zero,o3,s3,e2,ih]
theorem jdd:∀(r:Xi)(M:Xc)(k:Nat),k+r.length<=100000000->M.length+r.length<=9223372036854775807->
  ∃X,jd5 (vi (k:Nat)) (vi (M.length:Nat)) (M++r.map ci)=some (.top,[vi ((k+r.length:Nat):Int),.sl 65 X])
 | [],M,k,hk,hl=>by
  refine⟨M,?_⟩;rw[jhJ,List.map_nil,zm];simp only[je,j6]
 |x::r,M,k,hk,hl=>by
  simp only[j8]at hk hl;have h1:((M.length:Nat):Int)<(((M++ci x::r.map ci).length:Nat):Int):=by simp;omega
  have h2:=ZD M (r.map ci) (ci x);have h3:=J2 M (r.map ci) (ci x);have s3:=J3 M (r.map ci) (ci x) [vi (k:Nat)];have e1:=jo (i:=k) (n:=k+1) (by omega) (by omega);have e2:=jo (i:=M.length) (n:=M.length+1) (by omega) (by omega);obtain⟨X,ih⟩:=jdd r (M++[[vi (k:Nat)]]) (k+1) (by omega) (by simp;omega);have q:(M++[[vi (k:Nat)]]).length=M.length+1:=by simp
  have q2:M++[[vi (k:Nat)]]++r.map ci=M++[vi (k:Nat)]::r.map ci:=by simp
  rw[q,q2,show k+1+r.length=k+(r.length+1) by omega]at ih;have o3:jS (ci x) 0 [vi (k:Nat)]=[vi (k:Nat)]:=rfl;have t1:jaU (ci x) 0 1=true:=rfl;refine⟨X,?_⟩;rw[jhJ,kK,j8];simp only[je,h1,h2,h3,QI,t1,o3,s3,e1,e2,ih]
theorem jgQ(l:Xi)(k:Nat)(hk:k+l.length<=100000000):∃X,jhW (vi (k:Nat)) (l.map ci)=some (.top,[vi ((k+l.length:Nat):Int),.sl 65 X]):=by
 obtain⟨X,h⟩:=jdd l [] k hk (by simp;omega)
 refine⟨X,?_⟩;rw[jEr];exact h
def mkS(s:Stp):Nat:=1+s.par.length+s.whr.length+mkC s.cls
def jf6:List Stp->Nat
 | []=>0
 |s::l=>mkS s+jf6 l
theorem jvj:∀l:List Stp,jf6 l<=l.length+2*jdZ l
 | []=>by simp[jf6]
 |s::l=>by
  have h1:=jvj l;have h2:=jtm s.cls;simp only[jf6,mkS,jdZ,ssz,csz,j8];omega
theorem jbQ:∀(r:List Stp)(M:Xc)(k:Nat),k+jf6 r<=100000000->M.length+r.length<=9223372036854775807->(∀s∈r,swf s)->
  ∃X,jhr (vi (k:Nat)) (vi (M.length:Nat)) (M++r.map stc)=some (.top,[vi ((k+jf6 r:Nat):Int),.sl 68 X])
 | [],M,k,hk,hl,_=>by
  refine⟨M,?_⟩;rw[ju6,List.map_nil,zm];simp only[je,jf6,j6]
 |s::r,M,k,hk,hl,ht=>by
  simp only[jf6,mkS,j8]at hk hl;have h1:((M.length:Nat):Int)<(((M++stc s::r.map stc).length:Nat):Int):=by simp;omega
  have e1:=jo (i:=k) (n:=k+1) (by omega) (by omega);have e2:=jo (i:=M.length) (n:=M.length+1) (by omega) (by omega);obtain⟨Y1,m1⟩:=jgQ s.par (k+1) (by omega);obtain⟨Y2,m2⟩:=jgQ s.whr (k+1+s.par.length) (by omega);obtain⟨Y3,m3⟩:=jgR s.cls (k+1+s.par.length+s.whr.length) (by omega) (ht s (by simp)).2.2.2;have i0:=ZD M (r.map stc) (stc s);have g0:=J2 M (r.map stc) (stc s);have s0:=J3 M (r.map stc) (stc s) [vi (k:Nat),ints s.par,ints s.whr,.sl 3 (s.cls.map jN)];have i1:=ZD M (r.map stc) [vi (k:Nat),ints s.par,ints s.whr,.sl 3 (s.cls.map jN)];have g1:=J2 M (r.map stc) [vi (k:Nat),ints s.par,ints s.whr,.sl 3 (s.cls.map jN)];have s1:=J3 M (r.map stc) [vi (k:Nat),ints s.par,ints s.whr,.sl 3 (s.cls.map jN)] [vi (k:Nat),.sl 1 Y1,ints s.whr,.sl 3 (s.cls.map jN)];have i2:=ZD M (r.map stc) [vi (k:Nat),.sl 1 Y1,ints s.whr,.sl 3 (s.cls.map jN)];have g2:=J2 M (r.map stc) [vi (k:Nat),.sl 1 Y1,ints s.whr,.sl 3 (s.cls.map jN)];have s2:=J3 M (r.map stc) [vi (k:Nat),.sl 1 Y1,ints s.whr,.sl 3 (s.cls.map jN)] [vi (k:Nat),.sl 1 Y1,.sl 1 Y2,.sl 3 (s.cls.map jN)];have i3:=ZD M (r.map stc) [vi (k:Nat),.sl 1 Y1,.sl 1 Y2,.sl 3 (s.cls.map jN)];have g3:=J2 M (r.map stc) [vi (k:Nat),.sl 1 Y1,.sl 1 Y2,.sl 3 (s.cls.map jN)];have s3:=J3 M (r.map stc) [vi (k:Nat),.sl 1 Y1,.sl 1 Y2,.sl 3 (s.cls.map jN)] [vi (k:Nat),.sl 1 Y1,.sl 1 Y2,.sl 3 Y3];obtain⟨X,ih⟩:=jbQ r (M++[[vi (k:Nat),.sl 1 Y1,.sl 1 Y2,.sl 3 Y3]]) (k+1+s.par.length+s.whr.length+mkC s.cls) (by omega) (by simp;omega) λu hu=>ht u (by simp[hu]);have q:(M++[[vi (k:Nat),.sl 1 Y1,.sl 1 Y2,.sl 3 Y3]]).length=M.length+1:=by simp
  have q2:M++[[vi (k:Nat),.sl 1 Y1,.sl 1 Y2,.sl 3 Y3]]++r.map stc=M++[vi (k:Nat),.sl 1 Y1,.sl 1 Y2,.sl 3 Y3]::r.map stc:=by simp
  rw[q,q2,show k+1+s.par.length+s.whr.length+mkC s.cls+jf6 r=k+(1+s.par.length+s.whr.length+mkC s.cls+jf6 r) by omega]at ih;have o0:jS (stc s) 0 [vi (k:Nat)]=[vi (k:Nat),ints s.par,ints s.whr,.sl 3 (s.cls.map jN)]:=rfl;have o1:jS [vi (k:Nat),ints s.par,ints s.whr,.sl 3 (s.cls.map jN)] 1 [.sl 1 Y1]=[vi (k:Nat),.sl 1 Y1,ints s.whr,.sl 3 (s.cls.map jN)]:=rfl;have o2:jS [vi (k:Nat),.sl 1 Y1,ints s.whr,.sl 3 (s.cls.map jN)] 2 [.sl 1 Y2]=[vi (k:Nat),.sl 1 Y1,.sl 1 Y2,.sl 3 (s.cls.map jN)]:=rfl;have o3:jS [vi (k:Nat),.sl 1 Y1,.sl 1 Y2,.sl 3 (s.cls.map jN)] 3 [.sl 3 Y3]=[vi (k:Nat),.sl 1 Y1,.sl 1 Y2,.sl 3 Y3]:=rfl;have t0:jaU (stc s) 0 1=true:=rfl;refine⟨X,?_⟩;rw[ju6,kK,jf6,mkS];simp only[je,h1,i0,g0,QI,t0,o0,s0,e1,i1,g1,jeO,m1,List.getElem?_cons_zero,o1,s1,i2,g2,m2,o2,s2,i3,g3,m3,o3,s3,e2,ih]
theorem jos(p:Prf)(hw:pwf p)(hz:psz p<=1048576):∃(k:Nat)(X Y:Xc),jua (vi 1) (p.ax.map clc) (p.st.map stc)=some (.top,[vi (k:Nat),.sl 65 X,.sl 68 Y]):=by
 have h1:=jvi p.ax;have h2:=jvj p.st;unfold psz at hz;obtain⟨X,m1⟩:=QL p.ax [] 1 (by omega) (by simpa using hw.1.2) hw.1.1;obtain⟨Y,m2⟩:=jbQ p.st [] (1+jcW p.ax) (by omega) (by simpa using hw.2.2) hw.2.1;have e1:jxG (vi 1) (p.ax.map clc)=some (.top,[vi ((1+jcW p.ax:Nat):Int),.sl 65 X]):=by
  rw[jHk];exact m1
 have e2:jxH (vi ((1+jcW p.ax:Nat):Int)) (p.st.map stc)=some (.top,[vi ((1+jcW p.ax+jf6 p.st:Nat):Int),.sl 68 Y]):=by
  rw[jHl];exact m2
 refine⟨1+jcW p.ax+jf6 p.st,X,Y,?_⟩;rw[jHf];simp only[je,e1,e2,List.getElem?_cons_zero]
def jd0(w:Nat->Bool)(q:Nat):Nat->Bool:=λj=>decide (j=q) || w j
def QB(w:Nat->Bool)(ps:Xi):Nat->Bool:=ps.foldl (λw q=>jd0 w q.toNat) w
def Qi(par:Nat->Xi):Nat->(Nat->Bool)->Nat->Bool
 |0,w=>w
 |m+1,w=>Qi par m (if w m then QB w (par m)else w)
def jjF(par:Nat->Xi):Nat->(Nat->Bool)->Xf
 |0,_=>[]
 |m+1,w=>if w m then m::jjF par m (QB w (par m))else jjF par m w
theorem jnJ{j:Nat} :∀(ps:Xi)(w:Nat->Bool),(∀q∈ps,0<=q/\q<(j:Int))->QB w ps j=w j
 | [],_,_=>rfl
 |q::ps,w,h=>by
  show QB (jd0 w q.toNat) ps j=w j;rw[jnJ ps _ λx hx=>h x (List.mem_cons_of_mem _ hx)];have:=h q List.mem_cons_self;unfold jd0;rw[decide_eq_false (by omega),Bool.false_or]
section
variable{par:Nat->Xi}(hp:∀(i:Nat),∀q∈par i,0<=q/\q<(i:Int))
include hp
theorem jr9:∀(m:Nat)(w:Nat->Bool)(j:Nat),m<=j->Qi par m w j=w j
 |0,_,_,_=>rfl
 |m+1,w,j,h=>by
  show Qi par m _ j=w j;rw[jr9 m _ j (by omega)];split
  .exact jnJ _ _ λq hq=>by have:=hp m q hq;omega
  .rfl
theorem jjG:∀(m:Nat)(w:Nat->Bool),(jjF par m w).reverse=(List.range m).filter (Qi par m w)
 |0,_=>rfl
 |m+1,w=>by
  have key:∀b:Nat->Bool,b m=w m->(Qi par m b) m=w m:=λb hb=>by rw[jr9 hp m b m (j4 _),hb]
  rw[List.range_succ,List.filter_append];show(if w m then m::jjF par m (QB w (par m))else jjF par m w).reverse=List.filter (Qi par m (if w m then QB w (par m)else w)) (List.range m)++List.filter (Qi par m (if w m then QB w (par m)else w)) [m];cases hw:w m with
  |true=>
   rw[jg rfl,jg rfl,List.reverse_cons,jjG m];have:=key (QB w (par m)) (jnJ _ _ (hp m));rw[hw]at this;rw[List.filter_cons_of_pos this,List.filter_nil]
  |false=>
   rw[jh Bool.false_ne_true,jh Bool.false_ne_true,jjG m];have:=key w rfl;rw[hw]at this;rw[List.filter_cons_of_neg (by rw[this];exact Bool.false_ne_true),List.filter_nil,zm]
end
theorem jq1{n:Nat}(h:n<=4194304):jM n 8=true:=by
 unfold jM;exact decide_eq_true ⟨by omega,by omega⟩
theorem Yk{l:Xi}{j:Nat}{y:Int}(h:l[j]? = some y):YD (l.map ci) j=some (ci y)/\ZK (l.map ci) j 0=some (vi y)/\Zt l.length (vi (j:Nat))=some j:=by
 have hj:=(Zn.1 h).1;refine⟨by unfold YD;simp[h],by unfold ZK;simp[h],zg hj⟩
theorem jsM(l:Xi)(j:Nat)(y:Int):kX (l.map ci) j [vi y]=(l.set j y).map ci:=by
 unfold kX;rw[List.map_set]
theorem jBa:∀(n:Nat)(X M Y:Xi),M.length=n->X.length+M.length+Y.length<=1048576->
  jhu (vi (X.length:Nat)) (vi ((X.length:Nat)+(M.length:Nat)-1)) ((X++M++Y).map ci)=some (.top,[.sl 1 ((X++M.reverse++Y).map ci)]):=by
 intro n;induction n using Nat.strongRecOn with
 |ind n ih=>
 intro X M Y hn hl;rw[jDg]
 match M,hn with
 | [],_=>
  have h:¬((X.length:Nat):Int)<((X.length:Nat):Int)+((0:Nat):Int)-1:=by omega
  simp only[je,h,List.reverse_nil]
 | [x],_=>
  have h:¬((X.length:Nat):Int)<((X.length:Nat):Int)+((1:Nat):Int)-1:=by omega
  simp only[je,h,List.reverse_singleton]
 |x::z::T,hn=>
  obtain⟨W,y,hW⟩:∃W y,z::T=W++[y]:=⟨(z::T).dropLast,(z::T).getLast (by simp),(List.dropLast_concat_getLast (by simp)).symm⟩;rw[hW]at hn hl⊢;have hln:(x::(W++[y])).length=W.length+2:=by simp
  rw[hln]at hn hl⊢;generalize hq:X++x::(W++[y])++Y=l;have hL:l.length=X.length+W.length+2+Y.length:=by rw[<-hq];simp;omega
  have gi:l[X.length]? = some x:=by rw[<-hq];simp
  have gj:l[X.length+W.length+1]? = some y:=by
   rw[<-hq,show X++x::(W++[y])++Y=(X++x::W)++y::Y by simp,JX (by simp;omega)]
   simp;rw[show X.length+W.length+1-(X.length+(W.length+1))=0 by omega];rfl
  have hj:((X.length:Nat):Int)+((W.length+2:Nat):Int)-1=((X.length+W.length+1:Nat):Int):=by omega
  rw[hj];have hlt:((X.length:Nat):Int)<((X.length+W.length+1:Nat):Int):=by omega
  obtain⟨a1,a2,a3⟩:=Yk gi;obtain⟨b1,b2,b3⟩:=Yk gj;have s1:=jsM l X.length y;have gj':(l.set X.length y)[X.length+W.length+1]? = some y:=by
   rw[jg6 (by omega)];exact gj
  obtain⟨d1,d2,d3⟩:=Yk gj';rw[ja0]at d3;have s2:=jsM (l.set X.length y) (X.length+W.length+1) x;have fin:(l.set X.length y).set (X.length+W.length+1) x=(X++[y])++W++(x::Y):=by
   rw[<-hq,show X++x::(W++[y])++Y=X++x::(W++y::Y) by simp,List.set_append_right _ _ (j4 _),Nat.sub_self];show(X++y::(W++y::Y)).set (X.length+W.length+1) x=_;rw[show X++y::(W++y::Y)=(X++y::W)++y::Y by simp,List.set_append_right _ _ (by simp;omega)];simp;rw[show X.length+W.length+1-(X.length+(W.length+1))=0 by omega];rfl
  rw[fin]at s2;have c1:=jo (i:=X.length) (n:=X.length+1) (by omega) (by omega);have c2:ck (((X.length+W.length+1:Nat):Int)-1)=some (vi (((X++[y]).length:Nat)+(W.length:Nat)-1)):=by
   rw[jV (by omega) (by omega)];congr 2;simp;omega
  have:=ih W.length (by omega) (X++[y]) W (x::Y) rfl (by simp;omega)
  rw[show(X++[y]).length=X.length+1 by simp]at this c2;have e:X++[y]++W.reverse++x::Y=X++(x::(W++[y])).reverse++Y:=by simp
  rw[e]at this;have o1:jS (ci x) 0 [vi y]=[vi y]:=rfl;have o2:jS (ci y) 0 [vi x]=[vi x]:=rfl;simp only[je,hlt,a1,a2,a3,b2,b3,s1,d1,s2,c1,c2,o1,o2,this,ja0]
theorem jtK(l:Xi)(hl:l.length<=1048576):jxO (l.map ci)=some (.top,[.sl 1 (l.reverse.map ci)]):=by
 have h:=jBa l.length [] l [] rfl (by simpa using hl);have c:ck (((l.length:Nat):Int)-1)=some (vi (((l.length:Nat):Int)-1)):=jV (by omega) (by omega);simp only[yF,zm,zO,Int.natCast_zero,Int.zero_add]at h;rw[jHs];simp only[je,c,h]
def bT(n:Nat)(w:Nat->Bool):Xc:=(List.range n).map λi=>[vb (w i)]
theorem jad(n:Nat)(w:Nat->Bool):(bT n w).length=n:=by simp[bT]
theorem jnP{n q:Nat}(w:Nat->Bool)(h:q<n):YD (bT n w) q=some [vb (w q)]:=by simp[bT,YD,h]
theorem jnQ{n q:Nat}(w:Nat->Bool)(h:q<n):ZK (bT n w) q 0=some (vb (w q)):=by simp[bT,ZK,h]
theorem jnR{n q:Nat}(w:Nat->Bool)(h:q<n):kX (bT n w) q [vb true]=bT n (jd0 w q):=by
 unfold kX bT;refine List.ext_getElem (by simp) λi h1 h2=>?_;simp only[List.getElem_set,List.getElem_map,List.getElem_range];unfold jd0;by_cases hq:q=i
 .subst hq;simp
 .rw [jh hq,decide_eq_false (by omega),Bool.false_or]
theorem jx5(n:Nat):yH n [vb false]=bT n λ_=>false:=by
 unfold yH bT;exact List.ext_getElem (by simp) λi h1 h2=>by simp
def prL(p:Prf)(i:Nat):Xi:=if h:i<p.st.length then p.st[i].par else[]
theorem jjO{p:Prf}{i:Nat}(h:i<p.st.length):prL p i=p.st[i].par:=by unfold prL;rw[dif_pos h]
section
variable{p:Prf}(hp:∀i:Nat,∀q∈prL p i,0<=q/\q<(i:Int))(hb:∀i:Nat,(prL p i).length<=9223372036854775807)(h60:p.st.length<=60)
include hp hb h60
omit hp hb in
theorem jux(a:A)(i:Nat)(R:Xc)(hi:i<=p.st.length):∀(r M:Xi)(w:Nat->Bool),(∀q∈r,0<=q/\q<(i:Int))->(M++r).length<=9223372036854775807->
  jhp (vi (i:Nat)) (ints (M++r)) (vi ((M++r).length:Nat)) (vi (M.length:Nat)) a (yj p.st) (bT p.st.length w) R=jcq (vi ((i:Nat)-1)) a (yj p.st) (bT p.st.length (QB w r)) R
 | [],M,w,_,_=>by
  have c:ck (((i:Nat):Int)-1)=some (vi (((i:Nat):Int)-1)):=jV (by omega) (by omega);rw[ju4,zm];simp only[je,c];rfl
 |x::r,M,w,h,hl=>by
  have h1:=jdH M r x;have h2:jk 1 (ints (M++x::r)) (vi (M.length:Nat))=some (.elt (ci x) 0):=jjr (f:=ci) (k:=1) M r x;have h3:j9 (.elt (ci x) 0)=some (vi x):=rfl;obtain⟨hx0,hx1⟩:=h x (by simp);obtain⟨q,rfl⟩:=jdm hx0;have hq:q<p.st.length:=by omega
  have h4:Zt p.st.length (vi ((q:Nat):Int))=some q:=zg hq;have h5:=jo (i:=M.length) (n:=(M++(q:Int)::r).length) (by simp) (by simpa using hl);have ih:=jux a i R hi r (M++[(q:Int)]) (jd0 w q) (λy hy=>h y (by simp[hy])) (by simpa using hl);have e:(M++[(q:Int)]).length=M.length+1:=by simp
  rw[e,ze,List.singleton_append]at ih;have o1:jS [vb (w q)] 0 [vb true]=[vb true]:=rfl;have e2:QB w ((q:Int)::r)=QB (jd0 w q) r:=rfl;rw[ju4,e2];simp only[je,h1,h2,h3,h4,jad,jnP w hq,o1,jnR w hq,h5,ih]
theorem jfR(a:A):∀(m:Nat)(w:Nat->Bool)(acc:Xi),m<=p.st.length->acc.length+m<=100->
  jcq (vi ((m:Nat)-1)) a (yj p.st) (bT p.st.length w) (acc.map ci)=some (.top,[ints ((acc++(jjF (prL p) m w).map Int.ofNat).reverse)])
 |0,w,acc,hm,hl=>by
  have hr:=jtK acc (by omega);have h:¬(0:Int)<=((0:Nat):Int)-1:=by omega
  rw[ju3];simp only[je,h,hr,jjF,List.map_nil,zm]
 |m+1,w,acc,hm,hl=>by
  have hlt:m<p.st.length:=by omega
  rw[show((m+1:Nat):Int)-1=((m:Nat):Int) by omega];have h0:(0:Int)<=((m:Nat):Int):=by omega
  have h4:Zt p.st.length (vi ((m:Nat):Int))=some m:=zg hlt;have c:ck (((m:Nat):Int)-1)=some (vi (((m:Nat):Int)-1)):=jV (by omega) (by omega);rw[ju3];show _=some (A.top,[ints ((acc++(if w m then m::jjF (prL p) m (QB w (prL p m))else jjF (prL p) m w).map Int.ofNat).reverse)]);cases hw:w m with
  |false=>
   have ih:=jfR a m w acc (by omega) (by omega);rw[jh Bool.false_ne_true];have b:=jnQ w hlt;rw[hw]at b;simp only[je,h0,jad,h4,b,c,ih]
  |true=>
   have hf:jM (acc.length+1) 8=true:=jq1 (by omega);have pl:qe (.elt (stc p.st[m]) 0) 1=some (.elt (stc p.st[m]) 1):=by rw[qA]
   have lp:j9 (.elt (stc p.st[m]) 1)=some (ints p.st[m].par):=rfl;have hin:=jux h60 a m ((acc++[(m:Int)]).map ci) (by omega) p.st[m].par [] w (by rw[<-jjO hlt];exact hp m) (by rw[yF,<-jjO hlt];exact hb m);have ih:=jfR a m (QB w (prL p m)) (acc++[(m:Int)]) (by omega) (by simp;omega);rw[jjO hlt]at ih⊢;simp only[yF,zO,Int.natCast_zero]at hin;have ha:jR (acc.map ci) [[vi ((m:Nat):Int)]]=(acc++[(m:Int)]).map ci:=by unfold jR;rw[List.map_append];rfl
   have e:acc++[(m:Int)]++(jjF (prL p) m (QB w p.st[m].par)).map Int.ofNat=acc++(m::jjF (prL p) m (QB w p.st[m].par)).map Int.ofNat:=by simp
   rw[jg rfl,<-e];have b:=jnQ w hlt;rw[hw]at b;simp only[je,h0,jad,h4,b,hf,ja hlt,pl,lp,ha,hin,ih]
theorem jCc(k:Nat)(hk:k<p.st.length):jxF (Qu p) (vi (k:Nat))=some (.top,[ints (((List.range (k+1)).filter (Qi (prL p) (k+1) λj=>decide (j=k))).map Int.ofNat)]):=by
 have h:=jfR hp hb h60 (cls p.ax) (k+1) (λj=>decide (j=k)) [] (by omega) (by simp;omega)
 rw[show((k+1:Nat):Int)-1=((k:Nat):Int) by omega,yF,<-List.map_reverse,jjG hp]at h;have mk:=qV (b:=1) (n:=p.st.length) (by omega) (by omega);have h4:Zt p.st.length (vi ((k:Nat):Int))=some k:=zg hk;have z:jd0 (λ_=>false) k=λj=>decide (j=k):=by funext j;simp[jd0]
 have g:=jnP (λ_=>false) hk;have st:=jnR (λ_=>false) hk;rw[z]at st;have o1:jS [vb false] 0 [vb true]=[vb true]:=rfl;simp only[List.map_nil]at h;rw[jHj];simp only[je,mk,jx5,jad,h4,g,o1,st,h]
omit hb in
theorem juy(a:A)(k i:Nat)(hi:i<=k)(hk:k<p.st.length):∀(r M:Xi)(w:Nat->Bool),prL p i=M++r->(M++r).length<=9223372036854775807->
  jhm (vi (k:Nat)) (vi (i:Nat)) (vi (M.length:Nat)) a (yj p.st) (bT (k+1) w)=jee (vi (k:Nat)) (vi ((i:Nat)-1)) a (yj p.st) (bT (k+1) (if w i then QB w r else w))
 | [],M,w,hM,_=>by
  have hlt:i<p.st.length:=by omega
  rw[jjO hlt,zm]at hM;have c:ck (((i:Nat):Int)-1)=some (vi (((i:Nat):Int)-1)):=jV (by omega) (by omega);have pl:qe (.elt (stc p.st[i]) 0) 1=some (.elt (stc p.st[i]) 1):=by rw[qA]
  have lp:j9 (.elt (stc p.st[i]) 1)=some (ints M):=by rw[<-hM];rfl
  have e:(if w i then QB w []else w)=w:=by split<;>rfl
  have n:¬((M.length:Nat):Int)<((M.length:Nat):Int):=by omega
  rw[juZ,e];simp only[je,ja hlt,pl,lp,n,c]
 |x::r,M,w,hM,hl=>by
  have hlt:i<p.st.length:=by omega
  have hx:=hp i x (by rw[hM];simp)
  have hMp:=hM;rw[jjO hlt]at hM;have c:ck (((i:Nat):Int)-1)=some (vi (((i:Nat):Int)-1)):=jV (by omega) (by omega);have pl:qe (.elt (stc p.st[i]) 0) 1=some (.elt (stc p.st[i]) 1):=by rw[qA]
  have lp:j9 (.elt (stc p.st[i]) 1)=some (ints (M++x::r)):=by rw[<-hM];rfl
  have h1:=jdH M r x;have h2:jk 1 (ints (M++x::r)) (vi (M.length:Nat))=some (.elt (ci x) 0):=jjr (f:=ci) (k:=1) M r x;obtain⟨q,rfl⟩:=jdm hx.1;have h3:j9 (.elt (ci (q:Int)) 0)=some (vi (q:Int)):=rfl;have hq:q<k+1:=by omega
  have h4:Zt (k+1) (vi ((q:Nat):Int))=some q:=zg hq;have h6:Zt (k+1) (vi ((i:Nat):Int))=some i:=zg (by omega);have h5:=jo (i:=M.length) (n:=(M++(q:Int)::r).length) (by simp) (by simpa using hl);have o1:jS [vb (w q)] 0 [vb true]=[vb true]:=rfl;have b:=jnQ w (show i<k+1 by omega);rw[juZ];cases hw:w i with
  |false=>
   rw[hw]at b;rw[jh Bool.false_ne_true];simp only[je,ja hlt,pl,lp,h1,jad,h6,b,c]
  |true=>
   rw[hw]at b;have ih:=juy a k i hi hk r (M++[(q:Int)]) (jd0 w q) (by rw[hMp];simp) (by simpa using hl);have e:(M++[(q:Int)]).length=M.length+1:=by simp
   have eu:jd0 w q i=true:=by unfold jd0;rw[hw,Bool.or_true]
   rw[e,eu,jg rfl]at ih;have e2:QB w ((q:Int)::r)=QB (jd0 w q) r:=rfl;rw[jg rfl,e2];simp only[je,ja hlt,pl,lp,h1,h2,h3,h4,jad,h6,b,jnP w hq,o1,jnR w hq,h5,ih]
theorem jk8(a:A)(k:Nat)(hk:k<p.st.length):∀(m:Nat)(w:Nat->Bool),m<=k+1->
  jee (vi (k:Nat)) (vi ((m:Nat)-1)) a (yj p.st) (bT (k+1) w)=Q7 (vi (k:Nat)) (vi 0) (bT (k+1) (Qi (prL p) m w)) []
 |0,w,_=>by
  have h:¬(0:Int)<=((0:Nat):Int)-1:=by omega
  rw[juY];simp only[je,h,Qi]
 |m+1,w,hm=>by
  have h0:(0:Int)<=((m:Nat):Int):=by omega
  have h:=juy hp h60 a k m (by omega) hk (prL p m) [] w rfl (by rw[yF];exact hb m)
  have ih:=jk8 a k hk m (if w m then QB w (prL p m)else w) (by omega);simp only[zO,Int.natCast_zero]at h;rw[show((m+1:Nat):Int)-1=((m:Nat):Int) by omega,juY];simp only[je,h0,h,ih];rfl
omit hp hb h60 in
theorem jxY(k:Nat)(hk:k<=100)(W:Nat->Bool):Q7 (vi (k:Nat)) (vi 0) (bT (k+1) W) []=some (.top,[ints (((List.range (k+1)).filter W).map Int.ofNat)]):=by
 have key:=upto (P:=λi=>Q7 (vi (k:Nat)) (vi i) (bT (k+1) W) ((((List.range i).filter W).map Int.ofNat).map ci)=some (.top,[ints (((List.range (k+1)).filter W).map Int.ofNat)])) (n:=k+1) ?_ ?_ 0 (Nat.zero_le _)
 .exact key
 .have h:¬((k+1:Nat):Int)<=((k:Nat):Int):=by omega
  rw[ju0];simp only[je,h]
 .intro i hi ih;have h:((i:Nat):Int)<=((k:Nat):Int):=by omega
  have h6:Zt (k+1) (vi ((i:Nat):Int))=some i:=zg hi;have b:=jnQ W hi;have h5:=jo (i:=i) (n:=k+1) hi (by omega);have hl:((List.range i).filter W).length<=i:=by have:=List.length_filter_le W (List.range i);simpa using this
  rw[List.range_succ,List.filter_append]at ih;rw[ju0];cases hw:W i with
  |false=>
   rw[hw]at b;rw[List.filter_cons_of_neg (by rw[hw];exact Bool.false_ne_true),List.filter_nil,zm]at ih;simp only[je,h,jad,h6,b,h5,ih]
  |true=>
   rw[hw]at b;rw[List.filter_cons_of_pos hw,List.filter_nil,List.map_append,List.map_append]at ih;have hf:jM (((List.range i).filter W).length+1) 8=true:=jq1 (by omega);have ha:jR ((((List.range i).filter W).map Int.ofNat).map ci) [[vi ((i:Nat):Int)]]=(((List.range i).filter W).map Int.ofNat).map ci++([i].map Int.ofNat).map ci:=rfl;simp only[je,h,jad,h6,b,hf,ha,h5,ih]
theorem jCd(k:Nat)(hk:k<p.st.length):jxC (Qu p) (vi (k:Nat))=some (.top,[ints (((List.range (k+1)).filter (Qi (prL p) (k+1) λj=>decide (j=k))).map Int.ofNat)]):=by
 have h:=jk8 hp hb h60 (cls p.ax) k hk (k+1) (λj=>decide (j=k)) (j4 _);rw[jxY k (by omega),show((k+1:Nat):Int)-1=((k:Nat):Int) by omega]at h;have mk:=qV (b:=1) (n:=k+1) (by omega) (by omega);have c:ck (((k:Nat):Int)+1)=some (vi ((k+1:Nat):Int)):=by rw[jV (by omega) (by omega)];rfl
 have hk1:k<k+1:=by omega
 have h4:Zt (k+1) (vi ((k:Nat):Int))=some k:=zg hk1;have z:jd0 (λ_=>false) k=λj=>decide (j=k):=by funext j;simp[jd0]
 have g:=jnP (λ_=>false) hk1;have st:=jnR (λ_=>false) hk1;rw[z]at st;have o1:jS [vb false] 0 [vb true]=[vb true]:=rfl;rw[jHg];simp only[je,c,mk,jx5,jad,h4,g,o1,st,h]
end
def ja7:Option Lt->kj->Bool
 |_,[]=>true
 |none,l::r=>JH l.2 && ja7 (some l) r
 |some p,l::r=>JH l.2 && (decide (cmpL p l<0) && ja7 (some l) r)
theorem jmx:∀(p:Lt)(c:kj),ja7 (some p) c=(c.all (λl=>JH l.2) && jpn (p::c))
 |p,[]=>rfl
 |p,l::r=>by
  rw[ja7,jmx l r,zR,jpn];cases JH l.2<;>cases decide (cmpL p l<0)<;>simp
theorem jmw(c:kj):(ja7 none c && decide (c.length<=8))=qp c:=by
 unfold qp;cases c with
 |nil=>rfl
 |cons l r=>rw[ja7,jmx,zR];cases JH l.2<;>simp[Bool.and_assoc]
theorem kR(l:Lt):kC 3 (.elt (jN l) 0)=some (ltm l):=rfl
theorem jr6(c:kj)(hl:c.length<=1048576)(hz:∀l∈c,Tz l.2):∀i,i<=c.length-> ∀p:Option Lt,(p=none↔i=0)->(∀q,p=some q->JH q.2=true/\ ∃h:i-1<c.length,c[i-1]=q)->
  jmP (.sl 3 (c.map jN)) (vi (c.length:Nat)) (vi (i:Nat)) (.sl 3 (c.map jN))=some (vb (ja7 p (c.drop i) && decide (c.length<=8)),[]):=by
 refine upto ?_ ?_
 .intro p _ _;have e:decide (((c.length:Nat):Int)<=8)=decide (c.length<=8):=by congr 1;exact propext (by omega)
  rw[jza,List.drop_length,<-e];have:ja7 p []=true:=by cases p<;>rfl
  rw[this];simp only[je,Bool.true_and]
 .intro i hi ih p hp hq;have hlt:(i:Int)<((c.length:Nat):Int):=by omega
  have h5:=jo hi (by show c.length<=9223372036854775807;omega)
  have e1:=jeQ c[i] (hz _ (jr hi));have ix:=ja (k:=3) (f:=jN) hi;have e1:G 153 [.agg [vb c[i].1,sv c[i].2.name,jG c[i].2.args]]=some (vb (JH c[i].2),[]):=e1;rw[jza,ji hi];cases ha:JH c[i].2 with
  |false=>
   rw[ha]at e1;have:ja7 p (c[i]::c.drop (i+1))=false:=by cases p<;>rw[ja7,ha]<;>rfl
   rw[this];simp only[je,hlt,ix,kR,e1,Bool.false_and]
  |true=>
   rw[ha]at e1;have ih1:=ih (some c[i]) (by simp) (λq hq=>by cases hq;exact⟨ha,by simpa using hi,rfl⟩);cases p with
   |none=>
    have h0:i=0:=hp.1 rfl;have hg:¬(0:Int)<(i:Int):=by omega
    rw[ja7,ha,Bool.true_and,<-ih1];simp only[je,hlt,ix,kR,e1,hg,h5]
   |some q=>
    obtain⟨hqa,hq1,hq2⟩:=hq q rfl;have hi0:¬i=0:=λh=>by have:=hp.2 h;cases this
    have hg:(0:Int)<(i:Int):=by omega
    have c1:ck ((i:Int)-1)=some (vi ((i-1:Nat):Int)):=by rw[show(i:Int)-1=((i-1:Nat):Int) by omega,jV (by omega) (by omega)]
    have ix2:=ja (k:=3) (f:=jN) hq1;rw[hq2]at ix2;have hqz:Tz q.2:=by rw[<-hq2];exact hz _ (jr hq1)
    have e2:=Yl q c[i] (juA hqa) hqz (juA ha) (hz _ (jr hi));have e2:G 154 [.agg [vb q.1,sv q.2.name,jG q.2.args],.agg [vb c[i].1,sv c[i].2.name,jG c[i].2.args]]=some (vi (cmpL q c[i]),[]):=e2;rw[ja7,ha,Bool.true_and];by_cases hc:cmpL q c[i]<0
    .have hc':¬(0:Int)<=cmpL q c[i]:=by omega
     rw[decide_eq_true hc,Bool.true_and,<-ih1];generalize cmpL q c[i]=d at *;simp only[je,hlt,ix,kR,e1,hg,c1,ix2,e2,hc',h5]
    .have hc':(0:Int)<=cmpL q c[i]:=by omega
     rw[decide_eq_false hc];generalize cmpL q c[i]=d at *;simp only[je,hlt,ix,kR,e1,hg,c1,ix2,e2,hc',Bool.false_and]
theorem QJ(c:kj)(hl:c.length<=1048576)(hz:∀l∈c,Tz l.2):G 126 [cm c]=some (vb (qp c),[]):=by
 have key:=jr6 c hl hz 0 (Nat.zero_le _) none (by simp) (λq h=>by cases h);rw[List.drop_zero,jmw]at key;simp only[Int.natCast_zero]at key;rw[jJG];simp only[je,key]
theorem jr7(c:kj)(hl:c.length<=1048576)(hz:∀l∈c,Tz l.2):∀i,i<=c.length-> ∀p:Option Lt,(p=none↔i=0)->(∀q,p=some q-> ∃h:i-1<c.length,c[i-1]=q)->
  jur (vi (i:Nat)) (.sl 3 (c.map jN))=some (vb (ja7 p (c.drop i)),[]):=by
 refine upto ?_ ?_
 .intro p _ _;rw[jEL,List.drop_length];have:ja7 p []=true:=by cases p<;>rfl
  rw[this];simp only[je]
 .intro i hi ih p hp hq;have hlt:(i:Int)<((c.length:Nat):Int):=by omega
  have h5:=jo hi (by show c.length<=9223372036854775807;omega)
  have e1:=jly c[i].2 (hz _ (jr hi)).wf (hz _ (jr hi));have ix:=ja (k:=3) (f:=jN) hi;have ad:qe (.elt (jN c[i]) 0) 1=some (.elt (jN c[i]) 1):=rfl;have ld:kC 2 (.elt (jN c[i]) 1)=some (tm c[i].2):=rfl;rw[jEL,ji hi];cases ha:JH c[i].2 with
  |false=>
   rw[ha]at e1;have:ja7 p (c[i]::c.drop (i+1))=false:=by cases p<;>rw[ja7,ha]<;>rfl
   rw[this];simp only[je,hlt,ix,ad,ld,e1]
  |true=>
   rw[ha]at e1;have ih1:=ih (some c[i]) (by simp) (λq hq=>by cases hq;exact⟨by simpa using hi,rfl⟩);cases p with
   |none=>
    have h0:i=0:=hp.1 rfl;have hg:¬(0:Int)<(i:Int):=by omega
    rw[ja7,ha,Bool.true_and,<-ih1];simp only[je,hlt,ix,ad,ld,e1,hg,h5]
   |some q=>
    obtain⟨hq1,hq2⟩:=hq q rfl;have hi0:¬i=0:=λh=>by have:=hp.2 h;cases this
    have hg:(0:Int)<(i:Int):=by omega
    have c1:ck ((i:Int)-1)=some (vi ((i-1:Nat):Int)):=by rw[show(i:Int)-1=((i-1:Nat):Int) by omega,jV (by omega) (by omega)]
    have ix2:=ja (k:=3) (f:=jN) hq1;rw[hq2]at ix2;have hqz:Tz q.2:=by rw[<-hq2];exact hz _ (jr hq1)
    have e2:=jdc q c[i] hqz (hz _ (jr hi));rw[ja7,ha,Bool.true_and];by_cases hc:cmpL q c[i]<0
    .have hc':¬(0:Int)<=cmpL q c[i]:=by omega
     rw[decide_eq_true hc,Bool.true_and,<-ih1];generalize cmpL q c[i]=d at *;simp only[je,hlt,ix,ad,ld,kR,e1,hg,c1,ix2,e2,hc',h5]
    .have hc':(0:Int)<=cmpL q c[i]:=by omega
     rw[decide_eq_false hc];generalize cmpL q c[i]=d at *;simp only[je,hlt,ix,ad,ld,kR,e1,hg,c1,ix2,e2,hc',Bool.false_and]
theorem jcw(c:kj)(hl:c.length<=1048576)(hz:∀l∈c,Tz l.2):G 91 [cm c]=some (vb (qp c),[]):=by
 have key:=jr7 c hl hz 0 (Nat.zero_le _) none (by simp) (λq h=>by cases h);rw[List.drop_zero]at key;simp only[Int.natCast_zero]at key;rw[g91,<-jmw];by_cases h8:c.length<=8
 .have h8':¬(8:Int)<((c.length:Nat):Int):=by omega
  rw[decide_eq_true h8,Bool.and_true];simp only[je,h8',key]
 .have h8':(8:Int)<((c.length:Nat):Int):=by omega
  rw[decide_eq_false h8,Bool.and_false];simp only[je,h8']
theorem jGM(l:Xa)(n:Xb):(vnA l n).length<=l.length+1:=by
 unfold vnA;split
 .omega
 .simp
theorem jES{n:Nat}(h:n<=4194304):jM n 16=true:=by
 unfold jM;exact decide_eq_true ⟨by omega,by omega⟩
theorem je0:∀(t:T)(l:Xa),(ZA l t).length<=l.length+nodes t:=by
 refine T.ind λt ih l=>?_;have hn:=jO t;rw[joA];split
 .have:=jGM l t.name;omega
 .have key:∀us:Xg,(∀u∈us,u∈t.args)-> ∀l:Xa,(jbV l us).length<=l.length+ju us:=by
   intro us;induction us with
   |nil=>intro _ l;simp[jbV,ju]
   |cons u us ih2=>
    intro hu l;have h1:=ih u (hu u (by simp)) l;have h2:=ih2 (λv hv=>hu v (by simp[hv])) (ZA l u);rw[jbV,ju];omega
  have:=key t.args (λ_ h=>h) l;omega
theorem jtj:∀t:T,Tz t-> ∀l:Xa,l.length+nodes t<=4000000->jmM (tm t) (l.map cs)=some (.top,[.sl 1 ((ZA l t).map cs)]):=by
 refine T.ind λt ih ht l hl=>?_;have hz:=ht;unfold Tz at hz;rw[kH]at hz;have hn:=jO t;have e0:=zL t.name (((kE t).1 ht.wf).1);have e1:=jol l t.name (by show l.length<=9223372036854775807;omega);have key:=upto (P:=λi=>∀l:Xa,l.length+ju (t.args.drop i)<=4000000->jd7 (vi (i:Nat)) (sv t.name) (jG t.args) (l.map cs)=some (.top,[.sl 1 ((jbV l (t.args.drop i)).map cs)])) (n:=t.args.length) ?_ ?_ 0 (Nat.zero_le _);rotate_left
 .intro l _;rw[ji8,List.drop_length];simp only[je];rfl
 .intro i hi ihi l hl;have hlt:(i:Int)<((t.args.length:Nat):Int):=by omega
  have h5:=jo hi (by show t.args.length<=9223372036854775807;omega)
  rw[ji hi,ju]at hl;have q:=ih t.args[i] (jr hi) (ht.args _ (jr hi)) l (by omega);have hln:=je0 t.args[i] l;have q2:=ihi (ZA l t.args[i]) (by omega);rw[ji8,ji hi,jbV];generalize ZA l t.args[i]=l' at *;have hr:hR 1 (A.top,[.sl 1 (l'.map cs)]) 0=some (l'.map cs):=rfl;simp only[je,hlt,ja hi,jd,q,hr,h5,q2]
 have e2:jd6 (vi 0) (sv t.name) (jG t.args) (l.map cs)=some (.top,[.sl 1 ((jbV l t.args).map cs)]):=by
  have key:=key l (by rw[List.drop_zero];omega)
  rw[List.drop_zero]at key;have:jd6 (vi 0) (sv t.name) (jG t.args) (l.map cs)=jd7 (vi 0) (sv t.name) (jG t.args) (l.map cs):=by rw[jzk,ji8]
  rw[this];exact key
 rw[jFr,joA];cases hv:js t.name<;>rw[hv]at e0
 .rw [jh Bool.false_ne_true];simp only[je,e0,e2]
 .rw [jg rfl];unfold vnA;cases hc:l.contains t.name<;>rw[hc]at e1
  .have f:jM (l.length+1) 16=true:=jES (by omega);rw[jh Bool.false_ne_true,List.map_append];simp only[je,e0,e1,f];rfl
  .rw [jg rfl];simp only[je,e0,e1]
theorem jjg(c:kj)(hl:c.length<=1000)(hz:∀l∈c,Tz l.2)(hs:∀l∈c,nodes l.2<=1000):G 114 [cm c]=some (.sl 1 ((kV c).map cs),[]):=by
 have key:=upto (P:=λi=>∀l:Xa,l.length<=1000*i->jh1 (vi (i:Nat)) (.sl 3 (c.map jN)) (l.map cs)=some (.sl 1 (((c.drop i).foldl (λl x=>ZA l x.2) l).map cs),[])) (n:=c.length) ?_ ?_ 0 (Nat.zero_le _)
 .have key:=key [] (by simp);rw[List.drop_zero]at key;have key:jh1 (vi 0) (.sl 3 (c.map jN)) []=some (.sl 1 ((kV c).map cs),[]):=key;rw[jJB];simp only[je,key]
 .intro l _;rw[jy7,List.drop_length];simp only[je];rfl
 .intro i hi ih l hll;have hlt:(i:Int)<((c.length:Nat):Int):=by omega
  have h5:=jo hi (by show c.length<=9223372036854775807;omega)
  have ix:=ja (k:=3) (f:=jN) hi;have ad:qe (.elt (jN c[i]) 0) 1=some (.elt (jN c[i]) 1):=rfl;have ld:kC 2 (.elt (jN c[i]) 1)=some (tm c[i].2):=rfl;have hn:=hs _ (jr hi);have q:=jtj c[i].2 (hz _ (jr hi)) l (by omega);have hol:=je0 c[i].2 l;have q2:=ih (ZA l c[i].2) (by omega);rw[jy7,ji hi,List.foldl_cons];generalize ZA l c[i].2=l' at *;have hr:hR 1 (A.top,[.sl 1 (l'.map cs)]) 0=some (l'.map cs):=rfl;simp only[je,hlt,ix,ad,ld,q,hr,h5,q2]
theorem jpy:∀t:T,Rx' t->Tz t-> ∀l:Xa,l.length+nodes t<=4000000->jbb (sv t.name) (jG t.args) (l.map cs)=some (.top,[.sl 1 ((ZA l t).map cs)]):=by
 refine T.ind λt ih hk ht l hl=>?_;have hz:=ht;unfold Tz at hz;rw[kH]at hz;have hn:=jO t;have e0:=qS t (hk.imp id λh=>h.1);have e1:=K1 l t.name (by show l.length<=9223372036854775807;omega);have key:=upto (P:=λi=>∀l:Xa,l.length+ju (t.args.drop i)<=4000000->jbk (jG t.args) (vi (t.args.length:Nat)) (vi (i:Nat)) (l.map cs)=some (.top,[.sl 1 ((jbV l (t.args.drop i)).map cs)])) (n:=t.args.length) ?_ ?_ 0 (Nat.zero_le _);rotate_left
 .intro l _;rw[jbL,List.drop_length];simp only[je];rfl
 .intro i hi ihi l hl;have hlt:(i:Int)<((t.args.length:Nat):Int):=by omega
  have h5:=jo hi (by show t.args.length<=9223372036854775807;omega)
  rw[ji hi,ju]at hl;have q:=ih t.args[i] (jr hi) (hk.args _ (jr hi)) (ht.args _ (jr hi)) l (by omega);have hln:=je0 t.args[i] l;have q2:=ihi (ZA l t.args[i]) (by omega);rw[jbL,ji hi,jbV];generalize ZA l t.args[i]=l' at *;have hr:hR 1 (A.top,[.sl 1 (l'.map cs)]) 0=some (l'.map cs):=rfl;simp only[je,hlt,ja hi,jd,q,hr,h5,q2]
 have e2:jbj (jG t.args) (vi (t.args.length:Nat)) (vi 0) (l.map cs)=some (.top,[.sl 1 ((jbV l t.args).map cs)]):=by
  have key:=key l (by rw[List.drop_zero];omega)
  rw[List.drop_zero]at key;have:∀n:A,jbj (jG t.args) n (vi 0) (l.map cs)=jbk (jG t.args) n (vi 0) (l.map cs):=λn=>by rw[jqm,jbL]
  rw[this];exact key
 rw[jya,joA];cases hv:js t.name<;>rw[hv]at e0
 .rw [jh Bool.false_ne_true];by_cases hl0:((t.args.length:Nat):Int)=0
  .simp only[je,hl0,e0];rw[hl0]at e2;exact e2
  .simp only[je,hl0,e2]
 .have ha:t.args=[]:=by
   rcases hk with h|h
   .exact qP h hv
   .rw [h.1]at hv;exact absurd hv (by decide)
  have hl0:((t.args.length:Nat):Int)=0:=by rw[ha];rfl
  rw[jg rfl];unfold vnA;cases hc:l.contains t.name<;>rw[hc]at e1
  .have f:jM (l.length+1) 16=true:=jES (by omega);rw[jh Bool.false_ne_true,List.map_append];simp only[je,hl0,e0,e1,f];rfl
  .rw [jg rfl];simp only[je,hl0,e0,e1]
theorem jjv(c:kj)(hl:c.length<=1000)(hk:∀l∈c,Rx' l.2)(hz:∀l∈c,Tz l.2)(hs:∀l∈c,nodes l.2<=1000):G 155 [cm c]=some (.sl 1 ((kV c).map cs),[]):=by
 have key:=upto (P:=λi=>∀l:Xa,l.length<=1000*i->jh6 (.sl 3 (c.map jN)) (vi (c.length:Nat)) (vi (i:Nat)) (l.map cs)=some (.sl 1 (((c.drop i).foldl (λl x=>ZA l x.2) l).map cs),[])) (n:=c.length) ?_ ?_ 0 (Nat.zero_le _)
 .have key:=key [] (by simp);rw[List.drop_zero]at key;have key:jh6 (.sl 3 (c.map jN)) (vi (c.length:Nat)) (vi 0) []=some (.sl 1 ((kV c).map cs),[]):=key;rw[jJZ];simp only[je,key]
 .intro l _;rw[jzm,List.drop_length];simp only[je];rfl
 .intro i hi ih l hll;have hlt:(i:Int)<((c.length:Nat):Int):=by omega
  have h5:=jo hi (by show c.length<=9223372036854775807;omega)
  have ix:=ja (k:=3) (f:=jN) hi;have hn:=hs _ (jr hi);have q:=jpy c[i].2 (hk _ (jr hi)) (hz _ (jr hi)) l (by omega);have hol:=je0 c[i].2 l;have q2:=ih (ZA l c[i].2) (by omega);rw[jzm,ji hi,List.foldl_cons];generalize ZA l c[i].2=l' at *;have hr:hR 1 (A.top,[.sl 1 (l'.map cs)]) 0=some (l'.map cs):=rfl;simp only[je,hlt,ix,kR,q,hr,h5,q2]
abbrev Jy:=List (T×T)
def jpp:jw->Bool
 | []=>true
 | [_]=>true
 |p::q::s=>yK p.1 q.1 && jpp (q::s)
noncomputable def jL(s:jw):Bool:=decide (s.length<=12) && (jpp s && s.all λq=>js q.1 && (kQ q.2 && !dq q.2.name q.1))
def zz(s u:jw):jw:=JK (s.map (λq=>(q.1,sub u q.2))++u.filter λq=>(look s q.1).isNone)
def jE(x y:T):Xb×T:=if js x.name=false\/(js y.name=true/\yK x.name y.name=true)then(y.name,x)else(x.name,y)
noncomputable def yM(s:jw)(l r:T)(rest:Jy):Option (jw×Jy):=
 if jF (sub s l)=false\/jF (sub s r)=false then none
 else if dq (sub s l) (sub s r)then some (s,rest)
 else if js (sub s l).name=true\/js (sub s r).name=true then
  (if(jE (sub s l) (sub s r)).1∈kL (jE (sub s l) (sub s r)).2\/jL [jE (sub s l) (sub s r)]=false\/jL (zz s [jE (sub s l) (sub s r)])=false then none else some (zz s [jE (sub s l) (sub s r)],rest))
 else if(sub s l).name=(sub s r).name/\(sub s l).args.length=(sub s r).args.length then some (s,(sub s l).args.zip (sub s r).args++rest)else none
noncomputable def zh:Nat->jw->Jy->Option (Option jw)
 |_,s,[]=>some (some s)
 |0,_,_::_=>none
 |k+1,s,p::rest=>(match yM s p.1 p.2 rest with|none=>some none|some q=>zh k q.1 q.2)
def Exx(t:T):Prop:=(zy t=true\/(t.name=[61]/\t.args.length=2/\ ∀u∈t.args,zy u=true))/\nodes t<=31
def IdS(s:jw):Prop:=∀q∈s,∀x∈kL q.2,look s x=none
def K6(s:jw)(es:Jy):Prop:=jL s=true/\IdS s/\ ∀p∈es,Exx p.1/\Exx p.2
theorem j5{s:jw}(h:jL s=true):s.length<=12/\jpp s=true/\ ∀q∈s,js q.1=true/\kQ q.2=true/\q.2.name≠q.1:=by
 unfold jL at h;rw[jI,ky,jI,yx]at h;refine⟨h.1,h.2.1,λq hq=>?_⟩;have:=h.2.2 q hq;rw[jI,jI,QY]at this;exact⟨this.1,this.2.1,λe=>by rw[e,jct]at this;exact absurd this.2.2 (by decide)⟩
theorem jcQ{t:T}(h:kQ t=true):zy t=true:=by
 unfold kQ at h;rw[jI]at h;exact h.2
theorem vsv{t:T}(h:js t.name=true):kL t=[t.name]:=by rw[Zm,h,jg rfl]
theorem vsf{t:T}(h:js t.name=false):kL t=z7 t.args:=by rw[Zm,h,jh Bool.false_ne_true]
theorem qt{x:Xb} :∀{ts:Xg},x∈z7 ts↔ ∃t∈ts,x∈kL t
 | []=>by simp[z7]
 |t::ts=>by rw[z7,kW,qt];simp
theorem YQ{s:jw}(hs:IdS s):∀(w:T){x:Xb},x∈kL (sub s w)->look s x=none:=by
 refine T.ind (p:=λw=>∀{x:Xb},x∈kL (sub s w)->look s x=none) λw ih=>?_;intro x hx;cases hv:js w.name with
 |true=>
  rw[Jc hv,qY]at hx;cases hl:look s w.name with
  |some r=>rw[hl]at hx;exact hs _ (JA hl) x hx
  |none=>
   rw[hl]at hx;have hx:x∈kL (.mk w.name []):=hx;rw[vsv (t:= .mk w.name []) hv,zx]at hx;rw[hx];exact hl
 |false=>
  rw[qh hv,vsf (t:= .mk w.name (w.args.map (sub s))) hv,qt]at hx;obtain⟨t,ht,hx⟩:=hx;obtain⟨a,ha,rfl⟩:=yn.1 ht;exact ih a ha hx
theorem jmB{n:Xb}{t:T} :∀(w:T){x:Xb},x∈kL (sub [(n,t)] w)->(x∈kL w/\x≠n)\/x∈kL t:=by
 refine T.ind (p:=λw=>∀{x:Xb},x∈kL (sub [(n,t)] w)->(x∈kL w/\x≠n)\/x∈kL t) λw ih=>?_;intro x hx;cases hv:js w.name with
 |true=>
  rw[Jc hv,qY]at hx;by_cases hn:n=w.name
  .have:look [(n,t)] w.name=some t:=by rw[look,jg hn]
   rw[this]at hx;exact Or.inr hx
  .have:look [(n,t)] w.name=none:=by rw[look,jh hn,look]
   rw[this]at hx;have hx:x∈kL (.mk w.name []):=hx;rw[vsv (t:= .mk w.name []) hv,zx]at hx;left;rw[vsv hv,hx];exact⟨by simp[T.name],λe=>hn e.symm⟩
 |false=>
  rw[qh hv,vsf (t:= .mk w.name (w.args.map (sub [(n,t)]))) hv,qt]at hx;obtain⟨u,hu,hx⟩:=hx;obtain⟨a,ha,rfl⟩:=yn.1 hu;rcases ih a ha hx with⟨h1,h2⟩|h
  .left;rw[vsf hv,qt];exact⟨⟨a,ha,h1⟩,h2⟩
  .exact Or.inr h
theorem jgm{s:jw} :∀(w:T),zy w=true->(∀x∈kL w,look s x=none)->sub s w=w:=by
 refine T.ind λw ih=>?_;intro hk h;cases hv:js w.name with
 |true=>
  rw[Jc hv,qY,h w.name (by rw[vsv hv];simp)]
  have ha:=qP hk hv;show T.mk w.name []=w;rw[<-ha,T.eta]
 |false=>
  rw[qh hv];have:w.args.map (sub s)=w.args:=by
   conv=>rhs;rw[<-List.map_id w.args]
   refine List.map_congr_left λa ha=>ih a ha (kO hk a ha) λx hx=>h x ?_;rw[vsf hv,qt];exact⟨a,ha,hx⟩
  rw[this,T.eta]
theorem jjS{s:jw}{n:Xb}{t:T}{q:Xb×T} :q∈YC s n t↔q∈s\/q=(n,t):=by
 unfold YC;have e:=List.takeWhile_append_dropWhile (p:=λp:Xb×T=>yK p.1 n) (l:=s);constructor
 .intro h;rcases kW.1 h with h|h
  .left;rw[<-e];exact ZO _ h
  .rcases jK.1 h with h|h
   .exact Or.inr h
   .left;rw[<-e];exact YS _ h
 .rintro (h|h)
  .rw [<-e]at h;rcases kW.1 h with h|h
   .exact ZO _ h
   .exact YS _ (List.mem_cons_of_mem _ h)
  .rw [h];exact YS _ (List.mem_cons_self ..)
theorem jA1(s:jw)(n:Xb)(t:T):(YC s n t).length=s.length+1:=by
 unfold YC;have e:=congrArg List.length (List.takeWhile_append_dropWhile (p:=λp:Xb×T=>yK p.1 n) (l:=s));rw[zv]at e;rw[zv,j8];omega
theorem Y9:∀(m s:jw),(∀q∈m,q.2.name≠q.1)->(m.foldl (λs p=>JW s p.1 p.2) s).length=s.length+m.length/\ ∀q,q∈m.foldl (λs p=>JW s p.1 p.2) s↔q∈s\/q∈m
 | [],s,_=>⟨rfl,λq=>by simp⟩
 |p::m,s,h=>by
  rw[List.foldl_cons];have e:JW s p.1 p.2=YC s p.1 p.2:=jh (h p (by simp));obtain⟨h1,h2⟩:=Y9 m (JW s p.1 p.2) λq hq=>h q (by simp[hq]);refine⟨by rw[h1,e,jA1,j8];omega,λq=>?_⟩;rw[h2,e,jjS,jK,or_assoc]
theorem jiG{s:jw}(hs:jL s=true)(hi:IdS s){n:Xb}{t:T}(hn:js n=true)(hd:look s n=none)(ht:∀x∈kL t,look s x=none)(ho:n ∉ kL t)(htn:t.name≠n) :
  (zz s [(n,t)]).length=s.length+1/\IdS (zz s [(n,t)])/\(∀q,q∈zz s [(n,t)]↔(∃p∈s,q=(p.1,sub [(n,t)] p.2))\/q=(n,t))/\ ∀q∈s.map (λq=>(q.1,sub [(n,t)] q.2))++[(n,t)],q.2.name≠q.1:=by
 obtain⟨_,_,hv⟩:=j5 hs;have hf:([(n,t)]:jw).filter (λq=>(look s q.1).isNone)=[(n,t)]:=by simp[hd]
 have hname:∀q∈s.map (λq=>(q.1,sub [(n,t)] q.2))++[(n,t)],q.2.name≠q.1:=by
  intro q hq;rcases kW.1 hq with hq|hq
  .obtain ⟨p,hp,rfl⟩:=yn.1 hq;intro e;have e:(sub [(n,t)] p.2).name=p.1:=e;have hx:p.1∈kL (sub [(n,t)] p.2):=by rw[vsv (by rw[e];exact(hv p hp).1),e];simp
   have hk:look s p.1≠none:=λh=>JB.1 h p hp rfl;rcases jmB _ hx with⟨h1,_⟩|h1
   .exact hk (hi p hp _ h1)
   .exact hk (ht _ h1)
  .simp only[zx]at hq;rw[hq];exact htn
 obtain⟨f1,f2⟩:=Y9 _ [] hname;have hm:∀q,q∈zz s [(n,t)]↔(∃p∈s,q=(p.1,sub [(n,t)] p.2))\/q=(n,t):=by
  intro q;unfold zz JK;rw[hf,f2];simp only[List.not_mem_nil,false_or,kW,yn,zx];constructor
  .rintro (⟨p,h1,h2⟩|h)
   .exact Or.inl ⟨p,h1,h2.symm⟩
   .exact Or.inr h
  .rintro (⟨p,h1,h2⟩|h)
   .exact Or.inl ⟨p,h1,h2.symm⟩
   .exact Or.inr h
 refine⟨?_,?_,hm,hname⟩
 .unfold zz JK;rw[hf,f1,zv,List.length_map];simp
 .intro q hq x hx;have hxn:x≠n/\look s x=none:=by
   rcases(hm q).1 hq with⟨p,hp,rfl⟩|rfl
   .rcases jmB _ hx with⟨h1,h2⟩|h1
    .exact ⟨h2,hi p hp _ h1⟩
    .exact ⟨λe=>ho (e ▸ h1),ht _ h1⟩
   .exact ⟨λe=>ho (e ▸ hx),ht _ hx⟩
  refine JB.2 λp hp e=>?_;rcases(hm p).1 hp with⟨p',hp',rfl⟩|rfl
  .exact JB.1 hxn.2 p' hp' e
  .exact hxn.1 e.symm
def mz(s:jw):Jy->Nat
 | []=>0
 |p::r=>nodes (sub s p.1)+nodes (sub s p.2)+mz s r
theorem jlK(s:jw):∀a b:Jy,mz s (a++b)=mz s a+mz s b
 | [],b=>by simp[mz]
 |p::a,b=>by rw[Zp,mz,mz,jlK s a b];omega
theorem jAy{s:jw} :∀(a b:Xg),(∀u∈a,sub s u=u)->(∀u∈b,sub s u=u)->mz s (a.zip b)<=ju a+ju b
 | [],_,_,_=>by simp[mz]
 |_::_,[],_,_=>by simp[mz]
 |x::a,y::b,h1,h2=>by
  have:=jAy a b (λu hu=>h1 u (by simp[hu])) (λu hu=>h2 u (by simp[hu]));rw[List.zip_cons_cons,mz,h1 x (by simp),h2 y (by simp)];simp only[ju];omega
theorem Exx.sub{s:jw}(hs:jL s=true){t:T}(h:Exx t):zy (sub s t)=true\/((sub s t).name=[61]/\(sub s t).args.length=2/\ ∀u∈(sub s t).args,zy u=true):=by
 obtain⟨_,_,hv⟩:=j5 hs;have ho:∀q∈s,zy q.2=true:=λq hq=>(jcQ (hv q hq).2.1);rcases h.1 with h|⟨h1,h2,h3⟩
 .exact Or.inl (YM ho t h)
 .have hvn:js t.name=false:=by rw[h1];decide
  right;rw[qh hvn];refine⟨h1,by show(t.args.map _).length=2;rw[List.length_map,h2],λu hu=>?_⟩;obtain⟨a,ha,rfl⟩:=yn.1 hu;exact YM ho a (h3 a ha)
theorem zM{t:T}(h:jF t=true):nodes t<=30:=by
 simp only[jF,jI,ky]at h;exact h.1
theorem juM{t:T}(h:zy t=true\/(t.name=[61]/\t.args.length=2/\ ∀u∈t.args,zy u=true)):∀u∈t.args,zy u=true:=by
 rcases h with h|h
 .exact kO h
 .exact h.2.2
theorem ym{s:jw}{l r:T}{rest:Jy}(h:K6 s ((l,r)::rest)){s':jw}{es:Jy}(hst:yM s l r rest=some (s',es)):K6 s' es/\((s'=s/\mz s' es<mz s ((l,r)::rest))\/s'.length=s.length+1):=by
 obtain⟨hv,hi,he⟩:=h;obtain⟨el,er⟩:=he (l,r) (by simp);have hrest:∀p∈rest,Exx p.1/\Exx p.2:=λp hp=>he p (by simp[hp]);have xl:=el.sub hv;have xr:=er.sub hv;have nl:=qz (sub s l);have vl:=λ{x} (hx:x∈kL (sub s l))=>YQ hi l hx;have vr:=λ{x} (hx:x∈kL (sub s r))=>YQ hi r hx;have hmz:mz s ((l,r)::rest)=nodes (sub s l)+nodes (sub s r)+mz s rest:=rfl;unfold yM at hst;split at hst
 .cases hst
 rename_i hsm;have hs1:jF (sub s l)=true:=by
  cases h:jF (sub s l)with
  |true=>rfl
  |false=>exact absurd (Or.inl h) hsm
 have hs2:jF (sub s r)=true:=by
  cases h:jF (sub s r)with
  |true=>rfl
  |false=>exact absurd (Or.inr h) hsm
 split at hst
 .cases hst;exact⟨⟨hv,hi,hrest⟩,Or.inl ⟨rfl,by rw[hmz];omega⟩⟩
 split at hst
 .rename_i hvar;split at hst
  .cases hst
  rename_i hno;cases hst;have h1:(jE (sub s l) (sub s r)).1 ∉ kL (jE (sub s l) (sub s r)).2:=λh=>hno (Or.inl h);have h2:jL (zz s [jE (sub s l) (sub s r)])=true:=by
   cases h:jL (zz s [jE (sub s l) (sub s r)])with
   |true=>rfl
   |false=>exact absurd (Or.inr (Or.inr h)) hno
  have h3:jL [jE (sub s l) (sub s r)]=true:=by
   cases h:jL [jE (sub s l) (sub s r)]with
   |true=>rfl
   |false=>exact absurd (Or.inr (Or.inl h)) hno
  have hb:look s (jE (sub s l) (sub s r)).1=none/\ ∀x∈kL (jE (sub s l) (sub s r)).2,look s x=none:=by
   unfold jE;split
   .rename_i hc;have hy:js (sub s r).name=true:=by
     rcases hc with hc|hc
     .rcases hvar with h|h
      .rw [hc]at h;cases h
      .exact h
     .exact hc.1
    exact⟨vr (by rw[vsv hy];simp),λx hx=>vl hx⟩
   .rename_i hc;have hx:js (sub s l).name=true:=by
     cases h:js (sub s l).name with
     |true=>rfl
     |false=>exact absurd (Or.inl h) hc
    exact⟨vl (by rw[vsv hx];simp),λx hx=>vr hx⟩
  obtain⟨_,_,h4⟩:=j5 h3;obtain⟨k1,_,k3⟩:=h4 _ (List.mem_singleton_self _);generalize jE (sub s l) (sub s r)=p at *;obtain⟨n,t⟩:=p;obtain⟨c1,c2,_,_⟩:=jiG hv hi k1 hb.1 hb.2 h1 k3;exact⟨⟨h2,c2,hrest⟩,Or.inr c1⟩
 .rename_i hnv;split at hst
  .rename_i hnm;cases hst;have v1:js (sub s l).name=false:=by
    cases h:js (sub s l).name with
    |false=>rfl
    |true=>exact absurd (Or.inl h) hnv
   have v2:js (sub s r).name=false:=by
    cases h:js (sub s r).name with
    |false=>rfl
    |true=>exact absurd (Or.inr h) hnv
   have a1:∀u∈(sub s l).args,zy u=true/\nodes u<=31/\sub s u=u:=λu hu=>by
    have hk:=juM xl u hu;have:=qT hu;have:=zM hs1;exact⟨hk,by omega,jgm u hk λx hx=>vl (by rw[vsf v1,qt];exact⟨u,hu,hx⟩)⟩
   have a2:∀u∈(sub s r).args,zy u=true/\nodes u<=31/\sub s u=u:=λu hu=>by
    have hk:=juM xr u hu;have:=qT hu;have:=zM hs2;exact⟨hk,by omega,jgm u hk λx hx=>vr (by rw[vsf v2,qt];exact⟨u,hu,hx⟩)⟩
   refine⟨⟨hv,hi,λp hp=>?_⟩,Or.inl ⟨rfl,?_⟩⟩
   .rcases kW.1 hp with hp|hp
    .have hm:=List.of_mem_zip (a:=p.1) (b:=p.2) hp;exact⟨⟨Or.inl (a1 _ hm.1).1,(a1 _ hm.1).2.1⟩,⟨Or.inl (a2 _ hm.2).1,(a2 _ hm.2).2.1⟩⟩
    .exact hrest p hp
   .have:=jAy (s:=s) (sub s l).args (sub s r).args (λu hu=>(a1 u hu).2.2) (λu hu=>(a2 u hu).2.2);have e1:=jO (sub s l);have e2:=jO (sub s r);rw[jlK,hmz];omega
  .cases hst
theorem jt9:∀(m1 m2:Nat)(s:jw)(es:Jy),K6 s es->13-s.length<=m1->mz s es<=m2-> ∃k res,zh k s es=some res:=by
 intro m1;induction m1 with
 |zero=>
  intro m2 s es h h1;have:=(j5 h.1).1;omega
 |succ m1 ih1=>
  intro m2;induction m2 with
  |zero=>
   intro s es h _ h2;cases es with
   |nil=>exact⟨0,_,rfl⟩
   |cons p es=>
    have:=qz (sub s p.1);simp only[mz]at h2;omega
  |succ m2 ih2=>
   intro s es h h1 h2;cases es with
   |nil=>exact⟨0,_,rfl⟩
   |cons p es=>
    obtain⟨l,r⟩:=p;cases hst:yM s l r es with
    |none=>exact⟨1,none,by rw[zh,hst]⟩
    |some q=>
     obtain⟨s',es'⟩:=q;obtain⟨hinv,hor⟩:=ym h hst;have hl:=(j5 h.1).1;rcases hor with⟨e,hlt⟩|e
     .obtain ⟨k,res,hk⟩:=ih2 s' es' hinv (by rw[e];exact h1) (by omega)
      exact⟨k+1,res,by rw[zh,hst];exact hk⟩
     .obtain ⟨k,res,hk⟩:=ih1 (mz s' es') s' es' hinv (by omega) (j4 _);exact⟨k+1,res,by rw[zh,hst];exact hk⟩
theorem jko:∀(k:Nat)(s:jw)(es:Jy){u:jw},K6 s es->zh k s es=some (some u)->jL u=true/\IdS u:=by
 intro k;induction k with
 |zero=>
  intro s es u h hu;cases es with
  |nil=>simp only[zh,zI]at hu;rw[<-hu];exact⟨h.1,h.2.1⟩
  |cons p es=>simp[zh]at hu
 |succ k ih=>
  intro s es u h hu;cases es with
  |nil=>simp only[zh,zI]at hu;rw[<-hu];exact⟨h.1,h.2.1⟩
  |cons p es=>
   obtain⟨l,r⟩:=p;rw[zh]at hu;cases hst:yM s l r es with
   |none=>rw[hst]at hu;simp at hu
   |some q=>
    rw[hst]at hu;exact ih q.1 q.2 (ym h hst).1 hu
def Bx(t:T):Prop:=(t.name=[61]/\t.args.length=2/\ ∀u∈t.args,zy u=true)\/(qo t.name=true/\zy t=true)
theorem Bx.rx{t:T}(h:Bx t):Rx' t:=h.elim (λh=>Or.inr ⟨h.1,h.2.2⟩) λh=>Or.inl h.2
theorem Bx.ax{t:T}(h:Bx t):zy t=true\/(t.name=[61]/\t.args.length=2/\ ∀u∈t.args,zy u=true):=h.elim Or.inr λh=>Or.inl h.2
theorem Bx.args{t:T}(h:Bx t):∀u∈t.args,zy u=true:=h.elim (λh=>h.2.2) λh=>kO h.2
theorem jt3{n:Xb}(h:qo n=true):js n=false:=by
 cases hv:js n with
 |false=>rfl
 |true=>rw[jki hv]at h;cases h
theorem Bx.nv{t:T}(h:Bx t):js t.name=false:=h.elim (λh=>by rw[h.1];decide) λh=>jt3 h.1
theorem jHe{t:T}(h:t.args.length=2):t.args=[Yh t,Qp t]:=by
 obtain⟨n,us⟩:=t
 match us,h with
 | [a,b],_=>rfl
theorem jer{t:T} :JH t=true↔Bx t/\jF t=true:=by
 unfold JH Bx;by_cases he:t.name=[61]
 .rw [jg he];unfold jbB;rw[jI,jI,jI,ky];constructor
  .rintro ⟨h1,h2,h3,h4⟩;refine⟨Or.inl ⟨he,h1,λu hu=>?_⟩,h2⟩;rw[jHe h1]at hu;simp only[jK,List.not_mem_nil,or_false]at hu;rcases hu with rfl|rfl
   .exact h3
   .exact h4
  .rintro ⟨h|h,h2⟩
   .obtain ⟨_,_,ma,mb⟩:=KM h.2.1;exact⟨h.2.1,h2,h.2.2 _ ma,h.2.2 _ mb⟩
   .rw [he]at h;exact absurd h.1 (by decide)
 .rw [jh he];unfold kQ;rw[jI,jI];constructor
  .rintro ⟨h1,h2,h3⟩;exact⟨Or.inr ⟨h1,h3⟩,h2⟩
  .rintro ⟨h|h,h2⟩
   .exact absurd h.1 he
   .exact ⟨h.1,h2,h.2⟩
theorem Bx.atom{t:T}(h:Bx t):JH t=jF t:=by
 cases hs:jF t with
 |true=>exact jer.2 ⟨h,hs⟩
 |false=>
  cases ha:JH t with
  |false=>rfl
  |true=>rw[(jer.1 ha).2]at hs;cases hs
theorem Bx.tsz{t:T}(h:Bx t):tsz t<=10*nodes t:=by
 rcases h with h|h
 .rw [kH,jO,h.1,h.2.1];have:=jvn h.2.2;simp only[j8,zO];omega
 .exact jf8 t h.2
theorem Bx.tz{t:T}(h:Bx t)(hn:nodes t<=100000):Tz t:=by have:=h.tsz;unfold Tz;omega
theorem Bx.exx{t:T}(h:Bx t)(hn:nodes t<=31):Exx t:=⟨h.ax,hn⟩
theorem Bx.sub{s:jw}(hs:jL s=true){t:T}(h:Bx t):Bx (sub s t):=by
 obtain⟨_,_,hv⟩:=j5 hs;have ho:∀q∈s,zy q.2=true:=λq hq=>jcQ (hv q hq).2.1;have hn:=h.nv;rcases h with h|h
 .left;rw[jfj hn,jcc hn,List.length_map];refine⟨h.1,h.2.1,λu hu=>?_⟩;obtain⟨a,ha,rfl⟩:=yn.1 hu;exact YM ho a (h.2.2 a ha)
 .right;rw[jfj hn];exact⟨h.1,YM ho t h.2⟩
theorem Z7{s:jw}(hs:jL s=true):∀q∈s,nodes q.2<=30:=λq hq=>by
 have:=((j5 hs).2.2 q hq).2.1;unfold kQ at this;rw[jI]at this;exact zM this.1
theorem JG{s:jw}(hs:jL s=true):∀q∈s,zy q.2=true:=λq hq=>jcQ ((j5 hs).2.2 q hq).2.1
theorem jgr:jL []=true:=by unfold jL;simp[jpp]
mutual
theorem jl1(f:Xb->Xb):∀t:T,nodes (kZ f t)<=nodes t
 |.mk n us=>by
  rw[kZ];split
  .have:=qz (.mk n us);show 1+0<=_;omega
  .have:=jj1 f us;simp only[nodes];omega
theorem jj1(f:Xb->Xb):∀ts:Xg,ju (ZC f ts)<=ju ts
 | []=>j4 _
 |t::ts=>by have:=jl1 f t;have:=jj1 f ts;simp only[ZC,ju];omega
end
mutual
theorem jDH(f:Xb->Xb):∀t:T,YU (kZ f t)<=YU t
 |.mk n us=>by
  rw[kZ];split
  .rw [Zw (.mk n us)];show 1+0<=_;omega
  .have:=jro f us;simp only[YU];omega
theorem jro(f:Xb->Xb):∀ts:Xg,Qr (ZC f ts)<=Qr ts
 | []=>j4 _
 |t::ts=>by have:=jDH f t;have:=jro f ts;simp only[ZC,Qr];omega
end
theorem jb3{f:Xb->Xb}{t:T}(h:js t.name=false):(kZ f t).name=t.name:=by rw[Qc,h,jh Bool.false_ne_true];rfl
theorem QQ{f:Xb->Xb}{t:T}(h:js t.name=false):(kZ f t).args=t.args.map (kZ f):=by rw[Qc,h,jh Bool.false_ne_true];rfl
theorem jA7{f:Xb->Xb}(hf:∀n,js n=true->js (f n)=true):∀t:T,zy t=true->zy (kZ f t)=true:=by
 refine T.ind λt ih h=>?_;cases hv:js t.name with
 |true=>rw[Qc,hv,jg rfl];exact jAD _ (hf _ hv)
 |false=>
  have hk:=h;rw[yA,hv,jh Bool.false_ne_true,jI,jI,ky]at h;rw[yA,jb3 hv,QQ hv,hv,jh Bool.false_ne_true,jI,jI,ky,List.length_map,JS,yx];refine⟨h.1,h.2.1,λu hu=>?_⟩;obtain⟨a,ha,rfl⟩:=yn.1 hu;exact ih a ha (kO hk a ha)
theorem Bx.ren{f:Xb->Xb}(hf:∀n,js n=true->js (f n)=true){t:T}(h:Bx t):Bx (kZ f t):=by
 have hn:=h.nv;rcases h with h|h
 .left;rw[jb3 hn,QQ hn,List.length_map];refine⟨h.1,h.2.1,λu hu=>?_⟩;obtain⟨a,ha,rfl⟩:=yn.1 hu;exact jA7 hf a (h.2.2 a ha)
 .right;rw[jb3 hn];exact⟨h.1,jA7 hf t h.2⟩
theorem jf0:∀d:Nat,d<10->JM (UInt8.ofNat (48+d))=true:=by decide
theorem Jn{u:Nat}(h:u<10):Lib.decDigits u=[UInt8.ofNat (48+u)]:=Lib.decDigits_one h
theorem KN{u:Nat}(h:¬u<10):Lib.decDigits u=Lib.decDigits (u / 10)++[UInt8.ofNat (48+u % 10)]:=by rw[Lib.decDigits,dif_neg h]
theorem Kt:∀(k u:Nat),u<10 ^ (k+1)->(Lib.decDigits u).all JM=true/\(Lib.decDigits u).length<=k+1
 |0,u,h=>by rw[Jn (by omega)];exact⟨by rw[zR,jf0 u (by omega),List.all_nil];rfl,by simp⟩
 |k+1,u,h=>by
  by_cases hu:u<10
  .rw [Jn hu];exact⟨by rw[zR,jf0 u hu,List.all_nil];rfl,by simp⟩
  .obtain ⟨h1,h2⟩:=Kt k (u / 10) (by rw[Nat.pow_succ]at h;omega)
   rw[KN hu,List.all_append,h1,zv];exact⟨by rw[zR,jf0 (u % 10) (by omega),List.all_nil];rfl,by simp only[j8,zO];omega⟩
theorem jyu:∀a:Nat,a<10-> ∀b:Nat,b<10->UInt8.ofNat (48+a)=UInt8.ofNat (48+b)->a=b:=by decide
theorem juK(a b:Nat)(h1:a<10)(h2:b<10)(h:UInt8.ofNat (48+a)=UInt8.ofNat (48+b)):a=b:=jyu a h1 b h2 h
theorem jsR:∀(u v:Nat),Lib.decDigits u=Lib.decDigits v->u=v:=by
 intro u;induction u using Nat.strongRecOn with
 |ind u ih=>
  intro v h;by_cases hu:u<10<;>by_cases hv:v<10
  .rw [Jn hu,Jn hv]at h;exact juK u v hu hv (by simpa using h)
  .have h2:=congrArg List.length h;rw[Jn hu,KN hv,zv,Lib.decDigits_length]at h2;have:=Lib.nDigits_pos (v / 10);simp only[j8,zO]at h2;omega
  .have h2:=congrArg List.length h;rw[Jn hv,KN hu,zv,Lib.decDigits_length]at h2;have:=Lib.nDigits_pos (u / 10);simp only[j8,zO]at h2;omega
  .rw [KN hu,KN hv]at h;obtain⟨h1,h2⟩:=List.append_inj' h rfl;have e1:=ih (u / 10) (by omega) (v / 10) h1;have e2:=juK (u % 10) (v % 10) (by omega) (by omega) (by simpa using h2);omega
theorem jAA{p:UInt8}{i j:Nat}(h:JR p i=JR p j):i=j:=by
 unfold JR at h;exact jsR i j (by simpa using h)
theorem jAB{p:UInt8}(hp:upc p=true){i:Nat}(hi:i<1000):js (JR p i)=true:=by
 obtain⟨h1,h2⟩:=Kt 2 i (by omega);show(upc p && ((Lib.decDigits i).all JM && decide ((Lib.decDigits i).length<=3)))=true;rw[hp,h1,decide_eq_true (by omega)];rfl
theorem jEe{l:Xa}{n x:Xb} :x∈vnA l n↔x∈l\/x=n:=by
 unfold vnA;split
 .rename_i h;rw[List.contains_iff_mem]at h;exact⟨Or.inl,λh'=>h'.elim id λe=>e ▸ h⟩
 .simp
theorem jxv{l:Xa}{n:Xb}(h:l.Nodup):(vnA l n).Nodup:=by
 unfold vnA;split
 .exact h
 .rename_i hc;rw[List.contains_iff_mem]at hc;refine ja1.2 ⟨h,by simp,λa ha b hb=>?_⟩;simp only[zx]at hb;rintro rfl;exact hc (hb ▸ ha)
mutual
theorem jqU:∀(t:T)(l:Xa)(x:Xb),x∈ZA l t↔x∈l\/x∈kL t
 |.mk n us,l,x=>by
  rw[ZA,kL];split
  .rw [jEe];simp
  .exact jqT us l x
theorem jqT:∀(ts:Xg)(l:Xa)(x:Xb),x∈jbV l ts↔x∈l\/x∈z7 ts
 | [],l,x=>by simp[jbV,z7]
 |t::ts,l,x=>by rw[jbV,z7,jqT ts,jqU t,kW,or_assoc]
end
mutual
theorem jjD:∀(t:T){l:Xa},l.Nodup->(ZA l t).Nodup
 |.mk n us,l,h=>by
  rw[ZA];split
  .exact jxv h
  .exact jjC us h
theorem jjC:∀(ts:Xg){l:Xa},l.Nodup->(jbV l ts).Nodup
 | [],l,h=>h
 |t::ts,l,h=>by rw[jbV];exact jjC ts (jjD t h)
end
theorem jju:∀(c:kj)(l:Xa)(x:Xb),x∈c.foldl (λl x=>ZA l x.2) l↔x∈l\/ ∃y∈c,x∈kL y.2
 | [],l,x=>by simp
 |y::c,l,x=>by rw[List.foldl_cons,jju c,jqU,or_assoc];simp
theorem jdK{c:kj}{x:Xb} :x∈kV c↔ ∃y∈c,x∈kL y.2:=by unfold kV;rw[jju];simp
theorem jaw(c:kj):(kV c).Nodup:=by
 have:∀(c:kj)(l:Xa),l.Nodup->(c.foldl (λl x=>ZA l x.2) l).Nodup:=by
  intro c;induction c with
  |nil=>intro l h;exact h
  |cons y c ih=>intro l h;exact ih _ (jjD y.2 h)
 exact this c [] List.nodup_nil
theorem jdL{c:kj}{x:Xb}(h:x∈kV c):js x=true:=by
 obtain⟨y,_,hx⟩:=jdK.1 h;exact jr8 y.2 hx
def CN(c:kj):Prop:=c.length<=8/\ ∀l∈c,Bx l.2/\nodes l.2<=30
theorem Jp{c:kj}(h:CN c):(kV c).length<=240:=by
 have:∀(c:kj)(l:Xa),(∀y∈c,nodes y.2<=30)->(c.foldl (λl x=>ZA l x.2) l).length<=l.length+30*c.length:=by
  intro c;induction c with
  |nil=>intro l _;simp
  |cons y c ih=>
   intro l h;have h1:=je0 y.2 l;have h2:=h y (by simp);have h3:=ih (ZA l y.2) λz hz=>h z (by simp[hz]);rw[List.foldl_cons,j8];omega
 have h2:=this c [] λy hy=>(h.2 y hy).2;have h3:=h.1;rw[zO]at h2;unfold kV;omega
theorem jlf{p:UInt8}{l:Xa}{i:Nat}(hl:l.Nodup)(hi:i<l.length):zk p l l[i]=JR p i:=by
 unfold zk;have:l.findIdx? (λx=>decide (x=l[i]))=some i:=by
  rw[List.findIdx?_eq_some_iff_getElem];refine⟨hi,by simp,λj hj=>?_⟩;simp only[ky];intro e;exact(List.pairwise_iff_getElem.1 hl) j i (by omega) hi hj e
 rw[this]
theorem jfW{p:UInt8}(hp:upc p=true){l:Xa}(hl:l.length<=1000){n:Xb}(hn:js n=true):js (zk p l n)=true:=by
 unfold zk;split
 .rename_i i h;have:=(List.findIdx?_eq_some_iff_getElem.1 h).1;exact jAB hp (by omega)
 .exact hn
theorem jp5{α:Type}(c:α->α->Int)(l:List α)(x:α):(ja6 c l x).length<=l.length+1:=by
 unfold ja6;split
 .omega
 .have:=congrArg List.length (List.takeWhile_append_dropWhile (p:=λa=>decide (c a x<0)) (l:=l));rw[zv]at this;rw[zv,j8];omega
theorem jf5{α:Type}(c:α->α->Int)(l:List α):(yR c l).length<=l.length:=by
 have:∀(l m:List α),(l.foldl (ja6 c) m).length<=m.length+l.length:=by
  intro l;induction l with
  |nil=>intro m;simp
  |cons x l ih=>
   intro m;have h1:=jp5 c m x;have h2:=ih (ja6 c m x);rw[List.foldl_cons,j8];omega
 have:=this l [];simpa[yR]using this
theorem jcy{l:kj}{x:Lt} :x∈yR cmpL l↔x∈l:=(jcx Kr l).2 x
theorem jqH{l:kj}(h:Asc cmpL l):yR cmpL l=l:=by
 obtain⟨h1,h2⟩:=jcx Kr l;exact jnO Kr h1 h h2
theorem CN.make{l:kj}(hl:l.length<=8)(h:∀x∈l,Bx x.2/\nodes x.2<=30):CN (yR cmpL l):=⟨by have:=jf5 cmpL l;omega,λx hx=>h x (jcy.1 hx)⟩
theorem CN.ren{p:UInt8}(hp:upc p=true){c:kj}(h:CN c):∀x∈c.map (λl=>(l.1,kZ (zk p (kV c)) l.2)),Bx x.2/\nodes x.2<=30:=by
 intro x hx;obtain⟨l,hl,rfl⟩:=yn.1 hx;have hn:=Jp h;have:=jl1 (zk p (kV c)) l.2;have:=(h.2 l hl).2;exact⟨(h.2 l hl).1.ren λn hn=>jfW hp (by omega) hn,by show nodes (kZ (zk p (kV c)) l.2)<=30;omega⟩
theorem CN.renC{p:UInt8}(hp:upc p=true){c:kj}(h:CN c):CN (renC p c):=CN.make (by rw[List.length_map];exact h.1) (h.ren hp)
theorem CN.normF:∀(k:Nat){c:kj},CN c->CN (normF k c)
 |0,c,h=>h
 |k+1,c,h=>by
  rw[Go.Proofs.YthlhadhipnokfaaGreatDoor.normF];split
  .exact h
  .exact CN.normF k (CN.renC (by decide) h)
theorem CN.normC{c:kj}(h:CN c):CN (normC c):=CN.normF 10 h
theorem JF{c:kj}(h:qp c=true):CN c/\Asc cmpL c/\(∀l∈c,JH l.2=true):=by
 unfold qp at h;rw[jI,jI,yx,ky,jpo]at h;exact⟨⟨h.2.2,λl hl=>⟨(jer.1 (h.1 l hl)).1,zM (jer.1 (h.1 l hl)).2⟩⟩,h.2.1,h.1⟩
theorem CN.tz{c:kj}(h:CN c):∀l∈c,Tz l.2:=λl hl=>(h.2 l hl).1.tz (by have:=(h.2 l hl).2;omega)
theorem CN.rx{c:kj}(h:CN c):∀l∈c,Rx' l.2:=λl hl=>(h.2 l hl).1.rx
theorem jlg{f:Xb->Xb} :∀{xs bs:Xg},(∀u∈xs,∀v∈bs,y5 (kZ f u) (kZ f v)=y5 u v)->yk (xs.map (kZ f)) (bs.map (kZ f))=yk xs bs
 | [],_,_=>rfl
 |_::_,[],_=>rfl
 |x::xs,b::bs,h=>by
  rw[kK,kK,yk,yk,h x (by simp) b (by simp),jlg λu hu v hv=>h u (by simp[hu]) v (by simp[hv])]
theorem Rx'.va{t:T}(h:Rx' t)(hv:js t.name=true):t.args=[]:=h.elim (λh=>qP h hv) λh=>by rw[h.1]at hv;exact absurd hv (by decide)
theorem jCp{L:Xa}{f:Xb->Xb}(hf:∀n∈L,js (f n)=true)(hc:∀n∈L,∀m∈L,zs (f n) (f m)=zs n m):∀a:T,Rx' a->(∀x∈kL a,x∈L)-> ∀b:T,Rx' b->(∀x∈kL b,x∈L)->y5 (kZ f a) (kZ f b)=y5 a b:=by
 refine T.ind λa ih ra la b rb lb=>?_;have hk:cK (qv (kZ f a)) (qv (kZ f b))=cK (qv a) (qv b):=by
  have v1:∀t:T,Rx' t->(∀x∈kL t,x∈L)->js t.name=true->qv t=(0,(t.name,0))/\qv (kZ f t)=(0,(f t.name,0))/\t.name∈L:=λt rt lt hv=>by
   have ha:=rt.va hv;have hm:t.name∈L:=lt _ (by rw[vsv hv];simp);have e1:vF t.name=0:=by unfold vF;rw[hv,jg rfl]
   have e2:vF (f t.name)=0:=by unfold vF;rw[hf _ hm,jg rfl]
   refine⟨by unfold qv;rw[e1,ha];rfl,?_,hm⟩
   rw[Qc,hv,jg rfl];show(vF (f t.name),(f t.name,0))=_;rw[e2]
  have v2:∀t:T,js t.name=false->qv (kZ f t)=qv t/\(qv t).1=1:=λt hv=>by
   refine⟨by unfold qv;rw[jb3 hv,QQ hv,List.length_map],?_⟩
   show vF t.name=1;unfold vF;rw[hv,jh Bool.false_ne_true]
  cases va:js a.name<;>cases vb:js b.name
  .rw [(v2 a va).1,(v2 b vb).1]
  .obtain ⟨p1,p2,_⟩:=v1 b rb lb vb;obtain⟨q1,q2⟩:=v2 a va;rw[q1,p1,p2];have e:∀z:Key,z.1=0->cK (qv a) z=1:=λz hz=>by
    have:zt (qv a).1 z.1=1:=by rw[q2,hz];decide
    unfold cK;rw[this,jg (by decide)]
   rw[e _ rfl,e _ rfl]
  .obtain ⟨p1,p2,_⟩:=v1 a ra la va;obtain⟨q1,q2⟩:=v2 b vb;rw[q1,p1,p2];have e:∀z:Key,z.1=0->cK z (qv b) = -1:=λz hz=>by
    have:zt z.1 (qv b).1 = -1:=by rw[q2,hz];decide
    unfold cK;rw[this,jg (by decide)]
   rw[e _ rfl,e _ rfl]
  .obtain ⟨p1,p2,p3⟩:=v1 a ra la va;obtain⟨q1,q2,q3⟩:=v1 b rb lb vb;rw[p1,p2,q1,q2];unfold cK;simp only;rw[hc _ p3 _ q3]
 rw[Y0,Y0 a b,hk];by_cases h0:cK (qv a) (qv b)=0
 .rw [jh (λh=>h h0),jh (λh=>h h0)];cases va:js a.name with
  |true=>
   have:(kZ f a).args=[]:=by rw[Qc,va,jg rfl];rfl
   rw[this,ra.va va];rfl
  |false=>
   have vb:js b.name=false:=by rw[<-(ji6 ((jag.zero _ _).1 h0)).1];exact va
   rw[QQ va,QQ vb];exact jlg λu hu v hv=>ih u hu (ra.args u hu) (λx hx=>la x (by rw[vsf va,qt];exact⟨u,hu,hx⟩)) v (rb.args v hv) λx hx=>lb x (by rw[vsf vb,qt];exact⟨v,hv,hx⟩)
 .rw [jg h0,jg h0]
def jD(d:kj):kj:=d.map λl=>(l.1,kZ (zk 89 (kV d)) l.2)
def jJ(c:kj):Bool:=qp c && Kv c
theorem kg{c:kj}(h:jJ c=true):CN c/\Asc cmpL c/\qp c=true/\Kv c=true:=by
 unfold jJ at h;rw[jI]at h;exact⟨(JF h.1).1,(JF h.1).2.1,h.1,h.2⟩
theorem jv0(p q:UInt8)(x y:Xb):zs (p::x) (p::y)=zs (q::x) (q::y):=by
 have e:yK (p::x) (p::y)=yK (q::x) (q::y):=by
  rw[YJ,YJ];congr 1;simp[]
 unfold zs;rw[e];simp
theorem jdN{d:kj}(h:Kv d=true){n:Xb}(hn:n∈kV d):∃i,i<(kV d).length/\n=JR 88 i/\zk 89 (kV d) n=JR 89 i:=by
 obtain⟨i,hi,rfl⟩:=List.mem_iff_getElem.1 hn;unfold Kv at h;rw[ky]at h;refine⟨i,hi,?_,jlf (jaw d) hi⟩;have:=congrArg (λl=>l[i]?) h;simp only[j7 hi,qu,jfy hi,qR]at this;exact jaZ this
theorem jvU{d:kj}(h:jJ d=true):Asc cmpL (jD d):=by
 obtain⟨hc,ha,_,hn⟩:=kg h;have hl:=Jp hc;unfold Asc jD;rw[List.pairwise_map];refine List.Pairwise.imp_of_mem ?_ ha;intro x y hx hy hlt;have e:y5 (kZ (zk 89 (kV d)) x.2) (kZ (zk 89 (kV d)) y.2)=y5 x.2 y.2:=by
  refine jCp (L:=kV d) (λn hn'=>jfW (by decide) (by omega) (jdL hn')) (λn h1 m h2=>?_) x.2 (hc.rx x hx) (λz hz=>jdK.2 ⟨x,hx,hz⟩) y.2 (hc.rx y hy) (λz hz=>jdK.2 ⟨y,hy,hz⟩);obtain⟨i,_,rfl,e1⟩:=jdN hn h1;obtain⟨j,_,rfl,e2⟩:=jdN hn h2;rw[e1,e2];exact jv0 _ _ _ _
 show cmpL (x.1,kZ (zk 89 (kV d)) x.2) (y.1,kZ (zk 89 (kV d)) y.2)<0;unfold cmpL at hlt⊢;simp only;rw[e];exact hlt
theorem apart_eq{d:kj}(h:jJ d=true):renC 89 d=jD d:=jqH (jvU h)
theorem jep{d:kj}(h:jJ d=true):CN (jD d):=⟨by unfold jD;rw[List.length_map];exact(kg h).1.1,(kg h).1.ren (by decide)⟩
theorem jfT(d:kj):(jD d).length=d.length:=by unfold jD;rw[List.length_map]
open Classical in
noncomputable def Jw(a b:T):Option jw:=if h:∃r k,zh k [] [(a,b)]=some r then h.choose else none
theorem jmr{a b:T}(ha:Exx a)(hb:Exx b):K6 [] [(a,b)]:=⟨jgr,(λ_ h=>(List.not_mem_nil h).elim:IdS []),λp hp=>by rw[zx.1 hp];exact⟨ha,hb⟩⟩
theorem Zl{a b:T}(ha:Exx a)(hb:Exx b):∃k,zh k [] [(a,b)]=some (Jw a b):=by
 obtain⟨k,r,h⟩:=jt9 13 _ [] [(a,b)] (jmr ha hb) (by simp) (j4 _);have hex:∃r k,zh k [] [(a,b)]=some r:=⟨r,k,h⟩;unfold Jw;rw[dif_pos hex];exact hex.choose_spec
theorem Z6{a b:T}(ha:Exx a)(hb:Exx b){u:jw}(h:Jw a b=some u):jL u=true:=by
 obtain⟨k,hk⟩:=Zl ha hb;rw[h]at hk;exact(jko k _ _ (jmr ha hb) hk).1
noncomputable def Yg(s:jw)(l:kj):Option kj:=if(l.all λx=>jF (sub s x.2)) && qp (yR cmpL (l.map λx=>(x.1,sub s x.2)))then some (yR cmpL (l.map λx=>(x.1,sub s x.2)))else none
noncomputable def qE(s:jw)(l:kj):Option kj:=(Yg s l).bind λc=>if jJ (normC c)then some (normC c)else none
abbrev cz:A:= .agg [.sl 3 []]
def J6(o:Option kj):Xe:=match o with|some c=>some (.tup [cm c,vb true],[])|none=>some (.tup [cz,vb false],[])
theorem Zi{s:jw}{l:kj}{c:kj}(h:qE s l=some c):jJ c=true:=by
 unfold qE at h;rw[yG]at h;obtain⟨d,_,h⟩:=h;split at h
 .rename_i hn;cases h;exact hn
 .cases h
theorem jac{s:jw}{l:kj}{c:kj}(h:Yg s l=some c):qp c=true/\Asc cmpL c:=by
 unfold Yg at h;split at h
 .rename_i hn;cases h;rw[jI]at hn;exact⟨hn.2,(jcx Kr _).1⟩
 .cases h
def atI:Xi->T->Option T
 | [],t=>some t
 |i::p,t=>if 0<=i/\i<(t.args.length:Int)then atI p (t.args.getD i.toNat (.mk [] []))else none
theorem jx4:∀{p:Xi}{t u:T},atI p t=some u-> ∃q:Xf,p=q.map (λn:Nat=>(n:Int))/\okP q t/\u=atT q t
 | [],t,u,h=>by simp only[atI,zI]at h;exact⟨[],rfl,trivial,h.symm⟩
 |i::p,t,u,h=>by
  rw[atI]at h;split at h;rotate_left
  .cases h
  rename_i hi;obtain⟨q,e,h1,h2⟩:=jx4 h;refine⟨i.toNat::q,?_,⟨by omega,h1⟩,h2⟩;rw[kK,<-e];congr 1;omega
theorem jAC:∀{p:Xf}{t:T},p≠ []->okP p t->(∀u∈t.args,zy u=true)->zy (atT p t)=true/\nodes (atT p t)<=nodes t
 | [],t,h,_,_=>absurd rfl h
 |i::p,t,_,h,ha=>by
  obtain⟨h1,h2⟩:=h;rw[atT];rw[yU h1]at h2⊢;have hm:t.args[i]∈t.args:=jr h1;have hk:=ha _ hm;have hn:=qT hm;by_cases hp:p=[]
  .subst hp;exact⟨hk,by show nodes t.args[i]<=_;omega⟩
  .have:=jAC hp h2 (kO hk);exact⟨this.1,by omega⟩
theorem jo3{s:T}(hs:zy s=true):∀{p:Xf}{t:T},okP p t->zy t=true->zy (kJ s p t)=true
 | [],t,_,_=>hs
 |i::p,t,h,hk=>by
  obtain⟨h1,h2⟩:=h;rw[yU h1]at h2;have hv:js t.name=false:=by
   cases hv:js t.name with
   |false=>rfl
   |true=>rw[qP hk hv]at h1;simp at h1
  have hk':=hk;rw[yA,hv,jh Bool.false_ne_true,jI,jI,ky]at hk;rw[kJ,yU h1,yA];show(if js t.name=true then _ else(qo t.name && (decide ((t.args.set i (kJ s p t.args[i])).length<=4) && jjA (t.args.set i (kJ s p t.args[i])))))=true;rw[hv,jh Bool.false_ne_true,ja0,hk.1,decide_eq_true hk.2.1,JS,Bool.true_and,Bool.true_and,yx];intro u hu;rcases jky hu with hu|hu
  .exact kO hk' u hu
  .rw [hu];exact jo3 hs h2 (kO hk' _ (jr h1))
theorem jvO{s:T}(hs:zy s=true){p:Xf}{t:T}(hp:p≠ [])(h:okP p t)(hb:Bx t):Bx (kJ s p t):=by
 match p,hp,h with
 |i::p,_,⟨h1,h2⟩=>
  rw[yU h1]at h2;rcases hb with hb|hb
  .left;rw[kJ,yU h1];refine⟨hb.1,by show(t.args.set i _).length=2;rw[ja0];exact hb.2.1,λu hu=>?_⟩;rcases jky (show u∈t.args.set i (kJ s p t.args[i]) from hu)with hu|hu
   .exact hb.2.2 u hu
   .rw [hu];exact jo3 hs h2 (hb.2.2 _ (jr h1))
  .right;refine⟨hb.1,?_⟩;exact jo3 (p:=i::p) hs ⟨h1,by rw[yU h1];exact h2⟩ hb.2
theorem jks(s:T):∀(p:Xf)(t:T),okP p t->nodes (kJ s p t)<=nodes t+nodes s
 | [],t,_=>by rw[kJ];omega
 |i::p,t,h=>by
  obtain⟨h1,h2⟩:=h;rw[yU h1]at h2;have ih:=jks s p t.args[i] h2;rw[kJ,yU h1,jO t];show 1+ju (t.args.set i (kJ s p t.args[i]))<=_;have key:∀(ts:Xg)(i:Nat)(h:i<ts.length)(u:T),nodes u<=nodes ts[i]+nodes s->ju (ts.set i u)<=ju ts+nodes s:=by
   intro ts;induction ts with
   |nil=>intro i h;simp at h
   |cons x xs ih2=>
    intro i h u hu;cases i with
    |zero=>simp only[List.set_cons_zero,ju,List.getElem_cons_zero]at hu⊢;omega
    |succ i=>
     have:=ih2 i (by simpa using h) u (by simpa using hu);simp only[List.set_cons_succ,ju];omega
  have:=key t.args i h1 _ ih;omega
def EXB(t:T):Prop:=EX false t/\Bx t
theorem jbU{rs:Xg}(hr:RS rs){t u:T}(h:EXB t)(ho:Yt rs false t=some u):Tz u/\Bx u/\(jF u=true->EX false u)/\G 250 [tm u]=some (vb (jF u),[]):=by
 have hn:=jtu hr t false h.1 ho;have hn0:=h.1.1.1;rw[jay]at ho;split at ho;rotate_left
 .cases ho
 rename_i us hus;cases ho;obtain⟨g1,g2⟩:=jax hus;have hk:∀v∈us,zy v=true:=g2 (λv=>zy v=true) (λv hv=>(h.1.2.1 v hv).1) λv hv u' hu'=>jvq hr.ok v (h.1.2.1 v hv).1 hu';have hb:Bx (.mk t.name us):=by
  rcases h.2 with h2|h2
  .exact Or.inl ⟨h2.1,g1.trans h2.2.1,hk⟩
  .refine Or.inr ⟨h2.1,?_⟩;have h3:=h2.2;rw[yA,jt3 h2.1,jh Bool.false_ne_true,jI,jI,ky]at h3;rw[yA];show(if js t.name=true then _ else(qo t.name && (decide (us.length<=4) && jjA us)))=true;rw[jt3 h2.1,jh Bool.false_ne_true,h2.1,g1,decide_eq_true h3.2.1,JS,Bool.true_and,Bool.true_and,yx];exact hk
 have hz:Tz (.mk t.name us):=hb.tz (by omega);refine⟨hz,hb,λhs=>?_,jnL hz hb.ax⟩;have hns:=zM hs;refine⟨⟨by omega,hz⟩,λv hv=>⟨hk v hv,?_⟩,λh=>by cases h⟩;have:=qT (t:= .mk t.name us) hv;omega
theorem jtN(rs:Xg)(hr:RS rs):∀(k n:Nat),k+n=51->1<=k-> ∀t:T,EXB t->jif (jG rs) (vb false) (vi (n:Nat)) (sv []) (sv t.name) (jG t.args) []=jqW (rwN rs false k n t):=by
 intro k;induction k with
 |zero=>intro n _ h;omega
 |succ k ih=>
  intro n hk _ t ht;have e1:=jww rs hr false t ht.1;rw[jGd,rwN];cases ho:Yt rs false t with
  |none=>
   rw[ho]at e1;have e1:G 259 [tm t,jG rs,vb false]=some (.tup [tm t,vb false],[]):=e1;show _=some (A.tup [tm t,vi (n:Nat),vb true],[]);simp only[je,e1]
  |some u=>
   rw[ho]at e1;have e1:G 259 [tm t,jG rs,vb false]=some (.tup [tm u,vb true],[]):=e1;obtain⟨hu,hb,hs,hA⟩:=jbU hr ht ho;have e2:G 250 [tm u]=some (vb (jF u),[]):=hA;by_cases h50:n=50
   .have hk0:k=0:=by omega
    have hn:((n:Nat):Int)=50:=by omega
    show _=jqW (if k=0\/jF u=false then none else rwN rs false k (n+1) u);rw[jg (Or.inl hk0)];show _=some (A.tup [.agg [sv [],.sl 2 []],vi 0,vb false],[]);simp only[je,e1,hn]
   .have hn:¬((n:Nat):Int)=50:=by omega
    have hk0:¬k=0:=by omega
    show _=jqW (if k=0\/jF u=false then none else rwN rs false k (n+1) u);cases hsm:jF u with
    |false=>
     rw[hsm]at e2;rw[jg (Or.inr rfl)];show _=some (A.tup [.agg [sv [],.sl 2 []],vi 0,vb false],[]);simp only[je,e1,hn,e2]
    |true=>
     rw[hsm]at e2;rw[jh (by simp[hk0])];have h5:ck ((n:Int)+1)=some (vi ((n+1:Nat):Int)):=jV (by omega) (by omega);have:=ih (n+1) (by omega) (by omega) u ⟨hs hsm,hb⟩;rw[<-this];simp only[je,e1,hn,e2,h5]
theorem jtL(rs:Xg)(hr:RS rs):∀(k n:Nat),k+n=51->1<=k-> ∀t:T,EXB t->jh7 (jG rs) (vb false) (vi (n:Nat)) (sv []) (sv t.name) (jG t.args) []=jqW (rwN rs false k n t):=by
 intro k;induction k with
 |zero=>intro n _ h;omega
 |succ k ih=>
  intro n hk _ t ht;have e1:=jwu rs hr t false ht.1;rw[jF6,rwN];cases ho:Yt rs false t with
  |none=>
   rw[ho]at e1;have e1:G 204 [tm t,jG rs,vb false]=some (.tup [.agg [sv [],.sl 2 []],vb false],[]):=e1;show _=some (A.tup [tm t,vi (n:Nat),vb true],[]);simp only[je,e1]
  |some u=>
   rw[ho]at e1;have e1:G 204 [tm t,jG rs,vb false]=some (.tup [tm u,vb true],[]):=e1;obtain⟨hu,hb,hs,hA⟩:=jbU hr ht ho;have e2:G 205 [tm u]=some (vb (jF u),[]):=jas u hu.wf hu;by_cases h50:n=50
   .have hk0:k=0:=by omega
    have hn:((n:Nat):Int)=50:=by omega
    show _=jqW (if k=0\/jF u=false then none else rwN rs false k (n+1) u);rw[jg (Or.inl hk0)];show _=some (A.tup [.agg [sv [],.sl 2 []],vi 0,vb false],[]);simp only[je,e1,hn]
   .have hn:¬((n:Nat):Int)=50:=by omega
    have hk0:¬k=0:=by omega
    show _=jqW (if k=0\/jF u=false then none else rwN rs false k (n+1) u);cases hsm:jF u with
    |false=>
     rw[hsm]at e2;rw[jg (Or.inr rfl)];show _=some (A.tup [.agg [sv [],.sl 2 []],vi 0,vb false],[]);simp only[je,e1,hn,e2]
    |true=>
     rw[hsm]at e2;rw[jh (by simp[hk0])];have h5:ck ((n:Int)+1)=some (vi ((n+1:Nat):Int)):=jV (by omega) (by omega);have:=ih (n+1) (by omega) (by omega) u ⟨hs hsm,hb⟩;rw[<-this];simp only[je,e1,hn,e2,h5]
theorem jBc(rs:Xg)(hr:RS rs)(t:T)(ht:EXB t):G 219 [tm t,jG rs,vb false]=jqW (rwN rs false 51 0 t):=by
 have e1:=jbW t ht.1.1.2;have:=jtN rs hr 51 0 rfl (by decide) t ht;have:jif (jG rs) (vb false) (vi 0) (sv []) (sv t.name) (jG t.args) []=_:=this;rw[jKN];simp only[je,e1,this]
theorem jBb(rs:Xg)(hr:RS rs)(t:T)(ht:EXB t):G 162 [tm t,jG rs,vb false]=jqW (rwN rs false 51 0 t):=by
 have e1:=Jm t ht.1.1.2;have:=jtL rs hr 51 0 rfl (by decide) t ht;have:jh7 (jG rs) (vb false) (vi 0) (sv []) (sv t.name) (jG t.args) []=_:=this;rw[jJ4];simp only[je,e1,this]
theorem Bx.exB{t:T}(h:Bx t)(hn:nodes t<=30):EXB t:=⟨⟨⟨by omega,h.tz (by omega)⟩,λu hu=>⟨h.args u hu,by have:=qT hu;omega⟩,λh=>by cases h⟩,h⟩
theorem jcH{rs:Xg}(hr:RS rs):∀(k n:Nat){t:T}{r:T×Nat},EXB t->rwN rs false k n t=some r->Bx r.1/\nodes r.1<=31
 |0,n,t,r,_,h=>by simp[rwN]at h
 |k+1,n,t,r,ht,h=>by
  rw[rwN]at h;cases ho:Yt rs false t with
  |none=>rw[ho]at h;cases h;exact⟨ht.2,ht.1.1.1⟩
  |some u=>
   rw[ho]at h;have h:(if k=0\/jF u=false then none else rwN rs false k (n+1) u)=some r:=h;split at h
   .cases h
   rename_i hc;obtain⟨_,hb,hs,_⟩:=jbU hr ht ho;have hsm:jF u=true:=by
    cases hs':jF u with
    |true=>rfl
    |false=>exact absurd (Or.inr hs') hc
   exact jcH hr k (n+1) ⟨hs hsm,hb⟩ h
end Go.Proofs.YthlhadhipnokfaaGreatDoor
