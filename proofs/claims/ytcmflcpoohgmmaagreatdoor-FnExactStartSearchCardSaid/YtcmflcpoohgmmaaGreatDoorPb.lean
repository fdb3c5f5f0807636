/- Pb -/
import Derived.Test.YtcmflcpoohgmmaaGreatDoorPa
import Derived.Test.YtcmflcpoohgmmaaGreatDoorPq
namespace Go.Proofs.YtcmflcpoohgmmaaGreatDoor
open Go Go.RowKit Go.Proofs.YtcmflcpoohgmmaaGreatDoor.Abs
set_option linter.unusedSimpArgs false
set_option linter.unusedVariables false
set_option maxHeartbeats 1000000
theorem jlp(x y:Xb):G 98 [sv x,sv y]=some (vi (ku x y),[]):=by
 rw[g98,Ke];cases h1:Jz x y<;>cases h2:Jz y x<;>simp only[jo,jd7,h1,h2]
theorem jct(n m:Xb)(ts us:Xg)(hl:ts.length<=1048576)(hlen:ts.length=us.length)(ih:∀t∈ts,∀u∈us,G 78 [tm t,tm u]=some (vi (zc t u),[])) :
  ∀i,i<=ts.length->jf1 (vi (i:Nat)) (sv n) (jW ts) (sv m) (jW us)=some (vi (kD (ts.drop i) (us.drop i)),[]):=by
 refine upto ?_ ?_
 .rw [jrr,List.drop_length,kD];simp only[jo]
 .intro i hi ih';have hlt:(i:Int)<((ts.length:Nat):Int):=by omega
  have hi2:i<us.length:=by omega
  have h5:=js hi (by show ts.length<=9223372036854775807;omega)
  have e1:=ih ts[i] (List.getElem_mem _) us[i] (List.getElem_mem _);rw[jrr,jr hi,jr hi2,kD];by_cases hc:zc ts[i] us[i]=0
  .rw [if_neg (λh=>h hc)];rw[hc]at e1;simp only[jo,hlt,jb hi,jb hi2,jp,e1,h5,ih']
  .rw [if_pos hc];generalize zc ts[i] us[i]=c at *;simp only[jo,hlt,jb hi,jb hi2,jp,e1,hc]
theorem jii(a b:T):zc a b=if jA a.name=true/\jA b.name=false then -1 else if jA a.name=false/\jA b.name=true then 1 else if ¬a.name=b.name then ku a.name b.name else if a.args.length<b.args.length then -1 else if b.args.length<a.args.length then 1 else kD a.args b.args:=by
 rw[Kd];unfold cK z6 vF;have hn:=JN.zero a.name b.name;have hzr:jV 1 1=0/\jV 0 0=0/\jV 0 1 = -1/\jV 1 0=1:=by decide
 obtain⟨z1,z2,z3,z4⟩:=hzr;have hz:jV a.args.length b.args.length=if a.args.length<b.args.length then -1 else if b.args.length<a.args.length then 1 else 0:=rfl;cases h1:jA a.name<;>cases h2:jA b.name<;>simp only[Bool.false_eq_true,if_true,if_false,z1,z2,z3,z4,hz]
 all_goals have hs:=(JN.zero b.name b.name).2 rfl
 all_goals by_cases e:a.name=b.name
 all_goals by_cases l1:a.args.length<b.args.length
 all_goals by_cases l2:b.args.length<a.args.length
 all_goals first
  |(simp[e,hs,l1,l2];done)
  |(have ne:¬ku a.name b.name=0:=λh=>e (hn.1 h);simp only[ne_eq,e,ne,not_false_eq_true,not_true_eq_false,if_true,if_false,and_true,and_false,reduceCtorEq];done)
  |simp[l1,l2]
theorem jfd:∀a:T,Tz a-> ∀b:T,Tz b->G 78 [tm a,tm b]=some (vi (zc a b),[]):=by
 refine T.ind λa ih za b zb=>?_;have va:=Zf a.name (((kS a).1 za.wf).1);have vb':=Zf b.name (((kS b).1 zb.wf).1);have hz:=za;unfold Tz at hz;rw[kC]at hz;have e1:=jlp a.name b.name;have e4:a.args.length=b.args.length->jf1 (vi 0) (sv a.name) (jW a.args) (sv b.name) (jW b.args)=some (vi (kD a.args b.args),[]):=λhlen=>by
  have key:=jct a.name b.name a.args b.args (by omega) hlen (λt ht u hu=>ih t ht (za.args t ht) u (zb.args u hu)) 0 (Nat.zero_le _);simp only[Int.natCast_zero,List.drop_zero]at key;exact key
 rw[g78,jii];have main:∀p:Bool,G 95 [sv a.name]=some (vb p,[])->G 95 [sv b.name]=some (vb p,[])->_:=λp _ _=>trivial;clear main;cases h1:jA a.name<;>cases h2:jA b.name<;>rw[h1]at va<;>rw[h2]at vb'
 all_goals by_cases en:a.name=b.name
 all_goals try (exfalso;rw[en,h2]at h1;cases h1;done)
 all_goals by_cases l1:a.args.length<b.args.length
 all_goals by_cases l2:b.args.length<a.args.length
 all_goals have l1':(((a.args.length:Nat):Int)<((b.args.length:Nat):Int))=(a.args.length<b.args.length):=propext (by omega)
 all_goals have l2':(((b.args.length:Nat):Int)<((a.args.length:Nat):Int))=(b.args.length<a.args.length):=propext (by omega)
 all_goals first
  |(have e4:=e4 (by omega);rw[en]at e4;simp only[jo,vb',en,l1,l2,l1',l2',e4,and_true,and_false];done)
  |(simp only[jo,va,vb',e1,en,l1,l2,l1',l2',and_true,and_false];done)
  |(simp only[jo,va,vb',e1,en,l1,l2,l1',l2',and_true,true_and,and_false,false_and])
abbrev jD(l:Lt):Xd:=[vb l.1,sv l.2.name,.sl 2 (l.2.args.map jq)]
abbrev ltm(l:Lt):A:= .agg [vb l.1,sv l.2.name,.sl 2 (l.2.args.map jq)]
theorem jj9(b:Bool):G 106 [vb b]=some (vi (fl b:Nat),[]):=by
 rw[jvN];cases b<;>simp only[jo]<;>rfl
theorem Yh(a b:Lt)(ha:Rx' a.2)(za:Tz a.2)(hb:Rx' b.2)(zb:Tz b.2):G 83 [ltm a,ltm b]=some (vi (cmpL a b),[]):=by
 have e1:=ja8 a.2 ha za b.2 hb zb;have e2:=jj9 a.1;have e3:=jj9 b.1;have e4:=jaI (fl a.1) (fl b.1);have e5:=joi (zc a.2 b.2) (jV (fl a.1) (fl b.1));have e6:cmpL a b=if zc a.2 b.2≠0 then zc a.2 b.2 else jV (fl a.1) (fl b.1):=rfl;rw[g83,e6];generalize (if zc a.2 b.2≠0 then zc a.2 b.2 else jV (fl a.1) (fl b.1))=c at *;generalize jV (fl a.1) (fl b.1)=d at *;generalize zc a.2 b.2=f at *;simp only[jo,e1,e2,e3,e4,e5]
theorem jdz(a b:Lt)(za:Tz a.2)(zb:Tz b.2):G 56 [ltm a,ltm b]=some (vi (cmpL a b),[]):=by
 have e1:=jfd a.2 za b.2 zb;have e6:cmpL a b=if zc a.2 b.2≠0 then zc a.2 b.2 else jV (fl a.1) (fl b.1):=rfl;rw[g56,e6];by_cases h:zc a.2 b.2=0
 .rw [if_neg (λh'=>h' h)];rw[h]at e1;obtain⟨p,t⟩:=a;obtain⟨q,u⟩:=b;have d1:jV (fl false) (fl true) = -1:=by decide
  have d2:jV (fl true) (fl false)=1:=by decide
  have d3:jV (fl true) (fl true)=0:=by decide
  have d4:jV (fl false) (fl false)=0:=by decide
  cases p<;>cases q<;>simp only[jo,e1,d1,d2,d3,d4]
 .rw [if_pos h];generalize zc a.2 b.2=c at *;simp only[jo,e1,h]
def zM(t:T):Bool:=if t.name=[61]then jgq t else qf t.name && zH t
theorem jln(t:T)(hw:KC t)(hs:tsz t<=1048576):G 55 [tm t]=some (vb (zM t),[]):=by
 unfold zM;by_cases he:t.name=[61]
 .rw [if_pos he];exact jiC t hw hs he
 .have e1:=jaT t.name ((kS t).1 hw).1;have e2:=jlo t hw hs;rw[if_neg he,g55];cases h:qf t.name<;>rw[h]at e1
  .simp only[jo,he,e1,Bool.false_and]
  .simp only[jo,he,e1,e2,Bool.true_and]
theorem jcl(t:T)(hw:KC t)(hs:tsz t<=1048576):G 102 [tm t]=some (vb (zM t),[]):=by
 unfold zM;by_cases he:t.name=[61]
 .rw [if_pos he];exact jbc t hw hs he
 .have e0:=Jr t;rw[decide_eq_false he]at e0;have e1:=jaQ t.name ((kS t).1 hw).1;have e2:=jcm t hw hs;rw[if_neg he,jt8];cases h:qf t.name<;>rw[h]at e1
  .simp only[jo,e0,e1,Bool.false_and]
  .simp only[jo,e0,e1,e2,Bool.true_and]
abbrev cm(c:jP):A:= .agg [.sl 3 (c.map jD)]
def yf(c:jP):Bool:=c.all (λl=>zM l.2) && (jgb c && decide (c.length<=8))
theorem jjX{t:T}(h:zM t=true):Rx' t:=by
 unfold zM at h;by_cases he:t.name=[61]
 .rw [if_pos he]at h;unfold jgq at h;rw[Bool.and_eq_true,decide_eq_true_eq,Bool.and_eq_true,Bool.and_eq_true]at h;refine Or.inr ⟨he,λu hu=>?_⟩;obtain⟨n,us⟩:=t
  match us,h.1 with
  | [a,b],_=>
   have hu:u ∈ [a,b]:=hu;simp only[List.mem_cons,List.not_mem_nil,or_false]at hu;rcases hu with rfl|rfl
   .exact h.2.2.1
   .exact h.2.2.2
 .rw [if_neg he,Bool.and_eq_true]at h;have h2:=h.2;unfold zH at h2;rw[Bool.and_eq_true]at h2;exact Or.inl h2.2
theorem Qj(l:Lt)(hz:Tz l.2):G 82 [ltm l]=some (vb (zM l.2),[]):=by
 have e:=jcl l.2 hz.wf hz;rw[g82];simp only[jo,e]
def KX:Option Lt->jP->Bool
 |_,[]=>true
 |none,l::r=>zM l.2 && KX (some l) r
 |some p,l::r=>zM l.2 && (decide (cmpL p l<0) && KX (some l) r)
theorem jeB:∀(p:Lt)(c:jP),KX (some p) c=(c.all (λl=>zM l.2) && jgb (p::c))
 |p,[]=>rfl
 |p,l::r=>by
  rw[KX,jeB l r,List.all_cons,jgb];cases zM l.2<;>cases decide (cmpL p l<0)<;>simp
theorem jeA(c:jP):(KX none c && decide (c.length<=8))=yf c:=by
 unfold yf;cases c with
 |nil=>rfl
 |cons l r=>rw[KX,jeB,List.all_cons];cases zM l.2<;>simp[Bool.and_assoc]
theorem Kq(l:Lt):jL 3 (.elt (jD l) 0)=some (ltm l):=rfl
theorem jhV(c:jP)(hl:c.length<=1048576)(hz:∀l∈c,Tz l.2):∀i,i<=c.length-> ∀p:Option Lt,(p=none↔i=0)->(∀q,p=some q->zM q.2=true/\ ∃h:i-1<c.length,c[i-1]=q)->
  jjK (.sl 3 (c.map jD)) (vi (c.length:Nat)) (vi (i:Nat)) (.sl 3 (c.map jD))=some (vb (KX p (c.drop i) && decide (c.length<=8)),[]):=by
 refine upto ?_ ?_
 .intro p _ _;have e:decide (((c.length:Nat):Int)<=8)=decide (c.length<=8):=by congr 1;exact propext (by omega)
  rw[jrk,List.drop_length,<-e];have:KX p []=true:=by cases p<;>rfl
  rw[this];simp only[jo,Bool.true_and]
 .intro i hi ih p hp hq;have hlt:(i:Int)<((c.length:Nat):Int):=by omega
  have h5:=js hi (by show c.length<=9223372036854775807;omega)
  have e1:=Qj c[i] (hz _ (List.getElem_mem hi));have ix:=jb (k:=3) (f:=jD) hi;have e1:G 82 [.agg [vb c[i].1,sv c[i].2.name,jW c[i].2.args]]=some (vb (zM c[i].2),[]):=e1;rw[jrk,jr hi];cases ha:zM c[i].2 with
  |false=>
   rw[ha]at e1;have:KX p (c[i]::c.drop (i+1))=false:=by cases p<;>rw[KX,ha]<;>rfl
   rw[this];simp only[jo,hlt,ix,Kq,e1,Bool.false_and]
  |true=>
   rw[ha]at e1;have ih1:=ih (some c[i]) (by simp) (λq hq=>by cases hq;exact⟨ha,by simpa using hi,rfl⟩);cases p with
   |none=>
    have h0:i=0:=hp.1 rfl;have hg:¬(0:Int)<(i:Int):=by omega
    rw[KX,ha,Bool.true_and,<-ih1];simp only[jo,hlt,ix,Kq,e1,hg,h5]
   |some q=>
    obtain⟨hqa,hq1,hq2⟩:=hq q rfl;have hi0:¬i=0:=λh=>by have:=hp.2 h;cases this
    have hg:(0:Int)<(i:Int):=by omega
    have c1:ck ((i:Int)-1)=some (vi ((i-1:Nat):Int)):=by rw[show(i:Int)-1=((i-1:Nat):Int) by omega,k9 (by omega) (by omega)]
    have ix2:=jb (k:=3) (f:=jD) hq1;rw[hq2]at ix2;have hqz:Tz q.2:=by rw[<-hq2];exact hz _ (List.getElem_mem hq1)
    have e2:=Yh q c[i] (jjX hqa) hqz (jjX ha) (hz _ (List.getElem_mem hi));have e2:G 83 [.agg [vb q.1,sv q.2.name,jW q.2.args],.agg [vb c[i].1,sv c[i].2.name,jW c[i].2.args]]=some (vi (cmpL q c[i]),[]):=e2;rw[KX,ha,Bool.true_and];by_cases hc:cmpL q c[i]<0
    .have hc':¬(0:Int)<=cmpL q c[i]:=by omega
     rw[decide_eq_true hc,Bool.true_and,<-ih1];generalize cmpL q c[i]=d at *;simp only[jo,hlt,ix,Kq,e1,hg,c1,ix2,e2,hc',h5]
    .have hc':(0:Int)<=cmpL q c[i]:=by omega
     rw[decide_eq_false hc];generalize cmpL q c[i]=d at *;simp only[jo,hlt,ix,Kq,e1,hg,c1,ix2,e2,hc',Bool.false_and]
theorem jaa(c:jP)(hl:c.length<=1048576)(hz:∀l∈c,Tz l.2):G 63 [cm c]=some (vb (yf c),[]):=by
 have key:=jhV c hl hz 0 (Nat.zero_le _) none (by simp) (λq h=>by cases h);rw[List.drop_zero,jeA]at key;simp only[Int.natCast_zero]at key;rw[g63];simp only[jo,key]
theorem jhW(c:jP)(hl:c.length<=1048576)(hz:∀l∈c,Tz l.2):∀i,i<=c.length-> ∀p:Option Lt,(p=none↔i=0)->(∀q,p=some q-> ∃h:i-1<c.length,c[i-1]=q)->
  jjA (vi (i:Nat)) (.sl 3 (c.map jD))=some (vb (KX p (c.drop i)),[]):=by
 refine upto ?_ ?_
 .intro p _ _;rw[jq6,List.drop_length];have:KX p []=true:=by cases p<;>rfl
  rw[this];simp only[jo]
 .intro i hi ih p hp hq;have hlt:(i:Int)<((c.length:Nat):Int):=by omega
  have h5:=js hi (by show c.length<=9223372036854775807;omega)
  have e1:=jln c[i].2 (hz _ (List.getElem_mem hi)).wf (hz _ (List.getElem_mem hi));have ix:=jb (k:=3) (f:=jD) hi;have ad:kQ (.elt (jD c[i]) 0) 1=some (.elt (jD c[i]) 1):=rfl;have ld:jL 2 (.elt (jD c[i]) 1)=some (tm c[i].2):=rfl;rw[jq6,jr hi];cases ha:zM c[i].2 with
  |false=>
   rw[ha]at e1;have:KX p (c[i]::c.drop (i+1))=false:=by cases p<;>rw[KX,ha]<;>rfl
   rw[this];simp only[jo,hlt,ix,ad,ld,e1]
  |true=>
   rw[ha]at e1;have ih1:=ih (some c[i]) (by simp) (λq hq=>by cases hq;exact⟨by simpa using hi,rfl⟩);cases p with
   |none=>
    have h0:i=0:=hp.1 rfl;have hg:¬(0:Int)<(i:Int):=by omega
    rw[KX,ha,Bool.true_and,<-ih1];simp only[jo,hlt,ix,ad,ld,e1,hg,h5]
   |some q=>
    obtain⟨hq1,hq2⟩:=hq q rfl;have hi0:¬i=0:=λh=>by have:=hp.2 h;cases this
    have hg:(0:Int)<(i:Int):=by omega
    have c1:ck ((i:Int)-1)=some (vi ((i-1:Nat):Int)):=by rw[show(i:Int)-1=((i-1:Nat):Int) by omega,k9 (by omega) (by omega)]
    have ix2:=jb (k:=3) (f:=jD) hq1;rw[hq2]at ix2;have hqz:Tz q.2:=by rw[<-hq2];exact hz _ (List.getElem_mem hq1)
    have e2:=jdz q c[i] hqz (hz _ (List.getElem_mem hi));rw[KX,ha,Bool.true_and];by_cases hc:cmpL q c[i]<0
    .have hc':¬(0:Int)<=cmpL q c[i]:=by omega
     rw[decide_eq_true hc,Bool.true_and,<-ih1];generalize cmpL q c[i]=d at *;simp only[jo,hlt,ix,ad,ld,Kq,e1,hg,c1,ix2,e2,hc',h5]
    .have hc':(0:Int)<=cmpL q c[i]:=by omega
     rw[decide_eq_false hc];generalize cmpL q c[i]=d at *;simp only[jo,hlt,ix,ad,ld,Kq,e1,hg,c1,ix2,e2,hc',Bool.false_and]
theorem jlr(c:jP)(hl:c.length<=1048576)(hz:∀l∈c,Tz l.2):G 32 [cm c]=some (vb (yf c),[]):=by
 have key:=jhW c hl hz 0 (Nat.zero_le _) none (by simp) (λq h=>by cases h);rw[List.drop_zero]at key;simp only[Int.natCast_zero]at key;rw[g32,<-jeA];by_cases h8:c.length<=8
 .have h8':¬(8:Int)<((c.length:Nat):Int):=by omega
  rw[decide_eq_true h8,Bool.and_true];simp only[jo,h8',key]
 .have h8':(8:Int)<((c.length:Nat):Int):=by omega
  rw[decide_eq_false h8,Bool.and_false];simp only[jo,h8']
theorem js4(l:Xa)(n:Xb):(vnA l n).length<=l.length+1:=by
 unfold vnA;split
 .omega
 .simp
theorem jrF{n:Nat}(h:n<=4194304):zo n 16=true:=by
 unfold zo;exact decide_eq_true ⟨by omega,by omega⟩
theorem Qx:∀(t:T)(l:Xa),(qb l t).length<=l.length+nodes t:=by
 refine T.ind λt ih l=>?_;have hn:=j6 t;rw[jfv];split
 .have:=js4 l t.name;omega
 .have key:∀us:Xg,(∀u∈us,u∈t.args)-> ∀l:Xa,(Ko l us).length<=l.length+jE us:=by
   intro us;induction us with
   |nil=>intro _ l;simp[Ko,jE]
   |cons u us ih2=>
    intro hu l;have h1:=ih u (hu u (by simp)) l;have h2:=ih2 (λv hv=>hu v (by simp[hv])) (qb l u);rw[Ko,jE];omega
  have:=key t.args (λ_ h=>h) l;omega
theorem jiH:∀t:T,Tz t-> ∀l:Xa,l.length+nodes t<=4000000->jjv (tm t) (l.map cs)=some (.top,[.sl 1 ((qb l t).map cs)]):=by
 refine T.ind λt ih ht l hl=>?_;have hz:=ht;unfold Tz at hz;rw[kC]at hz;have hn:=j6 t;have e0:=Zf t.name (((kS t).1 ht.wf).1);have e1:=jpZ l t.name (by show l.length<=9223372036854775807;omega);have key:=upto (P:=λi=>∀l:Xa,l.length+jE (t.args.drop i)<=4000000->jbu (vi (i:Nat)) (sv t.name) (jW t.args) (l.map cs)=some (.top,[.sl 1 ((Ko l (t.args.drop i)).map cs)])) (n:=t.args.length) ?_ ?_ 0 (Nat.zero_le _);rotate_left
 .intro l _;rw[jff,List.drop_length];simp only[jo];rfl
 .intro i hi ihi l hl;have hlt:(i:Int)<((t.args.length:Nat):Int):=by omega
  have h5:=js hi (by show t.args.length<=9223372036854775807;omega)
  rw[jr hi,jE]at hl;have q:=ih t.args[i] (List.getElem_mem hi) (ht.args _ (List.getElem_mem hi)) l (by omega);have hln:=Qx t.args[i] l;have q2:=ihi (qb l t.args[i]) (by omega);rw[jff,jr hi,Ko];generalize qb l t.args[i]=l' at *;have hr:hR 1 (A.top,[.sl 1 (l'.map cs)]) 0=some (l'.map cs):=rfl;simp only[jo,hlt,jb hi,jp,q,hr,h5,q2]
 have e2:jbt (vi 0) (sv t.name) (jW t.args) (l.map cs)=some (.top,[.sl 1 ((Ko l t.args).map cs)]):=by
  have key:=key l (by rw[List.drop_zero];omega)
  rw[List.drop_zero]at key;have:jbt (vi 0) (sv t.name) (jW t.args) (l.map cs)=jbu (vi 0) (sv t.name) (jW t.args) (l.map cs):=by rw[jp0,jff]
  rw[this];exact key
 rw[jtQ,jfv];cases hv:jA t.name<;>rw[hv]at e0
 .rw [if_neg Bool.false_ne_true];simp only[jo,e0,e2]
 .rw [if_pos rfl];unfold vnA;cases hc:l.contains t.name<;>rw[hc]at e1
  .have f:zo (l.length+1) 16=true:=jrF (by omega);rw[if_neg Bool.false_ne_true,List.map_append];simp only[jo,e0,e1,f];rfl
  .rw [if_pos rfl];simp only[jo,e0,e1]
theorem jiJ(c:jP)(hl:c.length<=1000)(hz:∀l∈c,Tz l.2)(hs:∀l∈c,nodes l.2<=1000):G 57 [cm c]=some (.sl 1 ((zU c).map cs),[]):=by
 have key:=upto (P:=λi=>∀l:Xa,l.length<=1000*i->jfY (vi (i:Nat)) (.sl 3 (c.map jD)) (l.map cs)=some (.sl 1 (((c.drop i).foldl (λl x=>qb l x.2) l).map cs),[])) (n:=c.length) ?_ ?_ 0 (Nat.zero_le _)
 .have key:=key [] (by simp);rw[List.drop_zero]at key;have key:jfY (vi 0) (.sl 3 (c.map jD)) []=some (.sl 1 ((zU c).map cs),[]):=key;rw[g57];simp only[jo,key]
 .intro l _;rw[jrh,List.drop_length];simp only[jo];rfl
 .intro i hi ih l hll;have hlt:(i:Int)<((c.length:Nat):Int):=by omega
  have h5:=js hi (by show c.length<=9223372036854775807;omega)
  have ix:=jb (k:=3) (f:=jD) hi;have ad:kQ (.elt (jD c[i]) 0) 1=some (.elt (jD c[i]) 1):=rfl;have ld:jL 2 (.elt (jD c[i]) 1)=some (tm c[i].2):=rfl;have hn:=hs _ (List.getElem_mem hi);have q:=jiH c[i].2 (hz _ (List.getElem_mem hi)) l (by omega);have hol:=Qx c[i].2 l;have q2:=ih (qb l c[i].2) (by omega);rw[jrh,jr hi,List.foldl_cons];generalize qb l c[i].2=l' at *;have hr:hR 1 (A.top,[.sl 1 (l'.map cs)]) 0=some (l'.map cs):=rfl;simp only[jo,hlt,ix,ad,ld,q,hr,h5,q2]
theorem jgl:∀t:T,Rx' t->Tz t-> ∀l:Xa,l.length+nodes t<=4000000->jeH (sv t.name) (jW t.args) (l.map cs)=some (.top,[.sl 1 ((qb l t).map cs)]):=by
 refine T.ind λt ih hk ht l hl=>?_;have hz:=ht;unfold Tz at hz;rw[kC]at hz;have hn:=j6 t;have e0:=jab t (hk.imp id λh=>h.1);have e1:=ZZ l t.name (by show l.length<=9223372036854775807;omega);have key:=upto (P:=λi=>∀l:Xa,l.length+jE (t.args.drop i)<=4000000->YR (jW t.args) (vi (t.args.length:Nat)) (vi (i:Nat)) (l.map cs)=some (.top,[.sl 1 ((Ko l (t.args.drop i)).map cs)])) (n:=t.args.length) ?_ ?_ 0 (Nat.zero_le _);rotate_left
 .intro l _;rw[jcs,List.drop_length];simp only[jo];rfl
 .intro i hi ihi l hl;have hlt:(i:Int)<((t.args.length:Nat):Int):=by omega
  have h5:=js hi (by show t.args.length<=9223372036854775807;omega)
  rw[jr hi,jE]at hl;have q:=ih t.args[i] (List.getElem_mem hi) (hk.args _ (List.getElem_mem hi)) (ht.args _ (List.getElem_mem hi)) l (by omega);have hln:=Qx t.args[i] l;have q2:=ihi (qb l t.args[i]) (by omega);rw[jcs,jr hi,Ko];generalize qb l t.args[i]=l' at *;have hr:hR 1 (A.top,[.sl 1 (l'.map cs)]) 0=some (l'.map cs):=rfl;simp only[jo,hlt,jb hi,jp,q,hr,h5,q2]
 have e2:YQ (jW t.args) (vi (t.args.length:Nat)) (vi 0) (l.map cs)=some (.top,[.sl 1 ((Ko l t.args).map cs)]):=by
  have key:=key l (by rw[List.drop_zero];omega)
  rw[List.drop_zero]at key;have:∀n:A,YQ (jW t.args) n (vi 0) (l.map cs)=YR (jW t.args) n (vi 0) (l.map cs):=λn=>by rw[jnQ,jcs]
  rw[this];exact key
 rw[jsc,jfv];cases hv:jA t.name<;>rw[hv]at e0
 .rw [if_neg Bool.false_ne_true];by_cases hl0:((t.args.length:Nat):Int)=0
  .simp only[jo,hl0,e0];rw[hl0]at e2;exact e2
  .simp only[jo,hl0,e2]
 .have ha:t.args=[]:=by
   rcases hk with h|h
   .exact jdg h hv
   .rw [h.1]at hv;exact absurd hv (by decide)
  have hl0:((t.args.length:Nat):Int)=0:=by rw[ha];rfl
  rw[if_pos rfl];unfold vnA;cases hc:l.contains t.name<;>rw[hc]at e1
  .have f:zo (l.length+1) 16=true:=jrF (by omega);rw[if_neg Bool.false_ne_true,List.map_append];simp only[jo,hl0,e0,e1,f];rfl
  .rw [if_pos rfl];simp only[jo,hl0,e0,e1]
theorem jiN(c:jP)(hl:c.length<=1000)(hk:∀l∈c,Rx' l.2)(hz:∀l∈c,Tz l.2)(hs:∀l∈c,nodes l.2<=1000):G 84 [cm c]=some (.sl 1 ((zU c).map cs),[]):=by
 have key:=upto (P:=λi=>∀l:Xa,l.length<=1000*i->jf2 (.sl 3 (c.map jD)) (vi (c.length:Nat)) (vi (i:Nat)) (l.map cs)=some (.sl 1 (((c.drop i).foldl (λl x=>qb l x.2) l).map cs),[])) (n:=c.length) ?_ ?_ 0 (Nat.zero_le _)
 .have key:=key [] (by simp);rw[List.drop_zero]at key;have key:jf2 (.sl 3 (c.map jD)) (vi (c.length:Nat)) (vi 0) []=some (.sl 1 ((zU c).map cs),[]):=key;rw[g84];simp only[jo,key]
 .intro l _;rw[jrt,List.drop_length];simp only[jo];rfl
 .intro i hi ih l hll;have hlt:(i:Int)<((c.length:Nat):Int):=by omega
  have h5:=js hi (by show c.length<=9223372036854775807;omega)
  have ix:=jb (k:=3) (f:=jD) hi;have hn:=hs _ (List.getElem_mem hi);have q:=jgl c[i].2 (hk _ (List.getElem_mem hi)) (hz _ (List.getElem_mem hi)) l (by omega);have hol:=Qx c[i].2 l;have q2:=ih (qb l c[i].2) (by omega);rw[jrt,jr hi,List.foldl_cons];generalize qb l c[i].2=l' at *;have hr:hR 1 (A.top,[.sl 1 (l'.map cs)]) 0=some (l'.map cs):=rfl;simp only[jo,hlt,ix,Kq,q,hr,h5,q2]
abbrev Eqs:=List (T×T)
def jr7:jy->Bool
 | []=>true
 | [_]=>true
 |p::q::s=>Jz p.1 q.1 && jr7 (q::s)
noncomputable def JB(s:jy):Bool:=decide (s.length<=12) && (jr7 s && s.all λq=>jA q.1 && (zH q.2 && !dq q.2.name q.1))
def jqU(s u:jy):jy:=jiX (s.map (λq=>(q.1,sub u q.2))++u.filter λq=>(look s q.1).isNone)
def jge(x y:T):Xb×T:=if jA x.name=false\/(jA y.name=true/\Jz x.name y.name=true)then(y.name,x)else(x.name,y)
noncomputable def juN(s:jy)(l r:T)(rest:Eqs):Option (jy×Eqs):=
 if kO (sub s l)=false\/kO (sub s r)=false then none
 else if dq (sub s l) (sub s r)then some (s,rest)
 else if jA (sub s l).name=true\/jA (sub s r).name=true then
  (if(jge (sub s l) (sub s r)).1∈jdh (jge (sub s l) (sub s r)).2\/JB [jge (sub s l) (sub s r)]=false\/JB (jqU s [jge (sub s l) (sub s r)])=false then none else some (jqU s [jge (sub s l) (sub s r)],rest))
 else if(sub s l).name=(sub s r).name/\(sub s l).args.length=(sub s r).args.length then some (s,(sub s l).args.zip (sub s r).args++rest)else none
noncomputable def jrT:Nat->jy->Eqs->Option (Option jy)
 |_,s,[]=>some (some s)
 |0,_,_::_=>none
 |k+1,s,p::rest=>(match juN s p.1 p.2 rest with|none=>some none|some q=>jrT k q.1 q.2)
def Exx(t:T):Prop:=(yH t=true\/(t.name=[61]/\t.args.length=2/\ ∀u∈t.args,yH u=true))/\nodes t<=31
def IdS(s:jy):Prop:=∀q∈s,∀x∈jdh q.2,look s x=none
def jxn(s:jy)(es:Eqs):Prop:=JB s=true/\IdS s/\ ∀p∈es,Exx p.1/\Exx p.2
theorem KE{s:jy}(h:JB s=true):s.length<=12/\jr7 s=true/\ ∀q∈s,jA q.1=true/\zH q.2=true/\q.2.name≠q.1:=by
 unfold JB at h;rw[Bool.and_eq_true,decide_eq_true_eq,Bool.and_eq_true,List.all_eq_true]at h;refine⟨h.1,h.2.1,λq hq=>?_⟩;have:=h.2.2 q hq;rw[Bool.and_eq_true,Bool.and_eq_true,Bool.not_eq_true']at this;exact⟨this.1,this.2.1,λe=>by rw[e,Y7]at this;exact absurd this.2.2 (by decide)⟩
theorem jax{t:T}(h:zH t=true):yH t=true:=by
 unfold zH at h;rw[Bool.and_eq_true]at h;exact h.2
def mz(s:jy):Eqs->Nat
 | []=>0
 |p::r=>nodes (sub s p.1)+nodes (sub s p.2)+mz s r
theorem Exx.sub{s:jy}(hs:JB s=true){t:T}(h:Exx t):yH (sub s t)=true\/((sub s t).name=[61]/\(sub s t).args.length=2/\ ∀u∈(sub s t).args,yH u=true):=by
 obtain⟨_,_,hv⟩:=KE hs;have ho:∀q∈s,yH q.2=true:=λq hq=>(jax (hv q hq).2.1);rcases h.1 with h|⟨h1,h2,h3⟩
 .exact Or.inl (jas ho t h)
 .have hvn:jA t.name=false:=by rw[h1];decide
  right;rw[jbG hvn];refine⟨h1,by show(t.args.map _).length=2;rw[List.length_map,h2],λu hu=>?_⟩;obtain⟨a,ha,rfl⟩:=List.mem_map.1 hu;exact jas ho a (h3 a ha)
theorem jhH{t:T}(h:kO t=true):nodes t<=30:=by
 simp only[kO,Bool.and_eq_true,decide_eq_true_eq]at h;exact h.1
def Bx(t:T):Prop:=(t.name=[61]/\t.args.length=2/\ ∀u∈t.args,yH u=true)\/(qf t.name=true/\yH t=true)
theorem Bx.rx{t:T}(h:Bx t):Rx' t:=h.elim (λh=>Or.inr ⟨h.1,h.2.2⟩) λh=>Or.inl h.2
theorem Bx.ax{t:T}(h:Bx t):yH t=true\/(t.name=[61]/\t.args.length=2/\ ∀u∈t.args,yH u=true):=h.elim Or.inr λh=>Or.inl h.2
theorem Bx.args{t:T}(h:Bx t):∀u∈t.args,yH u=true:=h.elim (λh=>h.2.2) λh=>qM h.2
theorem jo3{n:Xb}(h:qf n=true):jA n=false:=by
 cases hv:jA n with
 |false=>rfl
 |true=>rw[jjk hv]at h;cases h
theorem Bx.nv{t:T}(h:Bx t):jA t.name=false:=h.elim (λh=>by rw[h.1];decide) λh=>jo3 h.1
theorem jty{t:T}(h:t.args.length=2):t.args=[jeW t,jib t]:=by
 obtain⟨n,us⟩:=t
 match us,h with
 | [a,b],_=>rfl
theorem K2{t:T} :zM t=true↔Bx t/\kO t=true:=by
 unfold zM Bx;by_cases he:t.name=[61]
 .rw [if_pos he];unfold jgq;rw[Bool.and_eq_true,Bool.and_eq_true,Bool.and_eq_true,decide_eq_true_eq];constructor
  .rintro ⟨h1,h2,h3,h4⟩;refine⟨Or.inl ⟨he,h1,λu hu=>?_⟩,h2⟩;rw[jty h1]at hu;simp only[List.mem_cons,List.not_mem_nil,or_false]at hu;rcases hu with rfl|rfl
   .exact h3
   .exact h4
  .rintro ⟨h|h,h2⟩
   .obtain ⟨_,_,ma,mb⟩:=Q1 h.2.1;exact⟨h.2.1,h2,h.2.2 _ ma,h.2.2 _ mb⟩
   .rw [he]at h;exact absurd h.1 (by decide)
 .rw [if_neg he];unfold zH;rw[Bool.and_eq_true,Bool.and_eq_true];constructor
  .rintro ⟨h1,h2,h3⟩;exact⟨Or.inr ⟨h1,h3⟩,h2⟩
  .rintro ⟨h|h,h2⟩
   .exact absurd h.1 he
   .exact ⟨h.1,h2,h.2⟩
theorem Bx.atom{t:T}(h:Bx t):zM t=kO t:=by
 cases hs:kO t with
 |true=>exact K2.2 ⟨h,hs⟩
 |false=>
  cases ha:zM t with
  |false=>rfl
  |true=>rw[(K2.1 ha).2]at hs;cases hs
theorem Bx.tsz{t:T}(h:Bx t):tsz t<=10*nodes t:=by
 rcases h with h|h
 .rw [kC,j6,h.1,h.2.1];have:=jkC h.2.2;simp only[List.length_cons,List.length_nil];omega
 .exact jcF t h.2
theorem Bx.tz{t:T}(h:Bx t)(hn:nodes t<=100000):Tz t:=by have:=h.tsz;unfold Tz;omega
theorem Bx.sub{s:jy}(hs:JB s=true){t:T}(h:Bx t):Bx (sub s t):=by
 obtain⟨_,_,hv⟩:=KE hs;have ho:∀q∈s,yH q.2=true:=λq hq=>jax (hv q hq).2.1;have hn:=h.nv;rcases h with h|h
 .left;rw[jc7 hn,jhL hn,List.length_map];refine⟨h.1,h.2.1,λu hu=>?_⟩;obtain⟨a,ha,rfl⟩:=List.mem_map.1 hu;exact jas ho a (h.2.2 a ha)
 .right;rw[jc7 hn];exact⟨h.1,jas ho t h.2⟩
theorem jeC{s:jy}(hs:JB s=true):∀q∈s,yH q.2=true:=λq hq=>jax ((KE hs).2.2 q hq).2.1
mutual
theorem jeh(f:Xb->Xb):∀t:T,nodes (zW f t)<=nodes t
 |.mk n us=>by
  rw[zW];split
  .have:=jlF (.mk n us);show 1+0<=_;omega
  .have:=jcZ f us;simp only[nodes];omega
theorem jcZ(f:Xb->Xb):∀ts:Xg,jE (kR f ts)<=jE ts
 | []=>Nat.le_refl _
 |t::ts=>by have:=jeh f t;have:=jcZ f ts;simp only[kR,jE];omega
end
mutual
theorem jqn(f:Xb->Xb):∀t:T,Yj (zW f t)<=Yj t
 |.mk n us=>by
  rw[zW];split
  .rw [jb2 (.mk n us)];show 1+0<=_;omega
  .have:=jhv f us;simp only[Yj];omega
theorem jhv(f:Xb->Xb):∀ts:Xg,K6 (kR f ts)<=K6 ts
 | []=>Nat.le_refl _
 |t::ts=>by have:=jqn f t;have:=jhv f ts;simp only[kR,K6];omega
end
theorem jcY{f:Xb->Xb}{t:T}(h:jA t.name=false):(zW f t).name=t.name:=by rw[jfC,h,if_neg Bool.false_ne_true];rfl
theorem jhu{f:Xb->Xb}{t:T}(h:jA t.name=false):(zW f t).args=t.args.map (zW f):=by rw[jfC,h,if_neg Bool.false_ne_true];rfl
theorem joM{f:Xb->Xb}(hf:∀n,jA n=true->jA (f n)=true):∀t:T,yH t=true->yH (zW f t)=true:=by
 refine T.ind λt ih h=>?_;cases hv:jA t.name with
 |true=>rw[jfC,hv,if_pos rfl];exact jod _ (hf _ hv)
 |false=>
  have hk:=h;rw[qN,hv,if_neg Bool.false_ne_true,Bool.and_eq_true,Bool.and_eq_true,decide_eq_true_eq]at h;rw[qN,jcY hv,jhu hv,hv,if_neg Bool.false_ne_true,Bool.and_eq_true,Bool.and_eq_true,decide_eq_true_eq,List.length_map,JX,List.all_eq_true];refine⟨h.1,h.2.1,λu hu=>?_⟩;obtain⟨a,ha,rfl⟩:=List.mem_map.1 hu;exact ih a ha (qM hk a ha)
theorem Bx.ren{f:Xb->Xb}(hf:∀n,jA n=true->jA (f n)=true){t:T}(h:Bx t):Bx (zW f t):=by
 have hn:=h.nv;rcases h with h|h
 .left;rw[jcY hn,jhu hn,List.length_map];refine⟨h.1,h.2.1,λu hu=>?_⟩;obtain⟨a,ha,rfl⟩:=List.mem_map.1 hu;exact joM hf a (h.2.2 a ha)
 .right;rw[jcY hn];exact⟨h.1,joM hf t h.2⟩
theorem Q6:∀d:Nat,d<10->zX (UInt8.ofNat (48+d))=true:=by decide
theorem K7{u:Nat}(h:u<10):Lib.decDigits u=[UInt8.ofNat (48+u)]:=Lib.decDigits_one h
theorem jb3{u:Nat}(h:¬u<10):Lib.decDigits u=Lib.decDigits (u / 10)++[UInt8.ofNat (48+u % 10)]:=by rw[Lib.decDigits,dif_neg h]
theorem ql:∀(k u:Nat),u<10 ^ (k+1)->(Lib.decDigits u).all zX=true/\(Lib.decDigits u).length<=k+1
 |0,u,h=>by rw[K7 (by omega)];exact⟨by rw[List.all_cons,Q6 u (by omega),List.all_nil];rfl,by simp⟩
 |k+1,u,h=>by
  by_cases hu:u<10
  .rw [K7 hu];exact⟨by rw[List.all_cons,Q6 u hu,List.all_nil];rfl,by simp⟩
  .obtain ⟨h1,h2⟩:=ql k (u / 10) (by rw[Nat.pow_succ]at h;omega)
   rw[jb3 hu,List.all_append,h1,List.length_append];exact⟨by rw[List.all_cons,Q6 (u % 10) (by omega),List.all_nil];rfl,by simp only[List.length_cons,List.length_nil];omega⟩
theorem job{p:UInt8}(hp:upc p=true){i:Nat}(hi:i<1000):jA (jfr p i)=true:=by
 obtain⟨h1,h2⟩:=ql 2 i (by omega);show(upc p && ((Lib.decDigits i).all zX && decide ((Lib.decDigits i).length<=3)))=true;rw[hp,h1,decide_eq_true (by omega)];rfl
theorem jqJ{l:Xa}{n x:Xb} :x∈vnA l n↔x∈l\/x=n:=by
 unfold vnA;split
 .rename_i h;rw[List.contains_iff_mem]at h;exact⟨Or.inl,λh'=>h'.elim id λe=>e ▸ h⟩
 .simp
theorem jms{l:Xa}{n:Xb}(h:l.Nodup):(vnA l n).Nodup:=by
 unfold vnA;split
 .exact h
 .rename_i hc;rw[List.contains_iff_mem]at hc;refine List.nodup_append.2 ⟨h,by simp,λa ha b hb=>?_⟩;simp only[List.mem_singleton]at hb;rintro rfl;exact hc (hb ▸ ha)
mutual
theorem joj:∀(t:T)(l:Xa)(x:Xb),x∈qb l t↔x∈l\/x∈jdh t
 |.mk n us,l,x=>by
  rw[qb,jdh];split
  .rw [jqJ];simp
  .exact jhc us l x
theorem jhc:∀(ts:Xg)(l:Xa)(x:Xb),x∈Ko l ts↔x∈l\/x∈jdi ts
 | [],l,x=>by simp[Ko,jdi]
 |t::ts,l,x=>by rw[Ko,jdi,jhc ts,joj t,List.mem_append,or_assoc]
end
mutual
theorem jiQ:∀(t:T){l:Xa},l.Nodup->(qb l t).Nodup
 |.mk n us,l,h=>by
  rw[qb];split
  .exact jms h
  .exact jcG us h
theorem jcG:∀(ts:Xg){l:Xa},l.Nodup->(Ko l ts).Nodup
 | [],l,h=>h
 |t::ts,l,h=>by rw[Ko];exact jcG ts (jiQ t h)
end
def CN(c:jP):Prop:=c.length<=8/\ ∀l∈c,Bx l.2/\nodes l.2<=30
theorem Yy{c:jP}(h:CN c):(zU c).length<=240:=by
 have:∀(c:jP)(l:Xa),(∀y∈c,nodes y.2<=30)->(c.foldl (λl x=>qb l x.2) l).length<=l.length+30*c.length:=by
  intro c;induction c with
  |nil=>intro l _;simp
  |cons y c ih=>
   intro l h;have h1:=Qx y.2 l;have h2:=h y (by simp);have h3:=ih (qb l y.2) λz hz=>h z (by simp[hz]);rw[List.foldl_cons,List.length_cons];omega
 have h2:=this c [] λy hy=>(h.2 y hy).2;have h3:=h.1;rw[List.length_nil]at h2;unfold zU;omega
theorem jk5{p:UInt8}(hp:upc p=true){l:Xa}(hl:l.length<=1000){n:Xb}(hn:jA n=true):jA (jaF p l n)=true:=by
 unfold jaF;split
 .rename_i i h;have:=(List.findIdx?_eq_some_iff_getElem.1 h).1;exact job hp (by omega)
 .exact hn
theorem jnG{α:Type}(c:α->α->Int)(l:List α)(x:α):(jdt c l x).length<=l.length+1:=by
 unfold jdt;split
 .omega
 .have:=congrArg List.length (List.takeWhile_append_dropWhile (p:=λa=>decide (c a x<0)) (l:=l));rw[List.length_append]at this;rw[List.length_append,List.length_cons];omega
theorem jlA{α:Type}(c:α->α->Int)(l:List α):(Z9 c l).length<=l.length:=by
 have:∀(l m:List α),(l.foldl (jdt c) m).length<=m.length+l.length:=by
  intro l;induction l with
  |nil=>intro m;simp
  |cons x l ih=>
   intro m;have h1:=jnG c m x;have h2:=ih (jdt c m x);rw[List.foldl_cons,List.length_cons];omega
 have:=this l [];simpa[Z9]using this
theorem jlB{l:jP}{x:Lt} :x∈Z9 cmpL l↔x∈l:=(jlz jgk l).2 x
theorem CN.make{l:jP}(hl:l.length<=8)(h:∀x∈l,Bx x.2/\nodes x.2<=30):CN (Z9 cmpL l):=⟨by have:=jlA cmpL l;omega,λx hx=>h x (jlB.1 hx)⟩
theorem CN.ren{p:UInt8}(hp:upc p=true){c:jP}(h:CN c):∀x∈c.map (λl=>(l.1,zW (jaF p (zU c)) l.2)),Bx x.2/\nodes x.2<=30:=by
 intro x hx;obtain⟨l,hl,rfl⟩:=List.mem_map.1 hx;have hn:=Yy h;have:=jeh (jaF p (zU c)) l.2;have:=(h.2 l hl).2;exact⟨(h.2 l hl).1.ren λn hn=>jk5 hp (by omega) hn,by show nodes (zW (jaF p (zU c)) l.2)<=30;omega⟩
theorem CN.renC{p:UInt8}(hp:upc p=true){c:jP}(h:CN c):CN (renC p c):=CN.make (by rw[List.length_map];exact h.1) (h.ren hp)
theorem CN.normF:∀(k:Nat){c:jP},CN c->CN (normF k c)
 |0,c,h=>h
 |k+1,c,h=>by
  rw[Go.Proofs.YtcmflcpoohgmmaaGreatDoor.normF];split
  .exact h
  .exact CN.normF k (CN.renC (by decide) h)
theorem CN.normC{c:jP}(h:CN c):CN (normC c):=CN.normF 10 h
theorem zq{c:jP}(h:yf c=true):CN c/\Asc cmpL c/\(∀l∈c,zM l.2=true):=by
 unfold yf at h;rw[Bool.and_eq_true,Bool.and_eq_true,List.all_eq_true,decide_eq_true_eq,jgc]at h;exact⟨⟨h.2.2,λl hl=>⟨(K2.1 (h.1 l hl)).1,jhH (K2.1 (h.1 l hl)).2⟩⟩,h.2.1,h.1⟩
theorem CN.tz{c:jP}(h:CN c):∀l∈c,Tz l.2:=λl hl=>(h.2 l hl).1.tz (by have:=(h.2 l hl).2;omega)
theorem CN.rx{c:jP}(h:CN c):∀l∈c,Rx' l.2:=λl hl=>(h.2 l hl).1.rx
theorem Rx'.va{t:T}(h:Rx' t)(hv:jA t.name=true):t.args=[]:=h.elim (λh=>jdg h hv) λh=>by rw[h.1]at hv;exact absurd hv (by decide)
def jvC(d:jP):jP:=d.map λl=>(l.1,zW (jaF 89 (zU d)) l.2)
def jN(c:jP):Bool:=yf c && ZG c
theorem kE{c:jP}(h:jN c=true):CN c/\Asc cmpL c/\yf c=true/\ZG c=true:=by
 unfold jN at h;rw[Bool.and_eq_true]at h;exact⟨(zq h.1).1,(zq h.1).2.1,h.1,h.2⟩
open Classical in
noncomputable def jwM(a b:T):Option jy:=if h:∃r k,jrT k [] [(a,b)]=some r then h.choose else none
noncomputable def jr6(s:jy)(l:jP):Option jP:=if(l.all λx=>kO (sub s x.2)) && yf (Z9 cmpL (l.map λx=>(x.1,sub s x.2)))then some (Z9 cmpL (l.map λx=>(x.1,sub s x.2)))else none
noncomputable def jwB(s:jy)(l:jP):Option jP:=(jr6 s l).bind λc=>if jN (normC c)then some (normC c)else none
abbrev cz:A:= .agg [.sl 3 []]
def jsH(o:Option jP):Xe:=match o with|some c=>some (.tup [cm c,vb true],[])|none=>some (.tup [cz,vb false],[])
def atI:Xi->T->Option T
 | [],t=>some t
 |i::p,t=>if 0<=i/\i<(t.args.length:Int)then atI p (t.args.getD i.toNat (.mk [] []))else none
def EXB(t:T):Prop:=EX false t/\Bx t
open Go Go.RowKit Go.Proofs.YtcmflcpoohgmmaaGreatDoor.Abs Go.Sort
section
variable{α:Type}{c:α->α->Int}
end
theorem jrO:∀d:Nat,d<10->Kr (sv [48,49,50,51,52,53,54,55,56,57]) (some (vi (d:Nat))) (some (vi ((d+1:Nat):Int)))=some (sv [UInt8.ofNat (48+d)])
 |0,_=>rfl|1,_=>rfl|2,_=>rfl|3,_=>rfl|4,_=>rfl|5,_=>rfl|6,_=>rfl|7,_=>rfl|8,_=>rfl|9,_=>rfl
theorem jnW:∀n:Nat,n<=1000000->G 58 [vi (n:Nat)]=some (sv (Lib.decDigits n),[]):=by
 intro n;induction n using Nat.strongRecOn with
 |ind n ih=>
  intro hn;have h0:¬((n:Nat):Int)<0:=by omega
  rw[g58];by_cases h:n<10
  .have h1:((n:Nat):Int)<10:=by omega
   have h2:ck ((n:Int)+1)=some (vi ((n+1:Nat):Int)):=k9 (by omega) (by omega);have h3:=jrO n h;rw[K7 h];simp only[jo,h0,h1,h2,h3]
  .have h1:¬((n:Nat):Int)<10:=by omega
   have hq:jz .quo false (vi (n:Nat)) (vi 10)=some (vi ((n / 10:Nat):Int)):=by
    show ck (((n:Nat):Int).tdiv 10)=_;rw[Int.tdiv_eq_ediv_of_nonneg (by omega)];exact k9 (by omega) (by omega)
   have hr:jz .rem false (vi (n:Nat)) (vi 10)=some (vi ((n % 10:Nat):Int)):=by
    show some (vi (((n:Nat):Int).tmod 10))=_;rw[Int.tmod_eq_emod_of_nonneg (by omega)];rfl
   have h2:ck (((n % 10:Nat):Int)+1)=some (vi ((n % 10+1:Nat):Int)):=k9 (by omega) (by omega);have h3:=jrO (n % 10) (by omega);have h4:=ih (n / 10) (by omega) (by omega);have hl:(Lib.decDigits (n / 10)).length + [UInt8.ofNat (48+n % 10)].length<=9223372036854775807:=by
    have:=(ql 6 (n / 10) (by omega)).2;simp only[List.length_cons,List.length_nil];omega
   have h5:=ZJ false (Lib.decDigits (n / 10)) [UInt8.ofNat (48+n % 10)];rw[if_pos hl]at h5;rw[jb3 h];simp only[jo,h0,h1,hq,hr,h2,h3,h4,h5]
theorem jpQ(n:Nat)(hn:n<=1000000):G 85 [vi (n:Nat)]=some (sv (Lib.decDigits n),[]):=by
 have:K.ext 85=some jkg:=rfl;rw[jti this];show(if -9223372036854775808<=((n:Nat):Int)/\((n:Nat):Int)<=9223372036854775807 then some (sv (Lib.itoa (n:Nat)),[])else none)=_;rw[if_pos (by omega)];unfold Lib.itoa;rw[if_neg (by omega),Int.toNat_natCast]
def Zj:Nat->Xa->Bool
 |_,[]=>true
 |i,n::r=>decide (n=jfr 88 i) && Zj (i+1) r
theorem jg9:∀(l:Xa)(i:Nat),Zj i l=decide (l=(List.range' i l.length).map (jfr 88))
 | [],i=>by simp[Zj]
 |n::r,i=>by
  rw[Zj,jg9 r,List.length_cons,List.range'_succ,List.map_cons,<-Bool.decide_and];simp only[List.cons.injEq]
theorem jci(c:jP):ZG c=Zj 0 (zU c):=by
 rw[jg9,<-List.range_eq_range'];rfl
theorem juq(i:Nat)(h:i<=1000000):jz .add false (sv [88]) (sv (Lib.decDigits i))=some (sv (jfr 88 i)):=by
 rw[ZJ,if_pos]
 .rfl
 .have:=(ql 6 i (by omega)).2;simp only[List.length_cons,List.length_nil];omega
theorem jbb(c:jP)(h:CN c):G 64 [cm c]=some (vb (ZG c),[]):=by
 have hlen:=Yy h;have e0:=jiN c (by have:=h.1;omega) h.rx h.tz λl hl=>by have:=(h.2 l hl).2;omega
 rw[jci,g64];generalize zU c=ns at *;have key:=upto (P:=λi=>jjL (strs ns) (vi (ns.length:Nat)) (vi (i:Nat))=some (vb (Zj i (ns.drop i)),[])) (n:=ns.length) ?_ ?_ 0 (Nat.zero_le _)
 .simp only[Int.natCast_zero,List.drop_zero]at key;simp only[jo,e0,key]
 .rw [jrl,List.drop_length];simp only[jo,Zj]
 .intro i hi ih;have hlt:(i:Int)<((ns.length:Nat):Int):=by omega
  have h5:=js hi (by show ns.length<=9223372036854775807;omega)
  have e1:=jpQ i (by omega);have e2:=juq i (by omega);have ld:jZ (.elt (cs ns[i]) 0)=some (sv ns[i]):=rfl;rw[jrl,jr hi,Zj];by_cases hc:ns[i]=jfr 88 i
  .rw [decide_eq_true hc,Bool.true_and,<-ih];simp only[jo,hlt,jb hi,e1,e2,hc,h5]
  .rw [decide_eq_false hc,Bool.false_and];simp only[jo,hlt,jb hi,ld,e1,e2,hc]
theorem jdy(c:jP)(h:CN c):G 33 [cm c]=some (vb (ZG c),[]):=by
 have hlen:=Yy h;have e0:=jiJ c (by have:=h.1;omega) h.tz λl hl=>by have:=(h.2 l hl).2;omega
 rw[jci,g33];generalize zU c=ns at *;have key:=upto (P:=λi=>jjB (strs ns) (vi (i:Nat))=some (vb (Zj i (ns.drop i)),[])) (n:=ns.length) ?_ ?_ 0 (Nat.zero_le _)
 .simp only[Int.natCast_zero,List.drop_zero]at key;simp only[jo,e0,key]
 .rw [jq7,List.drop_length];simp only[jo,Zj]
 .intro i hi ih;have hlt:(i:Int)<((ns.length:Nat):Int):=by omega
  have h5:=js hi (by show ns.length<=9223372036854775807;omega)
  have e1:=jnW i (by omega);have e2:=juq i (by omega);have ld:jZ (.elt (cs ns[i]) 0)=some (sv ns[i]):=rfl;rw[jq7,jr hi,Zj];by_cases hc:ns[i]=jfr 88 i
  .rw [decide_eq_true hc,Bool.true_and,<-ih];simp only[jo,hlt,jb hi,e1,e2,hc,h5]
  .rw [decide_eq_false hc,Bool.false_and];simp only[jo,hlt,jb hi,ld,e1,e2,hc]
theorem jgF(c:jP)(hl:c.length<=1048576)(hz:∀l∈c,Tz l.2):G 40 [cm c]=some (vb (jN c),[]):=by
 have e1:=jaa c hl hz;unfold jN;rw[g40];cases hv:yf c<;>rw[hv]at e1
 .simp only[jo,e1,Bool.false_and]
 .have e2:=jbb c (zq hv).1;simp only[jo,e1,e2,Bool.true_and]
theorem jgR(c:jP)(hl:c.length<=1048576)(hz:∀l∈c,Tz l.2):G 14 [cm c]=some (vb (jN c),[]):=by
 have e1:=jlr c hl hz;unfold jN;rw[g14];cases hv:yf c<;>rw[hv]at e1
 .simp only[jo,e1,Bool.false_and]
 .have e2:=jdy c (zq hv).1;simp only[jo,e1,e2,Bool.true_and]
abbrev Nm':=List (Xb×Xb)
abbrev kn(p:Xb×Xb):Xd:=[sv p.1,sv p.2]
def jun:Nm'->Xb->Option Xb
 | [],_=>none
 |p::m,n=>if p.1=n then some p.2 else jun m n
def juz(p:UInt8):Nat->Xa->Nm'
 |_,[]=>[]
 |i,n::r=>(n,jfr p i)::juz p (i+1) r
theorem juu{n:Nat}(h:n<=1000000):zo n 48=true:=by
 unfold zo;exact decide_eq_true ⟨by omega,by omega⟩
theorem QS{α:Type}{f:α->Xd}{xs:List α}{i:Nat}(h:i<xs.length):Jw ((xs.take i).map f) [f xs[i]]=(xs.take (i+1)).map f:=by
 rw[List.take_add_one,List.getElem?_eq_getElem h,List.map_append];rfl
theorem take_len{α:Type}{f:α->Xd}{xs:List α}{i:Nat}(h:i<=xs.length):((xs.take i).map f).length=i:=by rw[List.length_map,List.length_take];omega
noncomputable def eqL(a b:Lt):Bool:=decide (a.1=b.1) && dq a.2 b.2
noncomputable def cpG:Lt->List Lt->List Lt
 |_,[]=>[]
 |p,b::l=>if eqL b p then cpG b l else b::cpG b l
noncomputable def sameC(a b:jP):Bool:=dq a b
def juU:Option Xb->jy->Bool
 |_,[]=>true
 |none,q::r=>jA q.1 && (zH q.2 && (!decide (q.2.name=q.1) && juU (some q.1) r))
 |some m,q::r=>Jz m q.1 && (jA q.1 && (zH q.2 && (!decide (q.2.name=q.1) && juU (some q.1) r)))
def okB(q:Xb×T):Bool:=jA q.1 && (zH q.2 && !decide (q.2.name=q.1))
def SzB(s:jy):Prop:=s.length<=1000000/\ ∀q∈s,q.1.length<=1000000/\Tz q.2
theorem SzB.sz{s:jy}(h:SzB s):Sz 1048576 s:=⟨by have:=h.1;omega,λq hq=>⟨by have:=(h.2 q hq).1;omega,(h.2 q hq).2⟩⟩
theorem joH{α:Type}{R:α->α->Prop}(irr:∀a,¬R a a)(asy:∀a b,R a b-> ¬R b a):∀{l m:List α},l.Pairwise R->m.Pairwise R->(∀x,x∈l↔x∈m)->l=m
 | [],[],_,_,_=>rfl
 | [],b::m,_,_,hx=>absurd ((hx b).2 (by simp)) (by simp)
 |a::l,[],_,_,hx=>absurd ((hx a).1 (by simp)) (by simp)
 |a::l,b::m,h1,h2,hx=>by
  obtain⟨g1,g2⟩:=List.pairwise_cons.1 h1;obtain⟨k1,k2⟩:=List.pairwise_cons.1 h2;have hab:a=b:=by
   rcases List.mem_cons.1 ((hx a).1 (by simp))with e|e
   .exact e
   rcases List.mem_cons.1 ((hx b).2 (by simp))with e'|e'
   .exact e'.symm
   .exact (asy _ _ (k1 a e) (g1 b e')).elim
  subst hab;have:l=m:=joH irr asy g2 k2 λx=>by
   constructor
   .intro hxl;rcases List.mem_cons.1 ((hx x).1 (by simp[hxl]))with e|e
    .exact (irr x (e ▸ g1 x hxl)).elim
    .exact e
   .intro hxm;rcases List.mem_cons.1 ((hx x).2 (by simp[hxm]))with e|e
    .exact (irr x (e ▸ k1 x hxm)).elim
    .exact e
  rw[this]
def outT(o:Option T):Xe:=match o with|some t=>some (.tup [tm t,vb true],[])|none=>some (.tup [.agg [sv [],.sl 2 []],vb false],[])
def AxT(t:T):Prop:=yH t=true\/(t.name=[61]/\t.args.length=2/\ ∀u∈t.args,yH u=true)
theorem AxT.rx{t:T}(h:AxT t):Rx' t:=h.elim Or.inl λh=>Or.inr ⟨h.1,h.2.2⟩
theorem AxT.tz{t:T}(h:AxT t)(hn:nodes t<=100000):Tz t:=by
 rcases h with h|h
 .have:=jcF t h;unfold Tz;omega
 .unfold Tz;rw[j6]at hn;rw[kC,h.1,h.2.1];have:=jkC h.2.2;simp only[List.length_cons,List.length_nil];omega
theorem AxT.sub{s:jy}(hs:JB s=true){t:T}(h:AxT t):AxT (sub s t):=by
 rcases h with h|h
 .exact Or.inl (jas (jeC hs) t h)
 .have hvn:jA t.name=false:=by rw[h.1];decide
  right;rw[jbG hvn];refine⟨h.1,by show(t.args.map _).length=2;rw[List.length_map,h.2.1],λu hu=>?_⟩;obtain⟨a,ha,rfl⟩:=List.mem_map.1 hu;exact jas (jeC hs) a (h.2.2 a ha)
abbrev LtB(p q:Xb×T):Prop:=Jz p.1 q.1=true
def jws(o:Option jy):Xe:=match o with|some s=>some (.tup [sb s,vb true],[])|none=>some (.tup [.agg [.sl 3 []],vb false],[])
def juf(l:jy):jy:=l.filter λp=> !decide (p.2.name=p.1)
def jw2(s u:jy):jy:=juf (s.map λq=>(q.1,sub u q.2))++u.filter λq=>(look s q.1).isNone
inductive Hgt(s:jy):Nat->Eqs->Prop
 |nil (r:Nat):Hgt s r []
 |blk (r τ δ:Nat) (b es:Eqs):9*τ+(8-δ)<r->τ<=s.length+1->δ<=8->b.length<=4->(τ=s.length+1-> ∀p∈b,sub s p.1=p.1/\sub s p.2=p.2/\Yj p.1<=δ/\Yj p.2<=δ)->Hgt s (9*τ+(8-δ)) es->Hgt s r (b++es)
theorem Hgt.len{s:jy}{r:Nat}{es:Eqs}(h:Hgt s r es):es.length<=4*r:=by
 induction h with
 |nil r=>exact Nat.zero_le _
 |blk r τ δ b es h1 _ _ h4 _ _ ih=>rw[List.length_append];omega
theorem Hgt.mono{s:jy}{r r':Nat}{es:Eqs}(h:Hgt s r es)(hr:r<=r'):Hgt s r' es:=by
 induction h with
 |nil=>exact Hgt.nil _
 |blk r τ δ b es h1 h2 h3 h4 h5 h6 _=>exact Hgt.blk r' τ δ b es (by omega) h2 h3 h4 h5 h6
theorem Hgt.grow{s s':jy}(hs:s.length<s'.length){r:Nat}{es:Eqs}(h:Hgt s r es):Hgt s' r es:=by
 induction h with
 |nil r=>exact Hgt.nil _
 |blk r τ δ b es h1 h2 h3 h4 h5 _ ih=>exact Hgt.blk r τ δ b es h1 (by omega) h3 h4 (λh=>by omega) ih
abbrev ec(p:T×T):Xd:=[sv p.1.name,jW p.1.args,sv p.2.name,jW p.2.args]
open Go Go.RowKit Go.ChangeShapes Go.Deep Go.Proofs.YtcmflcpoohgmmaaGreatDoor.Abs
section
variable{P:Program}{t:Nat}{H:Type}{enc:TypeId×Value->H}{w:World}{base:Nat}{spare:Nat->Bool}{held:Bool}{fuel:Nat}{cs:Xh}{x:DataW H×List MemPlace}
end
abbrev ze(c:jP):Xd:=[.sl 3 (c.map jD)]
structure Stp where
 rule:Int
 par:Xi
 whr:Xi
 cls:jP
abbrev stc(s:Stp):Xd:=[vi s.rule,ints s.par,ints s.whr,.sl 3 (s.cls.map jD)]
abbrev stm(s:Stp):A:= .agg [vi s.rule,ints s.par,ints s.whr,.sl 3 (s.cls.map jD)]
structure Prf where
 ax:List jP
 st:List Stp
abbrev cls(l:List jP):A:= .sl 1 (l.map ze)
abbrev jbi(l:List Stp):A:= .sl 4 (l.map stc)
abbrev prc(p:Prf):Xd:=[cls p.ax,jbi p.st]
abbrev prm(p:Prf):A:= .agg [cls p.ax,jbi p.st]
structure Sch where
 prf:Prf
 act:Xi
 pas:Xi
 lost:Bool
abbrev scc(s:Sch):Xd:=[cls s.prf.ax,jbi s.prf.st,ints s.act,ints s.pas,vb s.lost]
abbrev scm(s:Sch):A:= .agg [cls s.prf.ax,jbi s.prf.st,ints s.act,ints s.pas,vb s.lost]
def iwf(l:Xi):Prop:=(∀x∈l,I64 x)/\l.length<=9223372036854775807
def cwf(c:jP):Prop:=(∀l∈c,KC l.2)/\c.length<=9223372036854775807
def swf(s:Stp):Prop:=I64 s.rule/\iwf s.par/\iwf s.whr/\cwf s.cls
def pwf(p:Prf):Prop:=((∀c∈p.ax,cwf c)/\p.ax.length<=9223372036854775807)/\((∀s∈p.st,swf s)/\p.st.length<=9223372036854775807)
def jkN(s:Sch):Prop:=pwf s.prf/\iwf s.act/\iwf s.pas
theorem jsR:Rdr Tryz.prog 86 jD (λl:Lt=>KC l.2):=λ_ _ _ _ _ _ fuel cs x h=>by
 obtain⟨a,b,h1,h2,h3,h4⟩:=jjf (k0:=1) (k1:=2) Tryz.underlying86 rfl rfl (by kernel_rfl) (by kernel_rfl) (by kernel_rfl)
  (λ_ _ _ _ h=>jqk _ _ _ _ _ _ _ _ _ h) (λ_ _ _ _ h=>jqm _ _ _ _ _ _ _ _ _ h) h
 rw[kU]at h3;exact⟨(a,b),h2,h3,h4⟩
theorem jql:Rdr Tryz.prog 40 (λc:jP=>[A.sl 3 (c.map jD)]) cwf:=
 Rdr.slice Tryz.underlying40 (by kernel_rfl) (by decide) (λ_=>rfl) jsR
theorem jl3:Rdr Tryz.prog 42 ze cwf:=λ_ _ _ _ _ _ fuel cs x h=>by
 obtain⟨a,h1,h2,h3⟩:=jje (k0:=1) Tryz.underlying42 rfl (by kernel_rfl) (by kernel_rfl)
  (λ_ _ _ _ h=>jql _ _ _ _ _ _ _ _ _ h) h
 exact⟨a,h1,h2,h3⟩
theorem ji1:Rdr Tryz.prog 22 (λl:List jP=>[cls l]) (λl=>(∀c∈l,cwf c)/\l.length<=9223372036854775807):=
 Rdr.slice Tryz.underlying22 (by kernel_rfl) (by decide) (λ_=>rfl) jl3
theorem jgg(a b c d e:A)(l:Xd):jc (a::b::c::d::e::l) 4=e:=rfl
theorem jag(l:Lt):jL 3 (.elt (jD l) 0)=some (ltm l):=rfl
theorem JZ(c:jP):jL 1 (.elt (ze c) 0)=some (cm c):=rfl
theorem jlT(s:Stp):jL 4 (.elt (stc s) 0)=some (stm s):=rfl
def lsz:jP->Nat
 | []=>0
 |l::c=>tsz l.2+lsz c
def csz(c:jP):Nat:=c.length+lsz c
def Q4:List jP->Nat
 | []=>0
 |c::l=>csz c+Q4 l
def ssz(s:Stp):Nat:=s.par.length+s.whr.length+csz s.cls
def jqA:List Stp->Nat
 | []=>0
 |s::l=>ssz s+jqA l
def psz(p:Prf):Nat:=(p.ax.length+Q4 p.ax)+(p.st.length+jqA p.st)
def jrI(s:Sch):Nat:=psz s.prf+s.act.length+s.pas.length
theorem jfg:∀{c:jP}{l:Lt},l∈c->tsz l.2<=lsz c
 |x::c,l,h=>by
  simp only[lsz];rcases List.mem_cons.1 h with rfl|h
  .omega
  .have:=jfg h;omega
theorem Y6:∀{l:List jP}{c:jP},c∈l->csz c<=Q4 l
 |x::c,l,h=>by
  simp only[Q4];rcases List.mem_cons.1 h with rfl|h
  .omega
  .have:=Y6 h;omega
theorem QO:∀{l:List Stp}{s:Stp},s∈l->ssz s<=jqA l
 |x::c,l,h=>by
  simp only[jqA];rcases List.mem_cons.1 h with rfl|h
  .omega
  .have:=QO h;omega
theorem jsZ(l:Lt)(hw:KC l.2)(left:Int)(h0:0<=left)(h1:left<=1048576):G 54 [ltm l,vi left]=some (vi (jX left ((tsz l.2:Nat):Int)),[]):=by
 have e1:=jqF l.2 hw left h0 h1;rw[g54];by_cases h:jX left ((tsz l.2:Nat):Int)<0
 .have:jX left ((tsz l.2:Nat):Int) = -1:=by have:=jcv left (tsz l.2:Nat);omega
  simp only[jo,e1,this]
 .simp only[jo,e1,h]
theorem jsk(l:Lt)(hw:KC l.2):G 71 [ltm l,ltm l]=some (vb true,[]):=by
 have e1:=jpJ l.2 hw;rw[g71];cases l.1<;>simp only[jo,e1]
theorem jqE(l:List Lt)(hl:l.length<=9223372036854775807)(ih:∀t∈l,∀left:Int,0<=left->left<=1048576->G 54 [ltm t,vi left]=some (vi (jX left ((tsz t.2:Nat):Int)),[]))
  (left:Int) (h0:0<=left) (h1:left<=1048576):G 31 [.sl 3 (l.map jD),vi left]=some (vi (jX left ((l.length+lsz l:Nat):Int)),[]):=by
 have loop:∀(a:Int),0<=a->a<=1048576->jfV (.sl 3 (l.map jD)) (vi a) (vi 0)=some (vi (jX a (lsz l)),[]):=by
  have key:=(upto (P:=λi=>∀a:Int,0<=a->a<=1048576->jfV (.sl 3 (l.map jD)) (vi a) (vi i)=some (vi (jX a (lsz (l.drop i))),[])) (n:=l.length) ?_ ?_ 0 (Nat.zero_le _))
  .simp only[List.drop_zero,Int.natCast_zero]at key;exact key
  .intro b hb hb';rw[jq5,List.drop_length];simp only[jo,lsz];rw[Yt hb]
  .intro i hi ih' b hb hb';have e1:=ih l[i] (List.getElem_mem _) b hb hb';rw[jq5,jr hi];simp only[jo,hi,Int.ofNat_lt,jb hi,jag,e1,js hi hl,lsz];by_cases hc:b<(tsz l[i].2:Nat)
   .rw [zv hc,zv (by omega)];rfl
   .have hp:=ZH (Int.not_lt.1 hc);have ih':=ih' (jX b (tsz l[i].2:Nat)) (by omega) (by omega);have hn:¬jX b ((tsz l[i].2:Nat):Int)<0:=by omega
    simp only[jo,hn,ih'];rw[jad (Int.not_lt.1 hc),<-Int.natCast_add]
 have hk:=jeY h0 (Int.le_trans h1 (by decide)) hl;rw[g31];simp only[jo,hk];by_cases hc:left-l.length<0
 .simp only[jo,hc];rw[zv (by omega)]
 .have hl:=loop (left-l.length) (by omega) (by omega);simp only[jo,hc,hl];rw[JU,<-Int.natCast_add]
theorem jpH(l:List Lt)(hl:l.length<=9223372036854775807)(ih:∀t∈l,G 71 [ltm t,ltm t]=some (vb true,[])):G 48 [.sl 3 (l.map jD),.sl 3 (l.map jD)]=some (vb true,[]):=by
 have key:=(upto (P:=λi=>jjF (.sl 3 (l.map jD)) (.sl 3 (l.map jD)) (vi i)=some (vb true,[])) (n:=l.length) ?_ ?_ 0 (Nat.zero_le _))
 .rw [g48];simp only[Int.natCast_zero]at key;simp only[jo,key]
 .rw [jrd];simp only[jo]
 .intro i hi ih';have h5:=js hi hl;have e1:=ih l[i] (List.getElem_mem _);rw[jrd];simp only[jo,hi,Int.ofNat_lt,jb hi,jag,e1,h5,ih']
theorem jsY(c:jP)(hw:cwf c)(left:Int)(h0:0<=left)(h1:left<=1048576):G 13 [cm c,vi left]=some (vi (jX left ((csz c:Nat):Int)),[]):=by
 have e1:G 31 [.sl 3 (c.map jD),vi left]=some (vi (jX left ((csz c:Nat):Int)),[]):=jqE c hw.2 (λl hl=>jsZ l (hw.1 l hl)) left h0 h1;rw[g13];by_cases h:jX left ((csz c:Nat):Int)<0
 .have:jX left ((csz c:Nat):Int) = -1:=by have:=jcv left (csz c:Nat);omega
  simp only[jo,e1,this]
 .simp only[jo,e1,h]
theorem jin(c:jP)(hw:cwf c):G 25 [cm c,cm c]=some (vb true,[]):=by
 have e1:=jpH c hw.2 λl hl=>jsk l (hw.1 l hl);rw[g25];simp only[jo,e1]
theorem jqD(l:List jP)(hl:l.length<=9223372036854775807)(ih:∀t∈l,∀left:Int,0<=left->left<=1048576->G 13 [cm t,vi left]=some (vi (jX left ((csz t:Nat):Int)),[]))
  (left:Int) (h0:0<=left) (h1:left<=1048576):G 4 [.sl 1 (l.map ze),vi left]=some (vi (jX left ((l.length+Q4 l:Nat):Int)),[]):=by
 have loop:∀(a:Int),0<=a->a<=1048576->jmQ (.sl 1 (l.map ze)) (vi a) (vi 0)=some (vi (jX a (Q4 l)),[]):=by
  have key:=(upto (P:=λi=>∀a:Int,0<=a->a<=1048576->jmQ (.sl 1 (l.map ze)) (vi a) (vi i)=some (vi (jX a (Q4 (l.drop i))),[])) (n:=l.length) ?_ ?_ 0 (Nat.zero_le _))
  .simp only[List.drop_zero,Int.natCast_zero]at key;exact key
  .intro b hb hb';rw[jui,List.drop_length];simp only[jo,Q4];rw[Yt hb]
  .intro i hi ih' b hb hb';have e1:=ih l[i] (List.getElem_mem _) b hb hb';rw[jui,jr hi];simp only[jo,hi,Int.ofNat_lt,jb hi,JZ,e1,js hi hl,Q4];by_cases hc:b<(csz l[i]:Nat)
   .rw [zv hc,zv (by omega)];rfl
   .have hp:=ZH (Int.not_lt.1 hc);have ih':=ih' (jX b (csz l[i]:Nat)) (by omega) (by omega);have hn:¬jX b ((csz l[i]:Nat):Int)<0:=by omega
    simp only[jo,hn,ih'];rw[jad (Int.not_lt.1 hc),<-Int.natCast_add]
 have hk:=jeY h0 (Int.le_trans h1 (by decide)) hl;rw[g4];simp only[jo,hk];by_cases hc:left-l.length<0
 .simp only[jo,hc];rw[zv (by omega)]
 .have hl:=loop (left-l.length) (by omega) (by omega);simp only[jo,hc,hl];rw[JU,<-Int.natCast_add]
theorem jj8(l:List jP)(hl:l.length<=9223372036854775807)(ih:∀t∈l,G 25 [cm t,cm t]=some (vb true,[])):G 9 [.sl 1 (l.map ze),.sl 1 (l.map ze)]=some (vb true,[]):=by
 have key:=(upto (P:=λi=>jpm (.sl 1 (l.map ze)) (.sl 1 (l.map ze)) (vi i)=some (vb true,[])) (n:=l.length) ?_ ?_ 0 (Nat.zero_le _))
 .rw [g9];simp only[Int.natCast_zero]at key;simp only[jo,key]
 .rw [jul];simp only[jo]
 .intro i hi ih';have h5:=js hi hl;have e1:=ih l[i] (List.getElem_mem _);rw[jul];simp only[jo,hi,Int.ofNat_lt,jb hi,JZ,e1,h5,ih']
theorem jpI(s:Stp)(hw:swf s):G 70 [stm s,stm s]=some (vb true,[]):=by
 have e1:=jby s.par hw.2.1.2;have e2:=jby s.whr hw.2.2.1.2;have e3:=jin s.cls hw.2.2.2;rw[g70];simp only[jo,e1,e2,e3]
theorem jnr(l:List Stp)(hl:l.length<=9223372036854775807)(ih:∀t∈l,G 70 [stm t,stm t]=some (vb true,[])):G 47 [.sl 4 (l.map stc),.sl 4 (l.map stc)]=some (vb true,[]):=by
 have key:=(upto (P:=λi=>jjE (.sl 4 (l.map stc)) (.sl 4 (l.map stc)) (vi i)=some (vb true,[])) (n:=l.length) ?_ ?_ 0 (Nat.zero_le _))
 .rw [g47];simp only[Int.natCast_zero]at key;simp only[jo,key]
 .rw [jrc];simp only[jo]
 .intro i hi ih';have h5:=js hi hl;have e1:=ih l[i] (List.getElem_mem _);rw[jrc];simp only[jo,hi,Int.ofNat_lt,jb hi,jlT,e1,h5,ih']
theorem jnq(p:Prf)(hw:pwf p):G 23 [prm p,prm p]=some (vb true,[]):=by
 have e1:=jj8 p.ax hw.1.2 λc hc=>jin c (hw.1.1 c hc);have e2:=jnr p.st hw.2.2 λs hs=>jpI s (hw.2.1 s hs);rw[g23];simp only[jo,e1,e2]
theorem jld(s:Sch)(hw:jkN s):G 8 [scm s,scm s]=some (vb true,[]):=by
 have e1:=jnq s.prf hw.1;have e2:=jby s.act hw.2.1.2;have e3:=jby s.pas hw.2.2.2;rw[g8];cases s.lost<;>simp only[jo,jgg,e1,e2,e3]
def LN(l:jP):Prop:=l.length<=40/\ ∀x∈l,Bx x.2/\nodes x.2<=100
def jxk(f g:FuncId)(args:Xd):Prop:=∃r:Option jP,G f args=jsH r/\G g args=jsH r/\ ∀x,r=some x->jN x=true
def jyt(c:jP)(i:Int):Bool:=KG 0 (((c.length:Nat):Int)-1) i
theorem LN.erase{c:jP}(h:CN c)(i:Nat):LN (c.eraseIdx i):=⟨by have:=List.length_eraseIdx_le c i;have:=h.1;omega,λx hx=>by
 have:=h.2 x (List.mem_of_mem_eraseIdx hx);exact⟨this.1,by omega⟩⟩
theorem LN.append{a b:jP}(ha:CN a)(hb:CN b)(i k:Nat):LN (a.eraseIdx i++b.eraseIdx k):=⟨by
 have:=List.length_eraseIdx_le a i;have:=List.length_eraseIdx_le b k;have:=ha.1;have:=hb.1;rw[List.length_append];omega,λx hx=>by
 rcases List.mem_append.1 hx with hx|hx
 .exact (LN.erase ha i).2 x hx
 .exact (LN.erase hb k).2 x hx⟩
theorem jqe(n:Int):jZ (.elt (ci n) 0)=some (vi n):=rfl
noncomputable def rwL(rs:Xg):jP->Option jP
 | []=>some []
 |x::r=>(match rwN rs false 51 0 x.2 with
  |none=>none
  |some q=>(rwL rs r).map ((x.1,q.1)::·))
noncomputable def jxt(rs:Xg)(R:jP)(l:jP):Option jP:=(rwL rs l).bind λr=>jwB [] (R++r)
def Cz(c:jP):Prop:=c.length<=1048576/\ ∀l∈c,Tz l.2
noncomputable def wfP(p:Prf):Bool:=decide (p.ax.length<=30) && p.ax.all jN && decide (p.st.length<=60)
theorem jdn(c:jP)(hc:Cz c):G 39 [cm c]=some (vb (!jN c),[]):=by
 have e:=jgF c hc.1 hc.2;rw[g39];simp only[jo,e]
theorem jgC(l:List jP)(hl:l.length<=1048576)(hz:∀c∈l,Cz c):∃k:Int,jfZ (cls l) (.fn 39 []) (vi (l.length:Nat)) (vi 0)=some (vi k,[])/\decide (k>=0)=l.any (λc=> !jN c):=by
 have key:=upto (P:=λi=>∃k:Int,jfZ (cls l) (.fn 39 []) (vi (l.length:Nat)) (vi (i:Nat))=some (vi k,[])/\decide (k>=0)=(l.drop i).any (λc=> !jN c)) (n:=l.length) ?_ ?_ 0 (Nat.zero_le _)
 .simpa only[Int.natCast_zero,List.drop_zero]using key
 .refine ⟨-1,?_,?_⟩
  .rw [jrj];simp only[jo]
  .rw [List.drop_length];rfl
 .intro i hi ⟨k,ih1,ih2⟩;have hlt:(i:Int)<((l.length:Nat):Int):=by omega
  have h5:=js hi (by show l.length<=9223372036854775807;omega)
  have e1:=jdn l[i] (hz _ (List.getElem_mem hi));have hp:K.pureF 39=true:=rfl;have cc:DX.run K (MM K) (.callc (.fn 39 []) [cm l[i]] false)=some (vb (!jN l[i])):=by
   rw[yT hp,List.append_nil,e1];rfl
  rw[jrj,jr hi,List.any_cons];cases hn:jN l[i]<;>rw[hn]at cc
  .refine ⟨i,?_,?_⟩
   .simp only[jo,hlt,jb hi,JZ,cc]
   .rw [decide_eq_true (by omega)];rfl
  .refine ⟨k,?_,?_⟩
   .simp only[jo,hlt,jb hi,JZ,cc,h5,ih1]
   .rw [ih2];rfl
theorem jeV(l:List jP)(hl:l.length<=1048576)(hz:∀c∈l,Cz c):G 18 [cls l]=some (vb (l.all jN),[]):=by
 obtain⟨k,h1,h2⟩:=jgC l hl hz;have e2:G 62 [cls l,.fn 39 []]=some (vi k,[]):=by
  rw[g62];simp only[jo,h1]
 have e3:G 38 [cls l,.fn 39 []]=some (vb (l.any (λc=> !jN c)),[]):=by
  rw[g38];simp only[jo,e2,h2]
 have e4:(!l.any (λc=> !jN c))=l.all jN:=by rw[List.all_eq_not_any_not]
 rw[g18];simp only[jo,e3,e4]
def Pok(p:Prf)(s:Stp):Prop:=∀x∈s.par,0<=x/\x<((p.st.length:Nat):Int)
theorem adS(q:Stp):kQ (.elt (stc q) 0) 3=some (.elt (stc q) 3):=by rw[ko,Nat.zero_add]
theorem ldC(q:Stp):jL 1 (.elt (stc q) 3)=some (cm q.cls):=rfl
section
variable(a b c d e f g:A)
end
def Res(o:Xe)(r:Option jP):Prop:=∃(c:jP)(b:Bool),o=some (.tup [cm c,vb b],[])/\(b=true->r=some c)/\(b=false->r=none)
theorem Res.of{o:Xe}{r:Option jP}{c:jP}{b:Bool}(h:jsH r=some (.tup [cm c,vb b],[]))(ho:o=some (.tup [cm c,vb b],[])):Res o r:=by
 cases r with
 |none=>exact⟨[],false,by rw[ho,<-h];rfl,(λh=>by cases h),λ_=>rfl⟩
 |some c'=>exact⟨c',true,by rw[ho,<-h];rfl,(λ_=>rfl),λh=>by cases h⟩
def juT:jP->Option T
 | [l]=>if l.1=true then some l.2 else none
 |_=>none
def jsU(p:Prf):Xi->Option Xg
 | []=>some []
 |x::xs=>match p.st[x.toNat]? with
  |some q=>(match juT q.cls with
   |some t=>(jsU p xs).map (t::·)
   |none=>none)
  |none=>none
structure Pz(p:Prf):Prop where
 ax:p.ax.length<=1048576
 st:p.st.length<=1048576
 axs:∀c∈p.ax,Cz c
 par:∀s∈p.st,s.par.length<=1048576
 whr:∀s∈p.st,s.whr.length<=1048576
 wI:∀s∈p.st,∀x∈s.whr,I64 x
 cls:∀s∈p.st,Cz s.cls
theorem Cz.of{c:jP}(h:csz c<=1048576):Cz c:=⟨by unfold csz at h;omega,λl hl=>by have:=jfg hl;unfold csz at h;show tsz l.2<=1048576;omega⟩
theorem Pz.of{p:Prf}(hw:pwf p)(h:psz p<=1048576):Pz p:=by
 unfold psz at h;refine⟨by omega,by omega,λc hc=>?_,λs hs=>?_,λs hs=>?_,λs hs=>(hw.2.1 s hs).2.2.1.1,λs hs=>?_⟩
 .have:=Y6 hc;exact Cz.of (by omega)
 .have:=QO hs;unfold ssz at this;omega
 .have:=QO hs;unfold ssz at this;omega
 .have:=QO hs;unfold ssz at this;exact Cz.of (by omega)
abbrev cn(n:Nat):Xd:=[vi (n:Nat)]
def jqW(acc:Xf):Nat->Xi->Nat
 |d,[]=>d
 |d,x::r=>jqW acc (max d (acc.getD x.toNat 0+1)) r
def dpt(p:Prf):Nat->Xf
 |0=>[]
 |i+1=>dpt p i++[jqW (dpt p i) 0 (((p.st[i]?).map Stp.par).getD [])]
abbrev km(x:Int):Xd:=[vi x,vb true]
def jwr(hi:Int):Xi->Xi->Bool
 |_,[]=>true
 |u,x::r=> !decide (x∈u) && (KG 0 hi x && jwr hi (u++[x]) r)
def srt(l:Xi):Nat->Bool
 |0=>true
 |i+1=> !decide (l.getD (i+1) 0<l.getD i 0) && srt l i
def gtO:Option Int->Int->Bool
 |some y,x=>decide (y<x)
 |none,_=>true
def ris(hi:Int):Option Int->Xi->Bool
 |_,[]=>true
 |p,x::r=>KG 0 hi x && (gtO p x && ris hi (some x) r)
def jvp(hi:Int)(q:Xi):Xi->Xi->Bool
 |_,[]=>true
 |u,x::r=>KG 0 hi x && (!decide (x∈q) && (!decide (x∈u) && jvp hi q (u++[x]) r))
structure Zs(s:Sch):Prop where
 prf:Pz s.prf
 len:s.act.length+s.pas.length<=1048576
theorem Zs.of{s:Sch}(hw:jkN s)(h:jrI s<=1048576):Zs s:=by
 unfold jrI at h;exact⟨Pz.of hw.1 (by omega),by omega⟩
def wgt:jP->Nat
 | []=>0
 |l::c=>nodes l.2+wgt c
def wAt(p:Prf)(x:Int):Nat:=wgt (((p.st[x.toNat]?).map Stp.cls).getD [])
def juA(p:Prf):Int->Xi->Int
 |b,[]=>b
 |b,x::r=>juA p (if wAt p x<wAt p b then x else b) r
mutual
def wT:T->List Key
 |.mk n us=>z6 (.mk n us)::wTL us
def wTL:Xg->List Key
 | []=>[]
 |t::ts=>wT t++wTL ts
end
def jlv:List Key->List Key->Int
 | [],[]=>0
 | [],_::_=> -1
 |_::_,[]=>1
 |a::x,b::y=>if cK a b≠0 then cK a b else jlv x y
mutual
theorem jsw:∀(a b:T)(x y:List Key),jlv (wT a++x) (wT b++y)=if zc a b≠0 then zc a b else jlv x y
 |.mk n us,.mk m vs,x,y=>by
  have e:=Kd (.mk n us) (.mk m vs);rw[wT,wT,List.cons_append,List.cons_append,jlv];by_cases h:cK (z6 (.mk n us)) (z6 (.mk m vs))=0
  .rw [if_neg (by simpa using h)]at e⊢;have e:zc (.mk n us) (.mk m vs)=kD us vs:=e;have hk:=jcq ((Ka.zero _ _).1 h);have hl:us.length=vs.length:=hk.2;rw[e,jkx us vs x y hl]
  .rw [if_pos h]at e⊢;rw[e,if_pos h]
theorem jkx:∀(us vs:Xg)(x y:List Key),us.length=vs.length->jlv (wTL us++x) (wTL vs++y)=if kD us vs≠0 then kD us vs else jlv x y
 | [],[],x,y,_=>by
  rw[kD,if_neg (λh=>h rfl)];rfl
 | [],_::_,_,_,h=>by cases h
 |_::_,[],_,_,h=>by cases h
 |a::us,b::vs,x,y,h=>by
  rw[wTL,wTL,List.append_assoc,List.append_assoc,jsw a b,jkx us vs x y (Nat.succ.inj h),kD];by_cases h0:zc a b=0
  .simp [h0]
  .simp [h0]
end
def rK(f:Xb->Xb)(k:Key):Key:=if k.1=0 then(0,(f k.2.1,0))else k
def wV:List Key->Xa
 | []=>[]
 |k::w=>if k.1=0 then k.2.1::wV w else wV w
theorem jfP:∀x y:List Key,wV (x++y)=wV x++wV y
 | [],_=>rfl
 |k::x,y=>by
  rw[List.cons_append,wV,wV,jfP x y];split<;>rfl
theorem Qm{n:Xb}(h:jA n=true):z6 (.mk n [])=(0,(n,0)):=by
 unfold z6 vF;show((if jA n then 0 else 1),(n,0))=_;rw[if_pos h]
theorem Ql{n:Xb}{us:Xg}(h:jA n=false):z6 (.mk n us)=(1,(n,us.length)):=by
 unfold z6 vF;show((if jA n then 0 else 1),(n,us.length))=_;rw[h,if_neg Bool.false_ne_true]
mutual
theorem jok:∀(t:T)(l:Xa),yH t=true->qb l t=(wV (wT t)).foldl vnA l
 |.mk n us,l,h=>by
  rw[yH]at h;rw[qb,wT];cases hv:jA n with
  |true=>
   rw[hv,if_pos rfl]at h;have:us=[]:=List.isEmpty_iff.1 h;subst this;rw[if_pos rfl,Qm hv,wV,if_pos rfl];rfl
  |false=>
   rw[hv,if_neg Bool.false_ne_true,Bool.and_eq_true,Bool.and_eq_true]at h;rw[if_neg Bool.false_ne_true,Ql hv,wV,if_neg Nat.one_ne_zero];exact jd3 us l h.2.2
theorem jd3:∀(ts:Xg)(l:Xa),Qv ts=true->Ko l ts=(wV (wTL ts)).foldl vnA l
 | [],_,_=>rfl
 |t::ts,l,h=>by
  rw[Qv,Bool.and_eq_true]at h;rw[Ko,wTL,jfP,List.foldl_append,jok t l h.1,jd3 ts _ h.2]
end
section
variable{f:Xb->Xb}
mutual
theorem joN:∀(t:T),yH t=true->(∀n∈wV (wT t),jA (f n)=true)->wT (zW f t)=(wT t).map (rK f)
 |.mk n us,h,hf=>by
  rw[yH]at h;rw[zW];cases hv:jA n with
  |true=>
   rw[hv,if_pos rfl]at h;have:us=[]:=List.isEmpty_iff.1 h;subst this;have hn:jA (f n)=true:=hf n (by rw[wT,Qm hv,wV,if_pos rfl];exact List.mem_cons_self);rw[if_pos rfl,wT,wT,Qm hv,Qm hn];rfl
  |false=>
   rw[hv,if_neg Bool.false_ne_true,Bool.and_eq_true,Bool.and_eq_true]at h;have hl:(kR f us).length=us.length:=by rw[Zq,List.length_map]
   rw[if_neg Bool.false_ne_true,wT,wT,Ql hv,Ql hv,hl,List.map_cons,jei us h.2.2 (λm hm=>hf m (by rw[wT,Ql hv,wV,if_neg Nat.one_ne_zero];exact hm))]
   rfl
theorem jei:∀(ts:Xg),Qv ts=true->(∀n∈wV (wTL ts),jA (f n)=true)->wTL (kR f ts)=(wTL ts).map (rK f)
 | [],_,_=>rfl
 |t::ts,h,hf=>by
  rw[Qv,Bool.and_eq_true]at h;rw[kR,wTL,wTL,List.map_append,joN t h.1 (λn hn=>hf n (by rw[wTL,jfP];exact List.mem_append_left _ hn)),jei ts h.2 (λn hn=>hf n (by rw[wTL,jfP];exact List.mem_append_right _ hn))]
end
end
def yy(c:jP):Xa:=c.flatMap λl=>wV (wT l.2)
mutual
theorem jof:∀t:T,yH t=true-> ∀k∈wT t,k.1=0->k.2.2=0
 |.mk n us,h,k,hk,h0=>by
  rw[yH]at h;rw[wT]at hk;cases hv:jA n with
  |true=>
   rw[hv,if_pos rfl]at h;have:us=[]:=List.isEmpty_iff.1 h;subst this;rw[Qm hv]at hk;rcases List.mem_cons.1 hk with e|hk
   .rw [e]
   .cases hk
  |false=>
   rw[hv,if_neg Bool.false_ne_true,Bool.and_eq_true,Bool.and_eq_true]at h;rw[Ql hv]at hk;rcases List.mem_cons.1 hk with e|hk
   .rw [e]at h0;cases h0
   .exact jd2 us h.2.2 k hk h0
theorem jd2:∀ts:Xg,Qv ts=true-> ∀k∈wTL ts,k.1=0->k.2.2=0
 | [],_,k,hk,_=>by cases hk
 |t::ts,h,k,hk,h0=>by
  rw[Qv,Bool.and_eq_true]at h;rw[wTL]at hk;rcases List.mem_append.1 hk with hk|hk
  .exact jof t h.1 k hk h0
  .exact jd2 ts h.2 k hk h0
end
structure Mdl where
 M:Xb->Xi->Int
 Q:Xb->Xi->Bool
 good:Int->Prop
 ok:∀n vs,good (M n vs)
def juc(m:Mdl)(e:Xb->Int)(t:T):Bool:=if t.name=[61]/\t.args.length=2 then decide (val m.M e (Kk t)=val m.M e (Kw t))else m.Q t.name (t.args.map (val m.M e))
def clV(m:Mdl)(e:Xb->Int)(c:jP):Prop:=∃l∈c,juc m e l.2=l.1
def jth(m:Mdl)(e:Xb->Int):Prop:=∀x,m.good (e x)
def trM(m:Mdl)(c:jP):Prop:=∀e,jth m e->clV m e c
def Sd(ps:List jP)(x:jP):Prop:=∀m:Mdl,(∀c∈ps,trM m c)->trM m x
theorem jn3{t:T}(h:t.args.length=2):Kk t∈t.args/\Kw t∈t.args:=by
 obtain⟨n,us⟩:=t
 match us,h with
 | [a,b],_=>exact⟨List.mem_cons_self ..,List.mem_cons_of_mem _ (List.mem_cons_self ..)⟩
section
variable(m:Mdl)
variable{m}
end
def jxm(M:Xb->Xi->Int)(e:Xb->Int)(s:jy):Prop:=∀q∈s,e q.1=val M e q.2
section
variable{M:Xb->Xi->Int}{e:Xb->Int}
end
def jyr(p:UInt8)(ns:Xa)(x:Xb):Xb:=match ns.find? (λn=>decide (jaF p ns n=x))with|some n=>n|none=>x
section
variable{m:Mdl}
end
def Agr(f:Xb->Xb)(m:jy):Prop:=∀n r,look m n=some r->r = .mk (f n) []
mutual
theorem jsy{f:Xb->Xb} :∀(a:T){m:jy},Agr f m-> ∃m',mt m a (zW f a)=some m'/\Agr f m'
 |.mk n us,m,hm=>by
  rw[zW];cases hv:jA n with
  |true=>
   rw[if_pos rfl,Kn (p:= .mk n us) hv];show ∃m',(match look m n with|some r=>if dq r (.mk (f n) [])then some m else none|none=>some (m++[(n,.mk (f n) [])]))=some m'/\Agr f m';cases hl:look m n with
   |some r=>
    have e:=hm n r hl;refine⟨m,?_,hm⟩;show(if dq r (.mk (f n) [])=true then some m else none)=some m;rw[e,Y7,if_pos rfl]
   |none=>
    refine⟨m++[(n,.mk (f n) [])],rfl,λx r hx=>?_⟩;rw[jaU]at hx;cases hlx:look m x with
    |some r'=>
     rw[hlx]at hx;cases hx;exact hm x _ hlx
    |none=>
     rw[hlx]at hx;have hi:=Kl hx;have e:=List.mem_singleton.1 hi;cases e;rfl
  |false=>
   have hl:us.length=(kR f us).length:=by rw[Zq,List.length_map]
   rw[if_neg Bool.false_ne_true,Ju (p:= .mk n us) hv];show ∃m',(if n=n/\us.length=(kR f us).length then y9 m us (kR f us)else none)=some m'/\Agr f m';rw[if_pos ⟨rfl,hl⟩];exact jkA us hm
theorem jkA{f:Xb->Xb} :∀(us:Xg){m:jy},Agr f m-> ∃m',y9 m us (kR f us)=some m'/\Agr f m'
 | [],m,hm=>⟨m,by rw[y9],hm⟩
 |u::us,m,hm=>by
  obtain⟨m1,e1,h1⟩:=jsy u hm;obtain⟨m2,e2,h2⟩:=jkA us h1;refine⟨m2,?_,h2⟩;rw[kR,y9];show(mt m u (zW f u)).bind _=_;rw[e1];exact e2
end
noncomputable def jc6(d:jP):List Lt->jy->Option jy
 | [],m=>some m
 |l::c,m=>d.findSome? λx=>if x.1=l.1 then(mt m l.2 x.2).bind λm'=>jc6 d c m' else none
mutual
theorem joL{f g:Xb->Xb}(hf:∀n,jA n=true->jA (f n)=true):∀t:T,zW g (zW f t)=zW (λn=>g (f n)) t
 |.mk n us=>by
  rw[zW,zW];cases hv:jA n with
  |true=>
   rw[if_pos rfl,if_pos rfl,zW,if_pos (hf n hv)]
  |false=>
   rw[if_neg Bool.false_ne_true,if_neg Bool.false_ne_true,zW,hv,if_neg Bool.false_ne_true,jeg hf us]
theorem jeg{f g:Xb->Xb}(hf:∀n,jA n=true->jA (f n)=true):∀ts:Xg,kR g (kR f ts)=kR (λn=>g (f n)) ts
 | []=>rfl
 |t::ts=>by rw[kR,kR,kR,joL hf t,jeg hf ts]
end
theorem jmV{rem:Xc}{z:Xe}{g:Xd->Xc->Xe}{o:Out}(hz:rem=[]->z=some o)(h:∀i x,rem[i]? = some x->g x (rem.eraseIdx i)=some o):allR rem z g=some o:=by
 cases rem with
 |nil=>exact hz rfl
 |cons x xs=>exact(JH (by simp)).2 h
def yb(m:jy):jy:=m.mergeSort λp q=>decide (p.1<=q.1)
theorem jpA(m:jy):jig (m.map kv)=(yb m).map kv:=by
 symm;refine List.map_mergeSort λp _ q _=>?_;show decide (p.1<=q.1)=decide (bs _<=bs _);refine decide_eq_decide.2 ?_;simp
theorem JM(m:jy):(yb m).Perm m:=List.mergeSort_perm m _
theorem JL{m:jy}{p:Xb×T} :p∈yb m↔p∈m:=(JM m).mem_iff
theorem jbW{m:jy}(h:(m.map Prod.fst).Nodup):((yb m).map Prod.fst).Nodup:=((JM m).map Prod.fst).nodup_iff.2 h
theorem jgh{m m':jy}(h:m.Perm m')(hn:(m.map Prod.fst).Nodup):yb m=yb m':=by
 have st:∀l:jy,(l.map Prod.fst).Nodup->(yb l).Pairwise λa b=>a.1<=b.1/\a.1≠b.1:=λl hl=>by
  have h1:(yb l).Pairwise λa b=>decide (a.1<=b.1)=true:=List.pairwise_mergeSort (λa b c h1 h2=>by simp only[decide_eq_true_eq]at *;exact List.le_trans h1 h2) (λa b=>by simp only[Bool.or_eq_true,decide_eq_true_eq];exact List.le_total a.1 b.1) l
  have h2:=jbW hl;rw[List.nodup_iff_pairwise_ne]at h2;exact(h1.and (List.pairwise_map.1 h2)).imp λh=>⟨of_decide_eq_true h.1,h.2⟩
 exact joH (R:=λa b=>a.1<=b.1/\a.1≠b.1) (λa h=>h.2 rfl) (λa b h h'=>h.2 (List.le_antisymm h.1 h'.1)) (st m hn) (st m' ((h.map Prod.fst).nodup_iff.1 hn)) λx=>by rw[JL,JL,h.mem_iff]
theorem jnc:yb []=[]:=by simp[yb]
theorem jio{α:Type}{m:List α}{i:Nat}(hi:i<m.length):(m[i]::m.eraseIdx i).Perm m:=by
 rw[List.eraseIdx_eq_take_drop_succ];refine List.perm_middle.symm.trans ?_;rw[<-List.drop_eq_getElem_cons hi,List.take_append_drop]
theorem jfl{α β:Type}{f:α->β}{m:List α}{i:Nat}{x:β}(h:(m.map f)[i]? = some x):∃hi:i<m.length,x=f m[i]:=by
 rw[List.getElem?_map,Option.map_eq_some_iff]at h;obtain⟨y,h1,h2⟩:=h;obtain⟨hi,h3⟩:=List.getElem?_eq_some_iff.1 h1;exact⟨hi,by rw[h3];exact h2.symm⟩
theorem jlD{α β:Type}(f:α->β)(m:List α)(i:Nat):(m.map f).eraseIdx i=(m.eraseIdx i).map f:=by
 induction m generalizing i with
 |nil=>simp
 |cons a m ih=>cases i with
  |zero=>simp
  |succ i=>simp[ih]
theorem jla:∀(n:Nat)(m acc:jy),m.length=n->((acc++m).map Prod.fst).Nodup->jbv ((yb acc).map kv) (m.map kv)=some (.top,[.sl 128 ((yb (acc++m)).map kv)]):=by
 intro n;induction n with
 |zero=>
  intro m acc hl _;obtain rfl:=List.length_eq_zero_iff.1 hl;rw[jkt,List.append_nil];rfl
 |succ n ih=>
  intro m acc hl hn;rw[jkt];refine jmV (λe=>by rw[List.map_eq_nil_iff.1 e]at hl;cases hl) λi x hx=>?_;obtain⟨hi,rfl⟩:=jfl hx;rw[jlD];have hp:=jio hi;have hl2:(m.eraseIdx i).length=n:=by rw[List.length_eraseIdx,if_pos hi];omega
  generalize m.eraseIdx i=m2 at hp hl2;generalize m[i]=p at hp;have hperm:(acc++m).Perm (acc++[p]++m2):=by
   rw[List.append_assoc];exact(hp.symm).append_left acc
  have hn2:((acc++[p]++m2).map Prod.fst).Nodup:=(hperm.map Prod.fst).nodup_iff.1 hn;have hna:((acc++[p]).map Prod.fst).Nodup:=by
   rw[List.map_append]at hn2;exact(List.nodup_append.1 hn2).1
  have hlook:look (yb acc) p.1=none:=JV.2 λq hq e=>by
   rw[List.map_append,List.nodup_append]at hna;exact hna.2.2 q.1 (List.mem_map.2 ⟨q,JL.1 hq,rfl⟩) p.1 (by simp) e
  have h1:=jai hlook p.2;have h2:jig ((yb acc++[p]).map kv)=(yb (acc++[p])).map kv:=by
   rw[jpA];refine congrArg (λl=>List.map kv l) (jgh ((JM acc).append_right [p]) ?_);exact(((JM acc).append_right [p]).map Prod.fst).nodup_iff.2 hna
  have h1:jfx none ((yb acc).map kv) (sv p.1) (.agg [sv p.2.name,jW p.2.args])=some ((yb acc++[p]).map kv):=h1;have h3:=ih m2 (acc++[p]) hl2 hn2;rw[jgh hperm hn];have k0:jnI (kv p)=true:=rfl;have k1:YE (A.tup [jc (kv p) 0,jc (kv p) 1]) 0=some (sv p.1):=rfl;have k2:YE (A.tup [jc (kv p) 0,jc (kv p) 1]) 1=some (tm p.2):=rfl;simp only[jo,k0,k1,k2,h1,h2,h3]
theorem jng(m:jy)(hn:(m.map Prod.fst).Nodup):jmI (.mp (m.map kv))=some (.top,[.sl 128 ((yb m).map kv)]):=by
 have h:=jla m.length m [] rfl hn;rw[List.nil_append]at h;have e:jig []=(yb []).map kv:=by rw[jnc];simp[jig]
 rw[jtT];show(some (m.map kv)).bind _=_;rw[Option.bind_some,e];exact h
noncomputable def jxx(l:jy):Xe:=jws (if JB (jiX l)then some (jiX l)else none)
structure GoodB(l:jy):Prop where
 nod:(l.map Prod.fst).Nodup
 keep:∀p∈l,p.2.name≠p.1
 len:l.length<=1000
 sz:∀p∈l,p.1.length<=1000000/\Tz p.2
noncomputable def jdE(d:jP):List Lt->jy->Option jy
 | [],m=>some m
 |l::c,m=>d.findSome? λx=>if x.1=l.1 then(mt (yb m) l.2 x.2).bind λm'=>jdE d c m' else none
def MIn(S:Xa)(m:jy):Prop:=∀q∈m,q.1∈S
theorem Yx{p:T->Prop}(hp:∀t,p t-> ∀u∈t.args,p u):∀(us ts:Xg){m m':jy},(∀u∈ts,p u)->MOk p m->y9 m us ts=some m'->MOk p m':=by
 intro us;induction us with
 |nil=>intro ts m m' _ hm h;simp only[y9,Option.some.injEq]at h;exact h ▸ hm
 |cons u us ih=>
  intro ts m m' hts hm h;cases ts with
  |nil=>simp only[y9,Option.some.injEq]at h;exact h ▸ hm
  |cons s ts=>
   simp only[y9]at h;obtain⟨m1,h1,h2⟩:=Option.bind_eq_some_iff.1 h;exact ih ts (λx hx=>hts x (by simp[hx])) (jg7 hp u hm (hts s (by simp)) h1) h2
theorem jj4{t u:T}(h:u∈t.args):Yj u<=Yj t:=by have h1:=jb2 t;have h2:=jnh h;omega
def Pt(t:T):Prop:=yH t=true/\nodes t<=30/\Yj t<=8
theorem Pt.valid{t:T}(h:Pt t):zH t=true:=by
 unfold zH kO;rw[h.1,decide_eq_true h.2.1,decide_eq_true h.2.2];rfl
theorem Pt.args{t:T}(h:Pt t):∀u∈t.args,Pt u:=λu hu=>⟨qM h.1 u hu,by have:=jae hu;have:=h.2.1;omega,by have:=jj4 hu;have:=h.2.2;omega⟩
theorem Pt.tz{t:T}(h:Pt t):Tz t:=by
 have h1:=jcF t h.1;have:=h.2.1;unfold Tz;omega
def Pa(t:T):Prop:=Bx t/\nodes t<=30/\Yj t<=8
theorem Pa.args{t:T}(h:Pa t):∀u∈t.args,Pt u:=λu hu=>⟨h.1.args u hu,by have:=jae hu;have:=h.2.1;omega,by have:=jj4 hu;have:=h.2.2;omega⟩
theorem Pa.nv{t:T}(h:Pa t):jA t.name=false:=by
 rcases h.1 with h|h
 .rw [h.1];decide
 .exact jo3 h.1
theorem Pa.tz{t:T}(h:Pa t):Tz t:=by
 have h1:=h.1.tsz;have:=h.2.1;unfold Tz;omega
theorem jp4{a t:T}(ha:Pa a)(ht:Pa t){m m':jy}(hm:MOk Pt m)(h:mt m a t=some m'):MOk Pt m':=by
 rw[Ju ha.nv]at h;split at h
 .exact Yx (λ_ h=>h.args) _ _ ht.args hm h
 .cases h
theorem MOk.can{p:T->Prop}{m:jy}(h:MOk p m):MOk p (yb m):=⟨jbW h.1,λq hq=>h.2 q (JL.1 hq)⟩
theorem MIn.can{S:Xa}{m:jy}(h:MIn S m):MIn S (yb m):=λq hq=>h q (JL.1 hq)
def AgM(f:Xb->Xb)(m:jy):Prop:=∀q∈m,q.2 = .mk (f q.1) []
theorem AgM.can{f:Xb->Xb}{m:jy}(h:AgM f m):AgM f (yb m):=λq hq=>h q (JL.1 hq)
mutual
theorem jp6{f:Xb->Xb} :∀(a:T){m:jy},AgM f m-> ∃m',mt m a (zW f a)=some m'/\AgM f m'
 |.mk n us,m,hm=>by
  rw[zW];cases hv:jA n with
  |true=>
   rw[if_pos rfl,Kn (p:= .mk n us) hv];show ∃m',(match look m n with|some r=>if dq r (.mk (f n) [])then some m else none|none=>some (m++[(n,.mk (f n) [])]))=some m'/\AgM f m';cases hl:look m n with
   |some r=>
    have e:r = .mk (f n) []:=hm (n,r) (Kl hl);refine⟨m,?_,hm⟩;show(if dq r (.mk (f n) [])=true then some m else none)=some m;rw[e,Y7,if_pos rfl]
   |none=>
    refine⟨m++[(n,.mk (f n) [])],rfl,λq hq=>?_⟩;rcases List.mem_append.1 hq with hq|hq
    .exact hm q hq
    .rw [List.mem_singleton.1 hq]
  |false=>
   have hl:us.length=(kR f us).length:=by rw[Zq,List.length_map]
   rw[if_neg Bool.false_ne_true,Ju (p:= .mk n us) hv];show ∃m',(if n=n/\us.length=(kR f us).length then y9 m us (kR f us)else none)=some m'/\AgM f m';rw[if_pos ⟨rfl,hl⟩];exact jg8 us hm
theorem jg8{f:Xb->Xb} :∀(us:Xg){m:jy},AgM f m-> ∃m',y9 m us (kR f us)=some m'/\AgM f m'
 | [],m,hm=>⟨m,by rw[y9],hm⟩
 |u::us,m,hm=>by
  obtain⟨m1,e1,h1⟩:=jp6 u hm;obtain⟨m2,e2,h2⟩:=jg8 us h1;refine⟨m2,?_,h2⟩;rw[kR,y9];show(mt m u (zW f u)).bind _=_;rw[e1];exact e2
end
theorem jlk(a:T)(h:Bx a):G 109 [.agg [sv a.name,jW a.args]]=some (vb (jA a.name),[]):=by
 rcases h.ax with h|h
 .exact jcn a h
 .have e1:=Kh 61;have hx:kG (sv a.name) (vi 0)=some (vy 61):=by rw[h.1];exact zh
  have hv:jA a.name=false:=by rw[h.1];decide
  have e1:G 121 [vy 61]=some (vb false,[]):=e1;rw[hv,jsq];simp only[jo,hx,e1]
theorem jlE(a:T)(ha:Pa a)(t:T)(m:jy)(ht:Tz t)(hm:∀q∈m,Tz q.2):MI (jfU (tm a) (sv t.name) (jW t.args) (m.map kv)) (mt m a t):=
 jlg a ha.tz (jlk a ha.1) (λhv=>by rw[ha.nv]at hv;cases hv) t m ht hm λu hu s m hs hm=>jn7 u (ha.args u hu).tz (ha.args u hu).1 s m hs hm
def juP(r:Option jy):Xe:=match r with
 |some m=>some (.tup [.mp (m.map kv),vb true],[])
 |none=>some (.tup [.val (.map none),vb false],[])
theorem jdb(d:jP)(hl:d.length<=8)(hd:∀x∈d,Pa x.2):∀(c:List Lt),c.length<=8->(∀l∈c,Pa l.2)-> ∀(m:jy),MOk Pt m->G 65 [.mp (m.map kv),.sl 3 (c.map jD),cm d]=juP (jdE d c m)
 | [],_,_,m,hm=>by
  rw[g65,jdE];simp only[jo];rfl
 |l::c,hc,hcl,m,hm=>by
  have ih:=jdb d hl hd c (by rw[List.length_cons]at hc;omega) (λy hy=>hcl y (List.mem_cons_of_mem _ hy))
  have hPl:=hcl l List.mem_cons_self;have key:=upto (n:=d.length) (P:=λi=>jf0 (.mp (m.map kv)) (.sl 3 ((l::c).map jD)) (.sl 3 (d.map jD)) (vi (d.length:Nat)) (vi (i:Nat)) (.sl 3 (d.map jD))=juP ((d.drop i).findSome? λx=>if x.1=l.1 then(mt (yb m) l.2 x.2).bind λm'=>jdE d c m' else none)) ?_ ?_ 0 (Nat.zero_le _)
  .rw [g65,jdE];have nz:¬((((l::c).length:Nat):Int)=0):=by rw[List.length_cons];omega
   simp only[Int.natCast_zero,List.drop_zero]at key;generalize hX:(l::c).map jD=X at key⊢;have hXl:X.length=(l::c).length:=by rw[<-hX,List.length_map]
   rw[<-hXl]at nz;simp only[jo,nz,key]
  .have nlt:¬((d.length:Nat):Int)<((d.length:Nat):Int):=by omega
   rw[jrm,List.drop_length];simp only[jo,nlt];rfl
  .intro i hi ih2;have hlt:(i:Int)<((d.length:Nat):Int):=by omega
   have h5:=js hi (by show d.length<=9223372036854775807;omega)
   have x1:jk 3 (.sl 3 (d.map jD)) (vi (i:Nat))=some (.elt (jD d[i]) 0):=jb hi;have hPx:=hd _ (List.getElem_mem hi);rw[jr hi,List.findSome?_cons];generalize d[i]=x at x1 hPx⊢;have x2:jL 3 (.elt (jD x) 0)=some (.agg (jD x)):=rfl;have x3:jk 3 (.sl 3 ((l::c).map jD)) (vi 0)=some (.elt (jD l) 0):=by
    have:=jb (f:=jD) (xs:=l::c) (i:=0) (k:=3) (by rw[List.length_cons];omega)
    exact this
   have x4:Jv 3 (.sl 3 ((l::c).map jD)) (some (vi 1)) none=some (.sl 3 (c.map jD)):=by
    have:=jhj (k:=3) (xs:=(l::c).map jD) (i:=1) (by simp);exact this
   have y1:jZ (.elt (jD l) 0)=some (vb l.1):=rfl;have y2:kQ (.elt (jD l) 0) 1=some (.elt (jD l) 1):=rfl;have y3:jL 2 (.elt (jD l) 1)=some (tm l.2):=rfl;have y0:kQ (.elt (jD l) 0) 0=some (.elt (jD l) 0):=rfl;have cp:=jng m hm.1;have hR0:hR 128 (A.top,[.sl 128 ((yb m).map kv)]) 0=some ((yb m).map kv):=rfl;have hm2:=hm.can;have mq:=jlE l.2 hPl x.2 (yb m) hPx.tz λq hq=>(hm2.2 q hq).2.tz;rw[jrm];generalize (l::c).map jD=X at *;by_cases hb:x.1=l.1
   .rw [if_pos hb];cases hq:mt (yb m) l.2 x.2 with
    |none=>
     rw[hq]at mq;obtain⟨R,mq⟩:=mq;have hR1:hR 128 (A.top,[vb false,.sl 128 R]) 1=some R:=rfl;rw[Option.bind_none];simp only[jo,hlt,x1,x2,x3,x4,y0,y1,y2,y3,cp,hR0,hb,mq,hR1,h5,List.getElem?_cons_zero];exact ih2
    |some m1=>
     rw[hq]at mq;have mq:jfU (tm l.2) (sv x.2.name) (jW x.2.args) ((yb m).map kv)=some (.top,[vb true,.sl 128 (m1.map kv)]):=mq;have hR1:hR 128 (A.top,[vb true,.sl 128 (m1.map kv)]) 1=some (m1.map kv):=rfl;have e2:=ih m1 (jp4 hPl hPx hm2 hq);rw[Option.bind_some];cases hs:jdE d c m1 with
     |none=>
      rw[hs]at e2;have e2:G 65 [.mp (m1.map kv),.sl 3 (c.map jD),.agg [.sl 3 (d.map jD)]]=some (.tup [.val (.map none),vb false],[]):=e2;simp only[jo,hlt,x1,x2,x3,x4,y0,y1,y2,y3,cp,hR0,hb,mq,hR1,h5,e2,List.getElem?_cons_zero];exact ih2
     |some m2=>
      rw[hs]at e2;have e2:G 65 [.mp (m1.map kv),.sl 3 (c.map jD),.agg [.sl 3 (d.map jD)]]=some (.tup [.mp (m2.map kv),vb true],[]):=e2;simp only[jo,hlt,x1,x2,x3,x4,y0,y1,y2,y3,cp,hR0,hb,mq,hR1,h5,e2,List.getElem?_cons_zero];rfl
   .rw [if_neg hb];simp only[jo,hlt,x1,x2,x3,x4,y0,y1,y2,y3,cp,hR0,hb,h5,List.getElem?_cons_zero];exact ih2
theorem jgX:∀{m:jy}{n:Xb}{r:T},(m.map Prod.fst).Nodup->(n,r)∈m->look m n=some r
 |p::m,n,r,hn,h=>by
  rw[List.map_cons,List.nodup_cons]at hn;rw[look];rcases List.mem_cons.1 h with e|h
  .rw [<-e,if_pos rfl]
  .rw [if_neg λe=>hn.1 (List.mem_map.2 ⟨(n,r),h,e.symm⟩)];exact jgX hn.2 h
theorem jlx{m m':jy}(h:m.Perm m')(hn:(m.map Prod.fst).Nodup)(n:Xb):look m n=look m' n:=by
 cases hl:look m n with
 |some r=>exact(jgX ((h.map Prod.fst).nodup_iff.1 hn) (h.mem_iff.1 (Kl hl))).symm
 |none=>exact(JV.2 λp hp=>JV.1 hl p (h.mem_iff.2 hp)).symm
def OP(o o':Option jy):Prop:=match o,o' with
 |some r,some r'=>r.Perm r'/\(r.map Prod.fst).Nodup
 |none,none=>True
 |_,_=>False
theorem jp5:∀(a:T){m m':jy}{t:T},m.Perm m'->(m.map Prod.fst).Nodup->OP (mt m a t) (mt m' a t):=by
 refine T.ind (p:=λa=>∀{m m':jy}{t:T},m.Perm m'->(m.map Prod.fst).Nodup->OP (mt m a t) (mt m' a t)) λa ih=>?_;intro m m' t hp hn;cases hv:jA a.name with
 |true=>
  rw[Kn hv,Kn hv,<-jlx hp hn];cases hl:look m a.name with
  |some r=>
   show OP (if dq r t then some m else none) (if dq r t then some m' else none);split
   .exact ⟨hp,hn⟩
   .trivial
  |none=>
   show OP (some (m++[(a.name,t)])) (some (m'++[(a.name,t)]));refine⟨hp.append_right _,?_⟩;rw[List.map_append,List.nodup_append];refine⟨hn,by simp,λx hx y hy=>?_⟩;obtain⟨q,hq,rfl⟩:=List.mem_map.1 hx;have hy:y=a.name:=by simpa using hy
   rw[hy];exact JV.1 hl q hq
 |false=>
  rw[Ju hv,Ju hv];split
  .have key:∀(us ts:Xg){m m':jy},(∀u∈us,u∈a.args)->m.Perm m'->(m.map Prod.fst).Nodup->OP (y9 m us ts) (y9 m' us ts):=by
    intro us;induction us with
    |nil=>intro ts m m' _ hp hn;simp only[y9];exact⟨hp,hn⟩
    |cons u us ih2=>
     intro ts m m' hu hp hn;cases ts with
     |nil=>simp only[y9];exact⟨hp,hn⟩
     |cons s ts=>
      simp only[y9];have h1:=ih u (hu u (by simp)) (t:=s) hp hn;cases e1:mt m u s with
      |none=>
       cases e2:mt m' u s with
       |none=>trivial
       |some r'=>rw[e1,e2]at h1;exact h1.elim
      |some r=>
       cases e2:mt m' u s with
       |none=>rw[e1,e2]at h1;exact h1.elim
       |some r'=>
        rw[e1,e2]at h1;exact ih2 ts (λx hx=>hu x (by simp[hx])) h1.1 h1.2
   exact key a.args t.args (λ_ h=>h) hp hn
  .trivial
theorem jnw{α:Type}{f g:α->Option jy} :∀(l:List α),(∀x∈l,OP (f x) (g x))->OP (l.findSome? f) (l.findSome? g)
 | [],_=>trivial
 |x::l,h=>by
  rw[List.findSome?_cons,List.findSome?_cons];have h1:=h x List.mem_cons_self;cases e1:f x with
  |none=>
   cases e2:g x with
   |none=>exact jnw l λy hy=>h y (List.mem_cons_of_mem _ hy)
   |some r'=>rw[e1,e2]at h1;exact h1.elim
  |some r=>
   cases e2:g x with
   |none=>rw[e1,e2]at h1;exact h1.elim
   |some r'=>rw[e1,e2]at h1;exact h1
theorem jhM(d:jP):∀(c:List Lt){m m':jy},m.Perm m'->(m.map Prod.fst).Nodup->OP (jc6 d c m) (jdE d c m')
 | [],m,m',hp,hn=>⟨hp,hn⟩
 |l::c,m,m',hp,hn=>by
  rw[jc6,jdE];refine jnw d λx _=>?_;split
  .have h1:=jp5 l.2 (t:=x.2) (hp.trans (JM m').symm) hn;cases e1:mt m l.2 x.2 with
   |none=>
    cases e2:mt (yb m') l.2 x.2 with
    |none=>trivial
    |some r'=>rw[e1,e2]at h1;exact h1.elim
   |some r=>
    cases e2:mt (yb m') l.2 x.2 with
    |none=>rw[e1,e2]at h1;exact h1.elim
    |some r'=>rw[e1,e2]at h1;exact jhM d c h1.1 h1.2
  .trivial
def jw3(s:jy)(c:jP):jP:=c.map λl=>(l.1,sub s l.2)
noncomputable def zn(l:Lt):Bool:=l.1 && (decide (l.2.name=[61]) && dq (Kk l.2) (Kw l.2))
noncomputable def KL(p:Option Lt)(l:Lt):Bool:=match p with|none=>false|some q=>dq q.2 l.2
noncomputable def jrP:List Lt->Option Lt->Bool
 | [],_=>false
 |l::c,p=>zn l || (KL p l || jrP c (some l))
noncomputable def yi(p:Option Lt)(c:List Lt):Bool:=jrP c p
theorem jeu(p:Option Lt):yi p []=false:=rfl
theorem jdc(p:Option Lt)(l:Lt)(c:List Lt):yi p (l::c)=(zn l || (KL p l || yi (some l) c)):=rfl
theorem ZS{c:jP}(h:yf c=true):∀l∈c,Pa l.2:=λl hl=>by
 obtain⟨h1,h2⟩:=K2.1 ((zq h).2.2 l hl);unfold kO at h2;rw[Bool.and_eq_true,decide_eq_true_eq,decide_eq_true_eq]at h2;exact⟨h1,h2.1,h2.2⟩
def jsJ(m:jy)(r:Option jy):Xe:=match r with
 |some m'=>some (.tup [.sl 3 (m'.map bc),vb true],[])
 |none=>some (.tup [.sl 3 (m.map bc),vb false],[])
theorem jiI(c d:jP)(hcl:c.length<=8)(hc:∀l∈c,Pa l.2)(hdl:d.length<=8)(hd:∀x∈d,Pa x.2):∀i,i<=c.length-> ∀m:jy,(∀q∈m,Tz q.2)->m.length<=30*i->G 80 [cm c,vi (i:Nat),cm d,.sl 3 (m.map bc)]=jsJ m (jc6 d (c.drop i) m):=by
 refine upto (P:=λi=>∀m:jy,(∀q∈m,Tz q.2)->m.length<=30*i->G 80 [cm c,vi (i:Nat),cm d,.sl 3 (m.map bc)]=jsJ m (jc6 d (c.drop i) m)) ?_ ?_
 .intro m _ _;rw[List.drop_length,jc6,g80];simp only[jo];rfl
 .intro i hi ih m hm hml;have hne:¬((i:Nat):Int)=((c.length:Nat):Int):=by omega
  have hPl:=hc _ (List.getElem_mem hi);have c1:ck ((i:Int)+1)=some (vi ((i+1:Nat):Int)):=k9 (by omega) (by omega);have a1:jk 3 (.sl 3 (c.map jD)) (vi (i:Nat))=some (.elt (jD c[i]) 0):=jb hi;rw[jr hi];generalize c[i]=l at hPl a1⊢;have z0:kQ (.elt (jD l) 0) 0=some (.elt (jD l) 0):=rfl;have z1:jZ (.elt (jD l) 0)=some (vb l.1):=rfl;have z2:kQ (.elt (jD l) 0) 1=some (.elt (jD l) 1):=rfl;have z3:jL 2 (.elt (jD l) 1)=some (tm l.2):=rfl;have pr:yZ 3 (.sl 3 (m.map bc))=some (m.map bc):=by unfold yZ;exact if_pos rfl
  have fm:zo m.length 56=true:=juv (by omega);have key:=upto (n:=d.length) (P:=λk=>jbQ (vi (i:Nat)) (.sl 3 (m.map bc)) (vi (k:Nat)) (.sl 3 (c.map jD)) (.sl 3 (d.map jD))=jsJ m ((d.drop k).findSome? λx=>if x.1=l.1 then(mt m l.2 x.2).bind λm'=>jc6 d (c.drop (i+1)) m' else none)) ?_ ?_ 0 (Nat.zero_le _)
  .rw [g80,jc6];simp only[Int.natCast_zero,List.drop_zero]at key;simp only[jo,hne,key]
  .have nlt:¬((d.length:Nat):Int)<((d.length:Nat):Int):=by omega
   rw[jrs,List.drop_length];simp only[jo,nlt];rfl
  .intro k hk ih2;have hlt:(k:Int)<((d.length:Nat):Int):=by omega
   have h5:=js hk (by show d.length<=9223372036854775807;omega)
   have x1:jk 3 (.sl 3 (d.map jD)) (vi (k:Nat))=some (.elt (jD d[k]) 0):=jb hk;have hPx:=hd _ (List.getElem_mem hk);rw[jr hk,List.findSome?_cons];generalize d[k]=x at x1 hPx⊢;have y0:kQ (.elt (jD x) 0) 0=some (.elt (jD x) 0):=rfl;have y1:jZ (.elt (jD x) 0)=some (vb x.1):=rfl;have y2:kQ (.elt (jD x) 0) 1=some (.elt (jD x) 1):=rfl;have y3:jL 2 (.elt (jD x) 1)=some (tm x.2):=rfl;have mq:=jiF l.2 hPl.tz x.2 m hPx.tz hm (by have:=hPl.2.1;omega);rw[jrs];by_cases hb:x.1=l.1
   .rw [if_pos hb];cases hq:mt m l.2 x.2 with
    |none=>
     rw[hq]at mq;obtain⟨R,mq⟩:=mq;have hR1:hR 259 (A.top,[vb false,.sl 259 R]) 1=some R:=rfl;rw[Option.bind_none];simp only[jo,hlt,x1,a1,z0,z1,z2,z3,y0,y1,y2,y3,hb,pr,fm,List.length_map,mq,hR1,h5,List.getElem?_cons_zero];exact ih2
    |some m1=>
     rw[hq]at mq;have mq:Yf (tm l.2) (tm x.2) (m.map bc)=some (.top,[vb true,.sl 259 (m1.map bc)]):=mq;have hR1:hR 259 (A.top,[vb true,.sl 259 (m1.map bc)]) 1=some (m1.map bc):=rfl;obtain⟨v1,v2⟩:=jfo (p:=Tz) (λ_ h=>h.args) l.2 hm hPx.tz hq;have e2:=ih m1 v1 (by have:=hPl.2.1;omega);rw[Option.bind_some];cases hs:jc6 d (c.drop (i+1)) m1 with
     |none=>
      rw[hs]at e2;have e2:G 80 [.agg [.sl 3 (c.map jD)],vi ((i+1:Nat):Int),.agg [.sl 3 (d.map jD)],.sl 3 (m1.map bc)]=some (.tup [.sl 3 (m1.map bc),vb false],[]):=e2;simp only[jo,hlt,x1,a1,z0,z1,z2,z3,y0,y1,y2,y3,hb,pr,fm,List.length_map,mq,hR1,h5,c1,e2,List.getElem?_cons_zero];exact ih2
     |some m2=>
      rw[hs]at e2;have e2:G 80 [.agg [.sl 3 (c.map jD)],vi ((i+1:Nat):Int),.agg [.sl 3 (d.map jD)],.sl 3 (m1.map bc)]=some (.tup [.sl 3 (m2.map bc),vb true],[]):=e2;simp only[jo,hlt,x1,a1,z0,z1,z2,z3,y0,y1,y2,y3,hb,pr,fm,List.length_map,mq,hR1,h5,c1,e2,List.getElem?_cons_zero];rfl
   .have hb':¬l.1=x.1:=λh=>hb h.symm;rw[if_neg hb];simp only[jo,hlt,x1,a1,z0,z1,y0,y1,hb',h5];exact ih2
def zP(d:jP)(i:Nat):Option Lt:=if i=0 then none else d[i-1]?
theorem jlj(d:jP)(hd:CN d):G 44 [cm d]=some (vb (yi none d),[]):=by
 have key:=upto (n:=d.length) (P:=λi=>jfX (.sl 3 (d.map jD)) (vi (d.length:Nat)) (vi (i:Nat)) (.sl 3 (d.map jD))=some (vb (yi (zP d i) (d.drop i)),[])) ?_ ?_ 0 (Nat.zero_le _)
 .simp only[Int.natCast_zero,List.drop_zero]at key;rw[g44];simp only[jo,key];rfl
 .have nlt:¬((d.length:Nat):Int)<((d.length:Nat):Int):=by omega
  rw[jrb,List.drop_length];rw[jeu];simp only[jo,nlt]
 .intro i hi ih;have hlt:(i:Int)<((d.length:Nat):Int):=by omega
  have h5:=js hi (by have:=hd.1;show d.length<=9223372036854775807;omega)
  have x1:jk 3 (.sl 3 (d.map jD)) (vi (i:Nat))=some (.elt (jD d[i]) 0):=jb hi;have hb:=(hd.2 _ (List.getElem_mem hi)).1;have hz:=(hd.tz _ (List.getElem_mem hi));have hp1:zP d (i+1)=some d[i]:=by
   unfold zP;rw[if_neg (by omega),Nat.add_sub_cancel,List.getElem?_eq_getElem hi]
  rw[hp1]at ih;rw[jr hi,jdc];have hprev:(i=0/\zP d i=none)\/ ∃q,zP d i=some q/\0<i/\jk 3 (.sl 3 (d.map jD)) (vi ((i:Nat)-1:Int))=some (.elt (jD q) 0)/\Tz q.2:=by
   by_cases h0:i=0
   .exact Or.inl ⟨h0,by unfold zP;rw[if_pos h0]⟩
   .have hi1:i-1<d.length:=by omega
    refine Or.inr ⟨d[i-1],by unfold zP;rw[if_neg h0,List.getElem?_eq_getElem hi1],by omega,?_,hd.tz _ (List.getElem_mem hi1)⟩
    rw[show((i:Nat):Int)-1=((i-1:Nat):Int) by omega];exact jb hi1
  generalize d[i]=l at x1 hb hz ih⊢;have y3:jL 3 (.elt (jD l) 0)=some (ltm l):=rfl;have ie:=Jr l.2;have ie:G 66 [.agg [sv l.2.name,.sl 2 (l.2.args.map jq)]]=some (vb (decide (l.2.name=[61])),[]):=ie;have second:∀(sel:Bool),sel=zn l->((pG (vb sel) false (some (vi (i:Nat)))).bind λt23=>(pG (vb sel) false (jz .gtr false t23 (vi 0))).bind λt24=>(pG (vb sel) false (some t24)).bind λt25=>(z7 t25 true).bind λ_=>(pG t25 true (some (.sl 3 (d.map jD)))).bind λt27=>(pG t25 true (some (vi (i:Nat)))).bind λt28=>(pG t25 true (jz .sub false t28 (vi 1))).bind λt29=>(pG t25 true (jk 3 t27 t29)).bind λt30=>(pG t25 true (kQ t30 1)).bind λt31=>(pG t25 true (jL 2 t31)).bind λt32=>(z7 t25 true).bind λ_=>(z7 t25 true).bind λ_=>(pG t25 true ((G 67 [t32,A.agg [sv l.2.name,.sl 2 (l.2.args.map jq)]]).bind (fin false))).bind λt35=>(pG (vb sel) false (yY t25 t35 (vb false))).bind λt36=>(yY (vb sel) (vb true) t36).bind λt37=>(zm t37).bind λt38=>brn t38 (some ((vb true,[]))) ((jz .add false (vi (i:Nat)) (vi 1)).bind λt39=>jfX (.sl 3 (d.map jD)) (vi (d.length:Nat)) t39 (.sl 3 (d.map jD))))=some (vb (zn l || (KL (zP d i) l || yi (some l) (d.drop (i+1)))),[]):=by
   intro sel hsel;rw[<-hsel];cases sel with
   |true=>simp only[jo,Bool.true_or]
   |false=>
    rw[Bool.false_or];rcases hprev with⟨h0,hp⟩|⟨q,hp,hpos,hix,hzq⟩
    .rw [hp,show KL none l=false from rfl,Bool.false_or];subst h0;have n0:¬(0:Int)<((0:Nat):Int):=by decide
     simp only[jo,n0,h5,ih]
    .rw [hp];have p0:(0:Int)<((i:Nat):Int):=by omega
     have c2:ck ((i:Int)-1)=some (vi ((i:Nat)-1:Int)):=by have:=hd.1;exact k9 (by omega) (by omega)
     have w2:kQ (.elt (jD q) 0) 1=some (.elt (jD q) 1):=rfl;have w3:jL 2 (.elt (jD q) 1)=some (tm q.2):=rfl;have eq2:=yO q.2 hzq.wf l.2 hz.wf;have eq2:G 67 [tm q.2,.agg [sv l.2.name,.sl 2 (l.2.args.map jq)]]=some (vb (dq q.2 l.2),[]):=eq2;show _=some (vb (dq q.2 l.2 || yi (some l) (d.drop (i+1))),[]);cases hdq:dq q.2 l.2<;>rw[hdq]at eq2
     .rw [Bool.false_or];simp only[jo,p0,c2,hix,w2,w3,eq2,h5,ih]
     .rw [Bool.true_or];simp only[jo,p0,c2,hix,w2,w3,eq2]
  rw[jrb];cases h1:l.1 with
  |false=>
   have hs:zn l=false:=by unfold zn;rw[h1];rfl
   have:=second false hs.symm;have y3:jL 3 (.elt (jD l) 0)=some (.agg [vb false,sv l.2.name,.sl 2 (l.2.args.map jq)]):=by rw[<-h1];exact y3
   generalize hX:(some (vb (zn l || (KL (zP d i) l || yi (some l) (d.drop (i+1)))),[]):Xe)=X at this⊢;simp only[jo,hlt,x1,y3];simp only[jo]at this;exact this
  |true=>
   have y3:jL 3 (.elt (jD l) 0)=some (.agg [vb true,sv l.2.name,.sl 2 (l.2.args.map jq)]):=by rw[<-h1];exact y3
   by_cases hn:l.2.name=[61]
   .rw [decide_eq_true hn]at ie;have h2:l.2.args.length=2:=by
     rcases hb with h|h
     .exact h.2.1
     .rw [hn]at h;exact absurd h.1 (by decide)
    have i0:jk 2 (.sl 2 (l.2.args.map jq)) (vi 0)=some (.elt (jq (Kk l.2)) 0):=by
     have:=jb (f:=jq) (xs:=l.2.args) (i:=0) (k:=2) (by omega);rw[show l.2.args[0]=Kk l.2 by unfold Kk;rw[List.getD_eq_getElem?_getD,List.getElem?_eq_getElem (by omega)];rfl]at this;exact this
    have i1:jk 2 (.sl 2 (l.2.args.map jq)) (vi 1)=some (.elt (jq (Kw l.2)) 0):=by
     have:=jb (f:=jq) (xs:=l.2.args) (i:=1) (k:=2) (by omega);rw[show l.2.args[1]=Kw l.2 by unfold Kw;rw[List.getD_eq_getElem?_getD,List.getElem?_eq_getElem (by omega)];rfl]at this;exact this
    have hm:=jn3 h2;have eq1:=yO (Kk l.2) (hz.args _ hm.1).wf (Kw l.2) (hz.args _ hm.2).wf;have hs:zn l=dq (Kk l.2) (Kw l.2):=by unfold zn;rw[h1,decide_eq_true hn,Bool.true_and,Bool.true_and]
    have:=second (dq (Kk l.2) (Kw l.2)) hs.symm;generalize hX:(some (vb (zn l || (KL (zP d i) l || yi (some l) (d.drop (i+1)))),[]):Xe)=X at this⊢;simp only[jo,hlt,x1,y3,ie,i0,i1,jp,eq1];simp only[jo]at this;exact this
   .rw [decide_eq_false hn]at ie;have hs:zn l=false:=by unfold zn;rw[h1,decide_eq_false hn];rfl
    have:=second false hs.symm;generalize hX:(some (vb (zn l || (KL (zP d i) l || yi (some l) (d.drop (i+1)))),[]):Xe)=X at this⊢;simp only[jo,hlt,x1,y3,ie];simp only[jo]at this;exact this
noncomputable def Yi(e d:jP):Bool:=(jc6 d e []).isSome
theorem jaL{e d:jP}(he:yf e=true)(hd:yf d=true):G 42 [cm e,cm d]=some (vb (Yi e d),[])/\ ∃m,G 60 [cm e,cm d]=some (.tup [.sl 3 m,vb (Yi e d)],[]):=by
 obtain⟨en,_,_⟩:=zq he;obtain⟨dn,_,_⟩:=zq hd;have e1:=jdb d dn.1 (ZS hd) e en.1 (ZS he) [] (MOk.nil _);have f1:=jiI e d en.1 (ZS he) dn.1 (ZS hd) 0 (Nat.zero_le _) [] (λq h=>by cases h) (by simp);have hop:=jhM d e (m:=[]) (m':=[]) (List.Perm.refl _) (by simp);rw[List.drop_zero]at f1;unfold Yi;cases hM:jc6 d e []with
 |none=>
  cases hN:jdE d e []with
  |some m=>rw[hM,hN]at hop;exact hop.elim
  |none=>
   rw[hN]at e1;rw[hM]at f1;have e1:G 65 [.mp [],.sl 3 (e.map jD),.agg [.sl 3 (d.map jD)]]=some (.tup [.val (.map none),vb false],[]):=e1;have f1:G 80 [.agg [.sl 3 (e.map jD)],vi 0,.agg [.sl 3 (d.map jD)],.sl 3 []]=some (.tup [.sl 3 [],vb false],[]):=f1;refine⟨?_,[],?_⟩
   .rw [g42];simp only[jo,e1,Option.isSome_none]
   .rw [g60];simp only[jo,f1,Option.isSome_none]
 |some mr=>
  cases hN:jdE d e []with
  |none=>rw[hM,hN]at hop;exact hop.elim
  |some m=>
   rw[hN]at e1;rw[hM]at f1;have e1:G 65 [.mp [],.sl 3 (e.map jD),.agg [.sl 3 (d.map jD)]]=some (.tup [.mp (m.map kv),vb true],[]):=e1;have f1:G 80 [.agg [.sl 3 (e.map jD)],vi 0,.agg [.sl 3 (d.map jD)],.sl 3 []]=some (.tup [.sl 3 (mr.map bc),vb true],[]):=f1;refine⟨?_,mr.map bc,?_⟩
   .rw [g42];simp only[jo,e1,Option.isSome_some]
   .rw [g60];simp only[jo,f1,Option.isSome_some]
theorem jls(d:jP)(hd:CN d):G 35 [cm d]=some (vb (yi none d),[]):=by
 have key:=upto (n:=d.length) (P:=λi=>jfW (vi (i:Nat)) (.sl 3 (d.map jD))=some (vb (yi (zP d i) (d.drop i)),[])) ?_ ?_ 0 (Nat.zero_le _)
 .simp only[Int.natCast_zero,List.drop_zero]at key;rw[g35];simp only[jo,key];rfl
 .have nlt:¬((d.length:Nat):Int)<((d.length:Nat):Int):=by omega
  rw[jq9,List.drop_length];rw[jeu];simp only[jo,nlt]
 .intro i hi ih;have hlt:(i:Int)<((d.length:Nat):Int):=by omega
  have h5:=js hi (by have:=hd.1;show d.length<=9223372036854775807;omega)
  have x1:jk 3 (.sl 3 (d.map jD)) (vi (i:Nat))=some (.elt (jD d[i]) 0):=jb hi;have hb:=(hd.2 _ (List.getElem_mem hi)).1;have hz:=(hd.tz _ (List.getElem_mem hi));have hp1:zP d (i+1)=some d[i]:=by
   unfold zP;rw[if_neg (by omega),Nat.add_sub_cancel,List.getElem?_eq_getElem hi]
  rw[hp1]at ih;rw[jr hi,jdc];have hprev:(i=0/\zP d i=none)\/ ∃q,zP d i=some q/\0<i/\jk 3 (.sl 3 (d.map jD)) (vi ((i:Nat)-1:Int))=some (.elt (jD q) 0)/\Tz q.2:=by
   by_cases h0:i=0
   .exact Or.inl ⟨h0,by unfold zP;rw[if_pos h0]⟩
   .have hi1:i-1<d.length:=by omega
    refine Or.inr ⟨d[i-1],by unfold zP;rw[if_neg h0,List.getElem?_eq_getElem hi1],by omega,?_,hd.tz _ (List.getElem_mem hi1)⟩
    rw[show((i:Nat):Int)-1=((i-1:Nat):Int) by omega];exact jb hi1
  generalize d[i]=l at x1 hb hz ih⊢;have y1:jL 2 (.elt (jD l) 1)=some (tm l.2):=rfl;have y2:kQ (.elt (jD l) 0) 1=some (.elt (jD l) 1):=rfl;have y3:jZ (.elt (jD l) 0)=some (vb l.1):=rfl;have y4:kQ (.elt (jD l) 0) 0=some (.elt (jD l) 0):=rfl;have second:((jz .gtr false (vi (i:Nat)) (vi 0)).bind λt26=>(z7 t26 true).bind λ_=>(pG t26 true (some (.sl 3 (d.map jD)))).bind λt28=>(pG t26 true (some (vi (i:Nat)))).bind λt29=>(pG t26 true (jz .sub false t29 (vi 1))).bind λt30=>(pG t26 true (jk 3 t28 t30)).bind λt31=>(pG t26 true (kQ t31 1)).bind λt32=>(pG t26 true (jL 2 t32)).bind λt33=>(z7 t26 true).bind λ_=>(pG t26 true ((G 59 [t33,A.agg [sv l.2.name,.sl 2 (l.2.args.map jq)]]).bind (fin false))).bind λt35=>(yY t26 t35 (vb false)).bind λt36=>(zm t36).bind λt37=>brn t37 (some ((vb true,[]))) ((jz .add false (vi (i:Nat)) (vi 1)).bind λt38=>jfW t38 (.sl 3 (d.map jD))))=some (vb (KL (zP d i) l || yi (some l) (d.drop (i+1))),[]):=by
   rcases hprev with⟨h0,hp⟩|⟨q,hp,hpos,hix,hzq⟩
   .rw [hp,show KL none l=false from rfl,Bool.false_or];subst h0;have n0:¬(0:Int)<((0:Nat):Int):=by decide
    simp only[jo,n0,h5,ih]
   .rw [hp];have p0:(0:Int)<((i:Nat):Int):=by omega
    have c2:ck ((i:Int)-1)=some (vi ((i:Nat)-1:Int)):=by have:=hd.1;exact k9 (by omega) (by omega)
    have w2:kQ (.elt (jD q) 0) 1=some (.elt (jD q) 1):=rfl;have w3:jL 2 (.elt (jD q) 1)=some (tm q.2):=rfl;have eq2:=jac q.2 hzq.wf l.2 hz.wf;have eq2:G 59 [tm q.2,.agg [sv l.2.name,.sl 2 (l.2.args.map jq)]]=some (vb (dq q.2 l.2),[]):=eq2;show _=some (vb (dq q.2 l.2 || yi (some l) (d.drop (i+1))),[]);cases hdq:dq q.2 l.2<;>rw[hdq]at eq2
    .rw [Bool.false_or];simp only[jo,p0,c2,hix,w2,w3,eq2,h5,ih]
    .rw [Bool.true_or];simp only[jo,p0,c2,hix,w2,w3,eq2]
  rw[jq9];cases h1:l.1 with
  |false=>
   have hs:zn l=false:=by unfold zn;rw[h1];rfl
   rw[hs,Bool.false_or];rw[h1]at y3;generalize hX:(some (vb (KL (zP d i) l || yi (some l) (d.drop (i+1))),[]):Xe)=X at second⊢;simp only[jo,hlt,x1,y1,y2,y3,y4];simp only[jo]at second;exact second
  |true=>
   rw[h1]at y3;by_cases hn:l.2.name=[61]
   .have h2:l.2.args.length=2:=by
     rcases hb with h|h
     .exact h.2.1
     .rw [hn]at h;exact absurd h.1 (by decide)
    have i0:jk 2 (.sl 2 (l.2.args.map jq)) (vi 0)=some (.elt (jq (Kk l.2)) 0):=by
     have:=jb (f:=jq) (xs:=l.2.args) (i:=0) (k:=2) (by omega);rw[show l.2.args[0]=Kk l.2 by unfold Kk;rw[List.getD_eq_getElem?_getD,List.getElem?_eq_getElem (by omega)];rfl]at this;exact this
    have i1:jk 2 (.sl 2 (l.2.args.map jq)) (vi 1)=some (.elt (jq (Kw l.2)) 0):=by
     have:=jb (f:=jq) (xs:=l.2.args) (i:=1) (k:=2) (by omega);rw[show l.2.args[1]=Kw l.2 by unfold Kw;rw[List.getD_eq_getElem?_getD,List.getElem?_eq_getElem (by omega)];rfl]at this;exact this
    have hm:=jn3 h2;have eq1:=jac (Kk l.2) (hz.args _ hm.1).wf (Kw l.2) (hz.args _ hm.2).wf;have hs:zn l=dq (Kk l.2) (Kw l.2):=by unfold zn;rw[h1,decide_eq_true hn,Bool.true_and,Bool.true_and]
    rw[hs];cases hdq:dq (Kk l.2) (Kw l.2)<;>rw[hdq]at eq1
    .rw [Bool.false_or];generalize hX:(some (vb (KL (zP d i) l || yi (some l) (d.drop (i+1))),[]):Xe)=X at second⊢;simp only[jo,hlt,x1,y1,y2,y3,y4,hn,i0,i1,jp,eq1];rw[hn]at second;simp only[jo]at second;exact second
    .rw [Bool.true_or];simp only[jo,hlt,x1,y1,y2,y3,y4,hn,i0,i1,jp,eq1]
   .have hs:zn l=false:=by unfold zn;rw[h1,decide_eq_false hn];rfl
    rw[hs,Bool.false_or];generalize hX:(some (vb (KL (zP d i) l || yi (some l) (d.drop (i+1))),[]):Xe)=X at second⊢;simp only[jo,hlt,x1,y1,y2,y3,y4,hn];simp only[jo]at second;exact second
def qJ(p:Prf)(x:Int):jP:=((p.st[x.toNat]?).map Stp.cls).getD []
noncomputable def QE(s:Sch)(c:jP):Bool:=(yi none c || s.act.any λx=>Yi (qJ s.prf x) c) || s.pas.any λx=>Yi (qJ s.prf x) c
section
variable{s:Sch}(hv:∀n (h:n<s.prf.st.length),jN s.prf.st[n].cls=true){c:jP}(hc:jN c=true)
include hv
theorem jkU{x:Int}(hx:0<=x/\x<((s.prf.st.length:Nat):Int)):∃q:Stp,jk 4 (jbi s.prf.st) (vi x)=some (.elt (stc q) 0)/\q.cls=qJ s.prf x/\yf (qJ s.prf x)=true:=by
 obtain⟨n,rfl⟩:=Int.eq_ofNat_of_zero_le hx.1;have hn:n<s.prf.st.length:=by omega
 have h1:=(kE (hv n hn)).2.2.1;have e:qJ s.prf (n:Int)=s.prf.st[n].cls:=by
  unfold qJ;rw[Int.toNat_natCast,List.getElem?_eq_getElem hn];rfl
 rw[e];exact⟨s.prf.st[n],jb hn,rfl,h1⟩
include hc
theorem jtA{x:Int}(hx:0<=x/\x<((s.prf.st.length:Nat):Int)):G 41 [vi x,.elt [.elt (scc s) 0] 0,.elt (ze c) 0]=some (vb (Yi (qJ s.prf x) c),[]):=by
 obtain⟨q,q1,q2,q3⟩:=jkU hv hx;have ck0:jiU (.elt (scc s) 0)=some (.elt (scc s) 0):=rfl;have ad0:kQ (.elt (scc s) 0) 0=some (.elt (scc s) 0):=by rw[ko]
 have ad1:kQ (.elt (scc s) 0) 1=some (.elt (scc s) 1):=by rw[ko,Nat.zero_add]
 have ld1:jZ (.elt (scc s) 1)=some (jbi s.prf.st):=rfl;have cl:G 43 [.elt (scc s) 0,vi x]=some (cm q.cls,[]):=by
  rw[g43];simp only[jo,ck0,ad0,ad1,ld1,q1,adS,ldC]
 have l0:jZ (.elt [.elt (scc s) 0] 0)=some (.elt (scc s) 0):=rfl;have l1:jL 1 (.elt (ze c) 0)=some (cm c):=rfl;have fc:fin false (cm q.cls,[])=some (cm q.cls):=rfl;have e:=(jaL q3 (kE hc).2.2.1).1;rw[q2]at cl fc;rw[g41];simp only[jo,l0,l1,cl,fc,e]
theorem ZY(l:Xi)(hl:l.length<=1048576)(hr:∀x∈l,0<=x/\x<((s.prf.st.length:Nat):Int)):G 45 [ints l,.fn 41 [.elt [.elt (scc s) 0] 0,.elt (ze c) 0]]=some (vb (l.any λx=>Yi (qJ s.prf x) c),[]):=by
 have key:=upto (P:=λj=>∃k:Int,jjM (ints l) (.fn 41 [.elt [.elt (scc s) 0] 0,.elt (ze c) 0]) (vi (l.length:Nat)) (vi (j:Nat))=some (vi k,[])/\decide (k>=0)=(l.drop j).any λx=>Yi (qJ s.prf x) c) (n:=l.length) ?_ ?_ 0 (Nat.zero_le _)
 .obtain ⟨k,h1,h2⟩:=key;simp only[Int.natCast_zero,List.drop_zero]at h1 h2;have e2:G 68 [ints l,.fn 41 [.elt [.elt (scc s) 0] 0,.elt (ze c) 0]]=some (vi k,[]):=by
   rw[g68];simp only[jo,h1]
  rw[g45,<-h2];simp only[jo,e2]
 .refine ⟨-1,?_,?_⟩
  .rw [jrn];simp only[jo]
  .rw [List.drop_length];rfl
 .intro j hj ⟨k,ih1,ih2⟩;have hlt:(j:Int)<((l.length:Nat):Int):=by omega
  have h5:=js hj (by show l.length<=9223372036854775807;omega)
  have e1:=jtA hv hc (hr _ (List.getElem_mem hj));have x1:jk 1 (ints l) (vi (j:Nat))=some (.elt (ci l[j]) 0):=jb hj;rw[jrn,jr hj,List.any_cons];generalize l[j]=x at e1 x1⊢;have hpu:K.pureF 41=true:=rfl;have cc:DX.run K (MM K) (.callc (.fn 41 [.elt [.elt (scc s) 0] 0,.elt (ze c) 0]) [vi x] false)=some (vb (Yi (qJ s.prf x) c)):=by
   rw[yT hpu];show(G 41 [vi x,.elt [.elt (scc s) 0] 0,.elt (ze c) 0]).bind _=_;rw[e1];rfl
  cases hn:Yi (qJ s.prf x) c<;>rw[hn]at cc
  .refine ⟨k,?_,?_⟩
   .simp only[jo,hlt,x1,jqe,cc,h5,ih1]
   .rw [ih2,Bool.false_or]
  .refine ⟨j,?_,?_⟩
   .simp only[jo,hlt,x1,jqe,cc]
   .rw [decide_eq_true (by omega)];rfl
theorem jb1(l:Xi)(hl:l.length<=1048576)(hr:∀x∈l,0<=x/\x<((s.prf.st.length:Nat):Int)):G 36 [prm s.prf,ints l,cm c]=some (vb (l.any λx=>Yi (qJ s.prf x) c),[]):=by
 have key:=upto (P:=λj=>jjD (ints l) (vi (j:Nat)) (cls s.prf.ax) (jbi s.prf.st) (.sl 3 (c.map jD))=some (vb ((l.drop j).any λx=>Yi (qJ s.prf x) c),[])) (n:=l.length) ?_ ?_ 0 (Nat.zero_le _)
 .simp only[Int.natCast_zero,List.drop_zero]at key;rw[g36];simp only[jo,key]
 .rw [jra,List.drop_length];simp only[jo];rfl
 .intro j hj ih;have hlt:(j:Int)<((l.length:Nat):Int):=by omega
  have h5:=js hj (by show l.length<=9223372036854775807;omega)
  have x1:jk 1 (ints l) (vi (j:Nat))=some (.elt (ci l[j]) 0):=jb hj;have hx:=hr _ (List.getElem_mem hj);rw[jra,jr hj,List.any_cons];generalize l[j]=x at hx x1⊢;obtain⟨q,q1,q2,q3⟩:=jkU hv hx;obtain⟨m,e⟩:=(jaL q3 (kE hc).2.2.1).2;rw[<-q2]at e⊢;cases hn:Yi q.cls c<;>rw[hn]at e
  .rw [Bool.false_or];simp only[jo,hlt,x1,jqe,q1,adS,ldC,e,h5,ih]
  .rw [Bool.true_or];simp only[jo,hlt,x1,jqe,q1,adS,ldC,e]
theorem jhq(hl:s.act.length+s.pas.length<=1048576)(hr:∀x∈s.act++s.pas,0<=x/\x<((s.prf.st.length:Nat):Int)) :
  G 20 [.elt (scc s) 0,cm c]=some (vb (QE s c),[])/\G 16 [scm s,cm c]=some (vb (QE s c),[]):=by
 have cn:=(kE hc).1;have t1:=jlj c cn;have t2:=jls c cn;have a1:=ZY hv hc s.act (by omega) λx hx=>hr x (List.mem_append_left _ hx);have a2:=ZY hv hc s.pas (by omega) λx hx=>hr x (List.mem_append_right _ hx);have b1:=jb1 hv hc s.act (by omega) λx hx=>hr x (List.mem_append_left _ hx);have b2:=jb1 hv hc s.pas (by omega) λx hx=>hr x (List.mem_append_right _ hx);have ok0:kJ (.elt (scc s) 0)=true:=rfl;have ck0:jiU (.elt (scc s) 0)=some (.elt (scc s) 0):=rfl;have ad2:kQ (.elt (scc s) 0) 2=some (.elt (scc s) 2):=by rw[ko,Nat.zero_add]
 have ad3:kQ (.elt (scc s) 0) 3=some (.elt (scc s) 3):=by rw[ko,Nat.zero_add]
 have ld2:jZ (.elt (scc s) 2)=some (ints s.act):=rfl;have ld3:jZ (.elt (scc s) 3)=some (ints s.pas):=rfl;have fb:∀b:Bool,fin true (vb b,[])=some (vb b):=λb=>rfl;unfold QE;constructor
 .rw [g20];cases h1:yi none c<;>rw[h1]at t1
  .cases h2:(s.act.any λx=>Yi (qJ s.prf x) c)<;>rw[h2]at a1
   .simp only[jo,ok0,t1,ck0,ad2,ad3,ld2,ld3,a1,a2,fb,Bool.false_or]
   .simp only[jo,ok0,t1,ck0,ad2,ld2,a1,fb,Bool.false_or,Bool.true_or]
  .simp only[jo,ok0,t1,Bool.true_or]
 .rw [g16];cases h1:yi none c<;>rw[h1]at t2
  .cases h2:(s.act.any λx=>Yi (qJ s.prf x) c)<;>rw[h2]at b1
   .simp only[jo,t2,b1,b2,jgg,Bool.false_or]
   .simp only[jo,t2,b1,jgg,Bool.false_or,Bool.true_or]
  .simp only[jo,t2,Bool.true_or]
end
theorem jgT(c:jP)(hl:c.length<=1000)(hz:∀x∈c,Tz x.2):G 15 [cm c]=some (cm c,[]):=by
 have key:=upto (P:=λi=>jjx (vi (i:Nat)) (.sl 3 (c.map jD)) [] ((c.take i).map jD)=some (cm c,[])) (n:=c.length) ?_ ?_ 0 (Nat.zero_le _)
 .simp only[Int.natCast_zero,List.take_zero,List.map_nil]at key;rw[g15];simp only[jo,key]
 .have nlt:¬((c.length:Nat):Int)<((c.length:Nat):Int):=by omega
  rw[jq2,List.take_length];simp only[jo,nlt]
 .intro i hi ih;have hlt:(i:Int)<((c.length:Nat):Int):=by omega
  have e1:=jsK c[i].2 (hz _ (List.getElem_mem _));have ta:=QS (f:=jD) hi;have tl:=take_len (f:=jD) (Nat.le_of_lt hi);have hf:zo (i+1) 48=true:=juu (by omega);have ld:∀l:Lt,jZ (.elt (jD l) 0)=some (vb l.1):=λl=>rfl;have ad:∀(l:Lt)(n:Nat),kQ (.elt (jD l) 0) n=some (.elt (jD l) n):=λl n=>by rw[ko,Nat.zero_add]
  have ld2:∀l:Lt,jL 2 (.elt (jD l) 1)=some (tm l.2):=λl=>rfl;have ix:=jb (k:=3) (f:=jD) hi;generalize (c.take i).map jD=R at *;generalize c[i]=l at *;rw[jq2];simp only[jo,hlt,ix,ad,ld,ld2,e1];generalize hB:K3 _ _ _=B;have hB':B=some (ltm l):=by rw[<-hB];kernel_rfl
  rw[hB'];have hck:ck ((i:Int)+1)=some (vi ((i+1:Nat):Int)):=k9 (by omega) (by omega);simp only[jo,tl,hf,ta,hck,ih]
def Yq(i:Nat)(c:jP):Stp:=⟨1,[],[(i:Int)],c⟩
noncomputable def jh9(s:Sch)(i:Nat)(c:jP):Sch:=if QE s c then s else⟨⟨s.prf.ax,s.prf.st++[Yq i c]⟩,s.act,s.pas++[(s.prf.st.length:Int)],s.lost⟩
noncomputable def jc0:List jP->Nat->Sch->Sch
 | [],_,s=>s
 |c::r,i,s=>jc0 r (i+1) (jh9 s i c)
def noS:Sch:=⟨⟨[],[]⟩,[],[],false⟩
noncomputable def kP(l:List jP):Sch:=if l.length<=30/\l.all jN=true then jc0 l 0 ⟨⟨l,[]⟩,[],[],false⟩else noS
noncomputable def jar(l:List jP):Bool:=if l.length<=30/\l.all jN=true then true else false
structure StI(l:List jP)(i:Nat)(s:Sch):Prop where
 ax:s.prf.ax=l
 act:s.act=[]
 lost:s.lost=false
 st:s.prf.st.length<=i
 pas:s.pas.length<=i
 rng:∀x∈s.pas,0<=x/\x<((s.prf.st.length:Nat):Int)
 nrm:∀n (h:n<s.prf.st.length),jN s.prf.st[n].cls=true
 mem:∀q∈s.prf.st,∃(j:Nat)(c:jP),q=Yq j c/\j<i/\c∈l
theorem StI.zero(l:List jP):StI l 0 ⟨⟨l,[]⟩,[],[],false⟩:=⟨rfl,rfl,rfl,Nat.le_refl _,Nat.le_refl _,λ_ h=>(List.not_mem_nil h).elim,λn h=>absurd h (Nat.not_lt_zero n),λ_ h=>(List.not_mem_nil h).elim⟩
theorem StI.add{l:List jP}{i:Nat}{s:Sch}(h:StI l i s){c:jP}(hc:jN c=true)(hm:c∈l):StI l (i+1) (jh9 s i c):=by
 unfold jh9;cases hr:QE s c with
 |true=>rw[if_pos rfl];exact⟨h.ax,h.act,h.lost,Nat.le_succ_of_le h.st,Nat.le_succ_of_le h.pas,h.rng,h.nrm,λq hq=>by obtain⟨j,d,e1,e2,e3⟩:=h.mem q hq;exact⟨j,d,e1,by omega,e3⟩⟩
 |false=>
  rw[if_neg Bool.false_ne_true];have h1:=h.st;have h2:=h.pas;refine⟨h.ax,h.act,h.lost,by simp;omega,by simp;omega,λx hx=>?_,λn hn=>?_,λq hq=>?_⟩
  .have hl:(((s.prf.st++[Yq i c]).length:Nat):Int)=(s.prf.st.length:Int)+1:=by simp
   show 0<=x/\x<(((s.prf.st++[Yq i c]).length:Nat):Int);rw[hl];rcases List.mem_append.1 hx with hx|hx
   .have:=h.rng x hx;omega
   .rw [List.mem_singleton]at hx;omega
  .have hn':n<s.prf.st.length+1:=by simpa using hn
   show jN (s.prf.st++[Yq i c])[n].cls=true;by_cases hh:n<s.prf.st.length
   .rw [List.getElem_append_left hh];exact h.nrm n hh
   .rw [List.getElem_append_right (by omega)];have e:n-s.prf.st.length=0:=by omega
    simp only[e,List.getElem_cons_zero];exact hc
  .rcases List.mem_append.1 hq with hq|hq
   .obtain ⟨j,d,e1,e2,e3⟩:=h.mem q hq;exact⟨j,d,e1,by omega,e3⟩
   .rw [List.mem_singleton]at hq;exact⟨i,c,hq,by omega,hm⟩
theorem StI.run{l:List jP} :∀(r:List jP)(i:Nat)(s:Sch),StI l i s->(∀c∈r,jN c=true/\c∈l)->StI l (i+r.length) (jc0 r i s)
 | [],i,s,h,_=>h
 |c::r,i,s,h,hr=>by
  have:=StI.run r (i+1) _ (h.add (hr c (by simp)).1 (hr c (by simp)).2) λd hd=>hr d (by simp[hd]);rw[List.length_cons,show i+(r.length+1)=i+1+r.length by omega];exact this
theorem StI.red{l:List jP}{i:Nat}{s:Sch}(h:StI l i s)(hi:i<=1000):s.act.length+s.pas.length<=1048576/\ ∀x∈s.act++s.pas,0<=x/\x<((s.prf.st.length:Nat):Int):=by
 have h2:=h.pas;rw[h.act];exact⟨by simp;omega,h.rng⟩
theorem jjc(l:List jP)(h:l.length<=30/\l.all jN=true):StI l l.length (kP l):=by
 unfold kP;rw[if_pos h];have:=StI.run l 0 _ (StI.zero l) λc hc=>⟨List.all_eq_true.1 h.2 c hc,hc⟩;rwa[Nat.zero_add]at this
theorem jkT(s:List Stp)(i:Nat)(c:jP):(s++[Yq i c]).map stc=s.map stc++[[vi 1,.sl 1 [],.sl 1 [[vi (i:Nat)]],.sl 3 (c.map jD)]]:=by rw[List.map_append];rfl
theorem jhl(s:Xi)(n:Nat):(s++[(n:Int)]).map ci=s.map ci++[[vi (n:Nat)]]:=by rw[List.map_append];rfl
theorem pFs{n:Nat}(h:n<=1000):zo n 8=true/\zo n 24=true/\zo n 80=true:=by
 refine⟨?_,?_,?_⟩<;>(unfold zo;rw[decide_eq_true_eq];omega)
theorem jsX(l:List jP)(hl:l.length<=30)(hn:∀c∈l,jN c=true):∀i,i<=l.length-> ∀s:Sch,StI l i s->jh4 (cls l) (vi (i:Nat)) (vb false) (vb s.lost) [] [] [] [] (s.prf.ax.map ze) (s.prf.st.map stc) (s.act.map ci) (s.pas.map ci)=some (.tup [scm (jc0 (l.drop i) i s),vb true],[]):=by
 refine upto (P:=λi=>∀s:Sch,StI l i s->jh4 (cls l) (vi (i:Nat)) (vb false) (vb s.lost) [] [] [] [] (s.prf.ax.map ze) (s.prf.st.map stc) (s.act.map ci) (s.pas.map ci)=some (.tup [scm (jc0 (l.drop i) i s),vb true],[])) ?_ ?_
 .intro s hs;have nlt:¬((l.length:Nat):Int)<((l.length:Nat):Int):=by omega
  rw[juk,List.drop_length];simp only[jo,nlt];rfl
 .intro i hi ih s hs;have hlt:(i:Int)<((l.length:Nat):Int):=by omega
  have x1:jk 1 (cls l) (vi (i:Nat))=some (.elt (ze l[i]) 0):=jb hi;have hc:=hn _ (List.getElem_mem hi);have hm:=List.getElem_mem hi;have ih:=ih _ (hs.add hc hm);rw[juk,jr hi];generalize l[i]=c at *;have cn:=(kE hc).1;obtain⟨r1,r2⟩:=hs.red (by omega);have e1:=(jhq hs.nrm hc r1 r2).2;have e2:=jgT c (by have:=cn.1;omega) cn.tz;have y1:jL 1 (.elt (ze c) 0)=some (cm c):=rfl;have hck:ck ((i:Int)+1)=some (vi ((i+1:Nat):Int)):=k9 (by omega) (by omega);have h1:=hs.st;have h2:=hs.pas;have f1:=(pFs (n:=s.pas.length+1) (by omega)).1;have f2:=(pFs (n:=s.prf.st.length+1) (by omega)).2.2;rw[jc0];unfold jh9 at ih⊢;cases hr:QE s c<;>rw[hr]at e1 ih
  .rw [if_neg Bool.false_ne_true]at ih⊢;simp only[jkT,jhl]at ih;have q1:Jw (s.prf.st.map stc) [[vi 1,.sl 1 [],.sl 1 [[vi (i:Nat)]],.sl 3 (c.map jD)]]=s.prf.st.map stc++[[vi 1,.sl 1 [],.sl 1 [[vi (i:Nat)]],.sl 3 (c.map jD)]]:=rfl;have q2:Jw (s.pas.map ci) [[vi (s.prf.st.length:Nat)]]=s.pas.map ci++[[vi (s.prf.st.length:Nat)]]:=rfl;simp only[jo,hlt,x1,y1,e1,e2,f1,f2,hck,q1,q2,ih]
  .rw [if_pos rfl]at ih⊢;simp only[jo,hlt,x1,y1,e1,hck,ih]
theorem jhI(l:List jP)(hl:l.length<=1048576)(hz:∀c∈l,Cz c):G 5 [cls l]=some (.tup [scm (kP l),vb (jar l)],[]):=by
 rw[g5];by_cases h1:((l.length:Nat):Int) > 30
 .have h1':¬(l.length<=30/\l.all jN=true):=λh=>by have:=h.1;omega
  unfold kP jar;rw[if_neg h1',if_neg h1'];simp only[jo,h1];rfl
 have h30:l.length<=30:=by omega
 have key:=upto (P:=λi=>jpl (cls l) (vi (i:Nat)) (vb false) (vb false) [] [] [] [] ((l.take i).map ze) [] [] []=if(l.drop i).all jN=true then jh4 (cls l) (vi 0) (vb false) (vb false) [] [] [] [] (l.map ze) [] [] []else some (.tup [scm noS,vb false],[])) (n:=l.length) ?_ ?_ 0 (Nat.zero_le _)
 .simp only[Int.natCast_zero,List.drop_zero,List.take_zero,List.map_nil]at key;simp only[jo,h1,key];unfold kP jar;by_cases h2:l.all jN=true
  .rw [if_pos h2,if_pos ⟨h30,h2⟩,if_pos ⟨h30,h2⟩];have:=jsX l h30 (List.all_eq_true.1 h2) 0 (Nat.zero_le _) _ (StI.zero l);rw[List.drop_zero]at this;exact this
  .rw [if_neg h2,if_neg (λh=>h2 h.2),if_neg (λh=>h2 h.2)]
 .have nlt:¬((l.length:Nat):Int)<((l.length:Nat):Int):=by omega
  rw[juj,List.drop_length,List.take_length];simp only[jo,nlt]
 .intro i hi ih;have hlt:(i:Int)<((l.length:Nat):Int):=by omega
  have x1:jk 1 (cls l) (vi (i:Nat))=some (.elt (ze l[i]) 0):=jb hi;have hcz:=hz _ (List.getElem_mem hi);have e0:=jgR l[i] hcz.1 hcz.2;have ta:=QS (f:=ze) hi;have tl:=take_len (f:=ze) (Nat.le_of_lt hi);have hf:=(pFs (n:=i+1) (by omega)).2.1;have hck:ck ((i:Int)+1)=some (vi ((i+1:Nat):Int)):=k9 (by omega) (by omega);rw[juj,jr hi,List.all_cons];generalize (l.take i).map ze=R at *;generalize l[i]=c at *;have y1:jL 1 (.elt (ze c) 0)=some (cm c):=rfl;cases hn:jN c<;>rw[hn]at e0
  .rw [Bool.false_and,if_neg Bool.false_ne_true];simp only[jo,hlt,x1,y1,e0];rfl
  .have cn:=(kE hn).1;have e2:=jgT c (by have:=cn.1;omega) cn.tz;rw[Bool.true_and];simp only[jo,hlt,x1,y1,e0,e2,tl,hf,ta,hck,ih]
end Go.Proofs.YtcmflcpoohgmmaaGreatDoor
