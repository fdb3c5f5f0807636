/- Pd -/
import Derived.Test.YtkkcepmpbackoaaGreatDoorPb
import Derived.Test.YtkkcepmpbackoaaGreatDoorSn
import Derived.Test.YtkkcepmpbackoaaGreatDoorE23
import Derived.Test.YtkkcepmpbackoaaGreatDoorPa
import Derived.Test.YtkkcepmpbackoaaGreatDoorPq
namespace Go.Proofs.YtkkcepmpbackoaaGreatDoor
open Go Go.RowKit Go.Proofs.YtkkcepmpbackoaaGreatDoor.Abs
set_option linter.unusedSimpArgs false
set_option linter.unusedVariables false
set_option maxHeartbeats 1000000
def yE(t:T):Bool:=if t.name=[61]then jfo t else qz t.name && kV t
theorem jf5(t:T)(hw:KZ t)(hs:tsz t<=1048576):G 86 [tm t]=some (vb (yE t),[]):=by
 unfold yE;by_cases he:t.name=[61]
 .rw [if_pos he];exact jed t hw hs he
 .have e1:=Yh t.name ((kQ t).1 hw).1;have e2:=YV t hw hs;rw[if_neg he,g86];cases h:qz t.name<;>rw[h]at e1
  .simp only[jg,he,e1,Bool.false_and]
  .simp only[jg,he,e1,e2,Bool.true_and]
theorem jd7(t:T)(hw:KZ t)(hs:tsz t<=1048576):G 108 [tm t]=some (vb (yE t),[]):=by
 unfold yE;by_cases he:t.name=[61]
 .rw [if_pos he];exact jcV t hw hs he
 .have e0:=KR t;rw[decide_eq_false he]at e0;have e1:=jcw t.name ((kQ t).1 hw).1;have e2:=Ye t hw hs;rw[if_neg he,jxU];cases h:qz t.name<;>rw[h]at e1
  .simp only[jg,e0,e1,Bool.false_and]
  .simp only[jg,e0,e1,e2,Bool.true_and]
abbrev cm(c:kg):A:= .agg [.sl 3 (c.map jD)]
def zN(c:kg):Bool:=c.all (λl=>yE l.2) && (jiE c && decide (c.length<=8))
theorem jmI{t:T}(h:yE t=true):Rx' t:=by
 unfold yE at h;by_cases he:t.name=[61]
 .rw [if_pos he]at h;unfold jfo at h;rw[Bool.and_eq_true,decide_eq_true_eq,Bool.and_eq_true,Bool.and_eq_true]at h;refine Or.inr ⟨he,λu hu=>?_⟩;obtain⟨n,us⟩:=t
  match us,h.1 with
  | [a,b],_=>
   have hu:u ∈ [a,b]:=hu;simp only[List.mem_cons,List.not_mem_nil,or_false]at hu;rcases hu with rfl|rfl
   .exact h.2.2.1
   .exact h.2.2.2
 .rw [if_neg he,Bool.and_eq_true]at h;have h2:=h.2;unfold kV at h2;rw[Bool.and_eq_true]at h2;exact Or.inl h2.2
theorem jaJ(l:Lt)(hz:Tz l.2):G 95 [ltm l]=some (vb (yE l.2),[]):=by
 have e:=jd7 l.2 hz.wf hz;rw[g95];simp only[jg,e]
def ZZ:Option Lt->kg->Bool
 |_,[]=>true
 |none,l::r=>yE l.2 && ZZ (some l) r
 |some p,l::r=>yE l.2 && (decide (cmpL p l<0) && ZZ (some l) r)
theorem jgK:∀(p:Lt)(c:kg),ZZ (some p) c=(c.all (λl=>yE l.2) && jiE (p::c))
 |p,[]=>rfl
 |p,l::r=>by
  rw[ZZ,jgK l r,List.all_cons,jiE];cases yE l.2<;>cases decide (cmpL p l<0)<;>simp
theorem jgJ(c:kg):(ZZ none c && decide (c.length<=8))=zN c:=by
 unfold zN;cases c with
 |nil=>rfl
 |cons l r=>rw[ZZ,jgK,List.all_cons];cases yE l.2<;>simp[Bool.and_assoc]
theorem zy(l:Lt):jbr 3 (.elt (jD l) 0)=some (ltm l):=rfl
theorem jkF(c:kg)(hl:c.length<=1048576)(hz:∀l∈c,Tz l.2):∀i,i<=c.length-> ∀p:Option Lt,(p=none↔i=0)->(∀q,p=some q->yE q.2=true/\ ∃h:i-1<c.length,c[i-1]=q)->
  jmu (.sl 3 (c.map jD)) (vi (c.length:Nat)) (vi (i:Nat)) (.sl 3 (c.map jD))=some (vb (ZZ p (c.drop i) && decide (c.length<=8)),[]):=by
 refine upto ?_ ?_
 .intro p _ _;have e:decide (((c.length:Nat):Int)<=8)=decide (c.length<=8):=by congr 1;exact propext (by omega)
  rw[ju4,List.drop_length,<-e];have:ZZ p []=true:=by cases p<;>rfl
  rw[this];simp only[jg,Bool.true_and]
 .intro i hi ih p hp hq;have hlt:(i:Int)<((c.length:Nat):Int):=by omega
  have h5:=jy hi (by show c.length<=9223372036854775807;omega)
  have e1:=jaJ c[i] (hz _ (List.getElem_mem hi));have ix:=jb (k:=3) (f:=jD) hi;have e1:G 95 [.agg [vb c[i].1,sv c[i].2.name,jS c[i].2.args]]=some (vb (yE c[i].2),[]):=e1;rw[ju4,js hi];cases ha:yE c[i].2 with
  |false=>
   rw[ha]at e1;have:ZZ p (c[i]::c.drop (i+1))=false:=by cases p<;>rw[ZZ,ha]<;>rfl
   rw[this];simp only[jg,hlt,ix,zy,e1,Bool.false_and]
  |true=>
   rw[ha]at e1;have ih1:=ih (some c[i]) (by simp) (λq hq=>by cases hq;exact⟨ha,by simpa using hi,rfl⟩);cases p with
   |none=>
    have h0:i=0:=hp.1 rfl;have hg:¬(0:Int)<(i:Int):=by omega
    rw[ZZ,ha,Bool.true_and,<-ih1];simp only[jg,hlt,ix,zy,e1,hg,h5]
   |some q=>
    obtain⟨hqa,hq1,hq2⟩:=hq q rfl;have hi0:¬i=0:=λh=>by have:=hp.2 h;cases this
    have hg:(0:Int)<(i:Int):=by omega
    have c1:ck ((i:Int)-1)=some (vi ((i-1:Nat):Int)):=by rw[show(i:Int)-1=((i-1:Nat):Int) by omega,jZ (by omega) (by omega)]
    have ix2:=jb (k:=3) (f:=jD) hq1;rw[hq2]at ix2;have hqz:Tz q.2:=by rw[<-hq2];exact hz _ (List.getElem_mem hq1)
    have e2:=Kb q c[i] (jmI hqa) hqz (jmI ha) (hz _ (List.getElem_mem hi));have e2:G 96 [.agg [vb q.1,sv q.2.name,jS q.2.args],.agg [vb c[i].1,sv c[i].2.name,jS c[i].2.args]]=some (vi (cmpL q c[i]),[]):=e2;rw[ZZ,ha,Bool.true_and];by_cases hc:cmpL q c[i]<0
    .have hc':¬(0:Int)<=cmpL q c[i]:=by omega
     rw[decide_eq_true hc,Bool.true_and,<-ih1];generalize cmpL q c[i]=d at *;simp only[jg,hlt,ix,zy,e1,hg,c1,ix2,e2,hc',h5]
    .have hc':(0:Int)<=cmpL q c[i]:=by omega
     rw[decide_eq_false hc];generalize cmpL q c[i]=d at *;simp only[jg,hlt,ix,zy,e1,hg,c1,ix2,e2,hc',Bool.false_and]
theorem K6(c:kg)(hl:c.length<=1048576)(hz:∀l∈c,Tz l.2):G 53 [cm c]=some (vb (zN c),[]):=by
 have key:=jkF c hl hz 0 (Nat.zero_le _) none (by simp) (λq h=>by cases h);rw[List.drop_zero,jgJ]at key;simp only[Int.natCast_zero]at key;rw[g53];simp only[jg,key]
theorem jkG(c:kg)(hl:c.length<=1048576)(hz:∀l∈c,Tz l.2):∀i,i<=c.length-> ∀p:Option Lt,(p=none↔i=0)->(∀q,p=some q-> ∃h:i-1<c.length,c[i-1]=q)->
  jmq (vi (i:Nat)) (.sl 3 (c.map jD))=some (vb (ZZ p (c.drop i)),[]):=by
 refine upto ?_ ?_
 .intro p _ _;rw[juZ,List.drop_length];have:ZZ p []=true:=by cases p<;>rfl
  rw[this];simp only[jg]
 .intro i hi ih p hp hq;have hlt:(i:Int)<((c.length:Nat):Int):=by omega
  have h5:=jy hi (by show c.length<=9223372036854775807;omega)
  have e1:=jf5 c[i].2 (hz _ (List.getElem_mem hi)).wf (hz _ (List.getElem_mem hi));have ix:=jb (k:=3) (f:=jD) hi;have ad:Jk (.elt (jD c[i]) 0) 1=some (.elt (jD c[i]) 1):=rfl;have ld:jbr 2 (.elt (jD c[i]) 1)=some (tm c[i].2):=rfl;rw[juZ,js hi];cases ha:yE c[i].2 with
  |false=>
   rw[ha]at e1;have:ZZ p (c[i]::c.drop (i+1))=false:=by cases p<;>rw[ZZ,ha]<;>rfl
   rw[this];simp only[jg,hlt,ix,ad,ld,e1]
  |true=>
   rw[ha]at e1;have ih1:=ih (some c[i]) (by simp) (λq hq=>by cases hq;exact⟨by simpa using hi,rfl⟩);cases p with
   |none=>
    have h0:i=0:=hp.1 rfl;have hg:¬(0:Int)<(i:Int):=by omega
    rw[ZZ,ha,Bool.true_and,<-ih1];simp only[jg,hlt,ix,ad,ld,e1,hg,h5]
   |some q=>
    obtain⟨hq1,hq2⟩:=hq q rfl;have hi0:¬i=0:=λh=>by have:=hp.2 h;cases this
    have hg:(0:Int)<(i:Int):=by omega
    have c1:ck ((i:Int)-1)=some (vi ((i-1:Nat):Int)):=by rw[show(i:Int)-1=((i-1:Nat):Int) by omega,jZ (by omega) (by omega)]
    have ix2:=jb (k:=3) (f:=jD) hq1;rw[hq2]at ix2;have hqz:Tz q.2:=by rw[<-hq2];exact hz _ (List.getElem_mem hq1)
    have e2:=Qt q c[i] hqz (hz _ (List.getElem_mem hi));rw[ZZ,ha,Bool.true_and];by_cases hc:cmpL q c[i]<0
    .have hc':¬(0:Int)<=cmpL q c[i]:=by omega
     rw[decide_eq_true hc,Bool.true_and,<-ih1];generalize cmpL q c[i]=d at *;simp only[jg,hlt,ix,ad,ld,zy,e1,hg,c1,ix2,e2,hc',h5]
    .have hc':(0:Int)<=cmpL q c[i]:=by omega
     rw[decide_eq_false hc];generalize cmpL q c[i]=d at *;simp only[jg,hlt,ix,ad,ld,zy,e1,hg,c1,ix2,e2,hc',Bool.false_and]
theorem YW(c:kg)(hl:c.length<=1048576)(hz:∀l∈c,Tz l.2):G 45 [cm c]=some (vb (zN c),[]):=by
 have key:=jkG c hl hz 0 (Nat.zero_le _) none (by simp) (λq h=>by cases h);rw[List.drop_zero]at key;simp only[Int.natCast_zero]at key;rw[g45,<-jgJ];by_cases h8:c.length<=8
 .have h8':¬(8:Int)<((c.length:Nat):Int):=by omega
  rw[decide_eq_true h8,Bool.and_true];simp only[jg,h8',key]
 .have h8':(8:Int)<((c.length:Nat):Int):=by omega
  rw[decide_eq_false h8,Bool.and_false];simp only[jg,h8']
theorem jwY(l:Xa)(n:Xb):(vnA l n).length<=l.length+1:=by
 unfold vnA;split
 .omega
 .simp
theorem jvm{n:Nat}(h:n<=4194304):jO n 16=true:=by
 unfold jO;exact decide_eq_true ⟨by omega,by omega⟩
theorem Y0:∀(t:T)(l:Xa),(qv l t).length<=l.length+nodes t:=by
 refine T.ind λt ih l=>?_;have hn:=jU t;rw[jhY];split
 .have:=jwY l t.name;omega
 .have key:∀us:Xg,(∀u∈us,u∈t.args)-> ∀l:Xa,(Yo l us).length<=l.length+jF us:=by
   intro us;induction us with
   |nil=>intro _ l;simp[Yo,jF]
   |cons u us ih2=>
    intro hu l;have h1:=ih u (hu u (by simp)) l;have h2:=ih2 (λv hv=>hu v (by simp[hv])) (qv l u);rw[Yo,jF];omega
  have:=key t.args (λ_ h=>h) l;omega
theorem jlt:∀t:T,Tz t-> ∀l:Xa,l.length+nodes t<=4000000->jgU (tm t) (l.map cs)=some (.top,[.sl 1 ((qv l t).map cs)]):=by
 refine T.ind λt ih ht l hl=>?_;have hz:=ht;unfold Tz at hz;rw[ze]at hz;have hn:=jU t;have e0:=yc t.name (((kQ t).1 ht.wf).1);have e1:=jnc l t.name (by show l.length<=9223372036854775807;omega);have key:=upto (P:=λi=>∀l:Xa,l.length+jF (t.args.drop i)<=4000000->jae (vi (i:Nat)) (sv t.name) (jS t.args) (l.map cs)=some (.top,[.sl 1 ((Yo l (t.args.drop i)).map cs)])) (n:=t.args.length) ?_ ?_ 0 (Nat.zero_le _);rotate_left
 .intro l _;rw[jea,List.drop_length];simp only[jg];rfl
 .intro i hi ihi l hl;have hlt:(i:Int)<((t.args.length:Nat):Int):=by omega
  have h5:=jy hi (by show t.args.length<=9223372036854775807;omega)
  rw[js hi,jF]at hl;have q:=ih t.args[i] (List.getElem_mem hi) (ht.args _ (List.getElem_mem hi)) l (by omega);have hln:=Y0 t.args[i] l;have q2:=ihi (qv l t.args[i]) (by omega);rw[jea,js hi,Yo];generalize qv l t.args[i]=l' at *;have hr:hR 1 (A.top,[.sl 1 (l'.map cs)]) 0=some (l'.map cs):=rfl;simp only[jg,hlt,jb hi,ji,q,hr,h5,q2]
 have e2:jad (vi 0) (sv t.name) (jS t.args) (l.map cs)=some (.top,[.sl 1 ((Yo l t.args).map cs)]):=by
  have key:=key l (by rw[List.drop_zero];omega)
  rw[List.drop_zero]at key;have:jad (vi 0) (sv t.name) (jS t.args) (l.map cs)=jae (vi 0) (sv t.name) (jS t.args) (l.map cs):=by rw[jqO,jea]
  rw[this];exact key
 rw[jvS,jhY];cases hv:jr t.name<;>rw[hv]at e0
 .rw [if_neg Bool.false_ne_true];simp only[jg,e0,e2]
 .rw [if_pos rfl];unfold vnA;cases hc:l.contains t.name<;>rw[hc]at e1
  .have f:jO (l.length+1) 16=true:=jvm (by omega);rw[if_neg Bool.false_ne_true,List.map_append];simp only[jg,e0,e1,f];rfl
  .rw [if_pos rfl];simp only[jg,e0,e1]
theorem jeg(c:kg)(hl:c.length<=1000)(hz:∀l∈c,Tz l.2)(hs:∀l∈c,nodes l.2<=1000):G 88 [cm c]=some (.sl 1 ((kh c).map cs),[]):=by
 have key:=upto (P:=λi=>∀l:Xa,l.length<=1000*i->jiu (vi (i:Nat)) (.sl 3 (c.map jD)) (l.map cs)=some (.sl 1 (((c.drop i).foldl (λl x=>qv l x.2) l).map cs),[])) (n:=c.length) ?_ ?_ 0 (Nat.zero_le _)
 .have key:=key [] (by simp);rw[List.drop_zero]at key;have key:jiu (vi 0) (.sl 3 (c.map jD)) []=some (.sl 1 ((kh c).map cs),[]):=key;rw[g88];simp only[jg,key]
 .intro l _;rw[jvd,List.drop_length];simp only[jg];rfl
 .intro i hi ih l hll;have hlt:(i:Int)<((c.length:Nat):Int):=by omega
  have h5:=jy hi (by show c.length<=9223372036854775807;omega)
  have ix:=jb (k:=3) (f:=jD) hi;have ad:Jk (.elt (jD c[i]) 0) 1=some (.elt (jD c[i]) 1):=rfl;have ld:jbr 2 (.elt (jD c[i]) 1)=some (tm c[i].2):=rfl;have hn:=hs _ (List.getElem_mem hi);have q:=jlt c[i].2 (hz _ (List.getElem_mem hi)) l (by omega);have hol:=Y0 c[i].2 l;have q2:=ih (qv l c[i].2) (by omega);rw[jvd,js hi,List.foldl_cons];generalize qv l c[i].2=l' at *;have hr:hR 1 (A.top,[.sl 1 (l'.map cs)]) 0=some (l'.map cs):=rfl;simp only[jg,hlt,ix,ad,ld,q,hr,h5,q2]
theorem jcm:∀t:T,Rx' t->Tz t-> ∀l:Xa,l.length+nodes t<=4000000->jdm (sv t.name) (jS t.args) (l.map cs)=some (.top,[.sl 1 ((qv l t).map cs)]):=by
 refine T.ind λt ih hk ht l hl=>?_;have hz:=ht;unfold Tz at hz;rw[ze]at hz;have hn:=jU t;have e0:=yA t (hk.imp id λh=>h.1);have e1:=Qm l t.name (by show l.length<=9223372036854775807;omega);have key:=upto (P:=λi=>∀l:Xa,l.length+jF (t.args.drop i)<=4000000->jag (jS t.args) (vi (t.args.length:Nat)) (vi (i:Nat)) (l.map cs)=some (.top,[.sl 1 ((Yo l (t.args.drop i)).map cs)])) (n:=t.args.length) ?_ ?_ 0 (Nat.zero_le _);rotate_left
 .intro l _;rw[jec,List.drop_length];simp only[jg];rfl
 .intro i hi ihi l hl;have hlt:(i:Int)<((t.args.length:Nat):Int):=by omega
  have h5:=jy hi (by show t.args.length<=9223372036854775807;omega)
  rw[js hi,jF]at hl;have q:=ih t.args[i] (List.getElem_mem hi) (hk.args _ (List.getElem_mem hi)) (ht.args _ (List.getElem_mem hi)) l (by omega);have hln:=Y0 t.args[i] l;have q2:=ihi (qv l t.args[i]) (by omega);rw[jec,js hi,Yo];generalize qv l t.args[i]=l' at *;have hr:hR 1 (A.top,[.sl 1 (l'.map cs)]) 0=some (l'.map cs):=rfl;simp only[jg,hlt,jb hi,ji,q,hr,h5,q2]
 have e2:jaf (jS t.args) (vi (t.args.length:Nat)) (vi 0) (l.map cs)=some (.top,[.sl 1 ((Yo l t.args).map cs)]):=by
  have key:=key l (by rw[List.drop_zero];omega)
  rw[List.drop_zero]at key;have:∀n:A,jaf (jS t.args) n (vi 0) (l.map cs)=jag (jS t.args) n (vi 0) (l.map cs):=λn=>by rw[jqU,jec]
  rw[this];exact key
 rw[jvV,jhY];cases hv:jr t.name<;>rw[hv]at e0
 .rw [if_neg Bool.false_ne_true];by_cases hl0:((t.args.length:Nat):Int)=0
  .simp only[jg,hl0,e0];rw[hl0]at e2;exact e2
  .simp only[jg,hl0,e2]
 .have ha:t.args=[]:=by
   rcases hk with h|h
   .exact jbp h hv
   .rw [h.1]at hv;exact absurd hv (by decide)
  have hl0:((t.args.length:Nat):Int)=0:=by rw[ha];rfl
  rw[if_pos rfl];unfold vnA;cases hc:l.contains t.name<;>rw[hc]at e1
  .have f:jO (l.length+1) 16=true:=jvm (by omega);rw[if_neg Bool.false_ne_true,List.map_append];simp only[jg,hl0,e0,e1,f];rfl
  .rw [if_pos rfl];simp only[jg,hl0,e0,e1]
theorem jlB(c:kg)(hl:c.length<=1000)(hk:∀l∈c,Rx' l.2)(hz:∀l∈c,Tz l.2)(hs:∀l∈c,nodes l.2<=1000):G 97 [cm c]=some (.sl 1 ((kh c).map cs),[]):=by
 have key:=upto (P:=λi=>∀l:Xa,l.length<=1000*i->jiv (.sl 3 (c.map jD)) (vi (c.length:Nat)) (vi (i:Nat)) (l.map cs)=some (.sl 1 (((c.drop i).foldl (λl x=>qv l x.2) l).map cs),[])) (n:=c.length) ?_ ?_ 0 (Nat.zero_le _)
 .have key:=key [] (by simp);rw[List.drop_zero]at key;have key:jiv (.sl 3 (c.map jD)) (vi (c.length:Nat)) (vi 0) []=some (.sl 1 ((kh c).map cs),[]):=key;rw[g97];simp only[jg,key]
 .intro l _;rw[jvh,List.drop_length];simp only[jg];rfl
 .intro i hi ih l hll;have hlt:(i:Int)<((c.length:Nat):Int):=by omega
  have h5:=jy hi (by show c.length<=9223372036854775807;omega)
  have ix:=jb (k:=3) (f:=jD) hi;have hn:=hs _ (List.getElem_mem hi);have q:=jcm c[i].2 (hk _ (List.getElem_mem hi)) (hz _ (List.getElem_mem hi)) l (by omega);have hol:=Y0 c[i].2 l;have q2:=ih (qv l c[i].2) (by omega);rw[jvh,js hi,List.foldl_cons];generalize qv l c[i].2=l' at *;have hr:hR 1 (A.top,[.sl 1 (l'.map cs)]) 0=some (l'.map cs):=rfl;simp only[jg,hlt,ix,zy,q,hr,h5,q2]
abbrev yH:=List (T×T)
def jiG:ju->Bool
 | []=>true
 | [_]=>true
 |p::q::s=>zz p.1 q.1 && jiG (q::s)
noncomputable def jB(s:ju):Bool:=decide (s.length<=12) && (jiG s && s.all λq=>jr q.1 && (kV q.2 && !dq q.2.name q.1))
def kC(s u:ju):ju:=QV (s.map (λq=>(q.1,sub u q.2))++u.filter λq=>(look s q.1).isNone)
def jv(x y:T):Xb×T:=if jr x.name=false\/(jr y.name=true/\zz x.name y.name=true)then(y.name,x)else(x.name,y)
noncomputable def yl(s:ju)(l r:T)(rest:yH):Option (ju×yH):=
 if jH (sub s l)=false\/jH (sub s r)=false then none
 else if dq (sub s l) (sub s r)then some (s,rest)
 else if jr (sub s l).name=true\/jr (sub s r).name=true then
  (if(jv (sub s l) (sub s r)).1∈ke (jv (sub s l) (sub s r)).2\/jB [jv (sub s l) (sub s r)]=false\/jB (kC s [jv (sub s l) (sub s r)])=false then none else some (kC s [jv (sub s l) (sub s r)],rest))
 else if(sub s l).name=(sub s r).name/\(sub s l).args.length=(sub s r).args.length then some (s,(sub s l).args.zip (sub s r).args++rest)else none
noncomputable def kH:Nat->ju->yH->Option (Option ju)
 |_,s,[]=>some (some s)
 |0,_,_::_=>none
 |k+1,s,p::rest=>(match yl s p.1 p.2 rest with|none=>some none|some q=>kH k q.1 q.2)
def Exx(t:T):Prop:=(qb t=true\/(t.name=[61]/\t.args.length=2/\ ∀u∈t.args,qb u=true))/\nodes t<=31
def IdS(s:ju):Prop:=∀q∈s,∀x∈ke q.2,look s x=none
def Jt(s:ju)(es:yH):Prop:=jB s=true/\IdS s/\ ∀p∈es,Exx p.1/\Exx p.2
theorem jI{s:ju}(h:jB s=true):s.length<=12/\jiG s=true/\ ∀q∈s,jr q.1=true/\kV q.2=true/\q.2.name≠q.1:=by
 unfold jB at h;rw[Bool.and_eq_true,decide_eq_true_eq,Bool.and_eq_true,List.all_eq_true]at h;refine⟨h.1,h.2.1,λq hq=>?_⟩;have:=h.2.2 q hq;rw[Bool.and_eq_true,Bool.and_eq_true,Bool.not_eq_true']at this;exact⟨this.1,this.2.1,λe=>by rw[e,jhx]at this;exact absurd this.2.2 (by decide)⟩
theorem Qe{t:T}(h:kV t=true):qb t=true:=by
 unfold kV at h;rw[Bool.and_eq_true]at h;exact h.2
def mz(s:ju):yH->Nat
 | []=>0
 |p::r=>nodes (sub s p.1)+nodes (sub s p.2)+mz s r
theorem Exx.sub{s:ju}(hs:jB s=true){t:T}(h:Exx t):qb (sub s t)=true\/((sub s t).name=[61]/\(sub s t).args.length=2/\ ∀u∈(sub s t).args,qb u=true):=by
 obtain⟨_,_,hv⟩:=jI hs;have ho:∀q∈s,qb q.2=true:=λq hq=>(Qe (hv q hq).2.1);rcases h.1 with h|⟨h1,h2,h3⟩
 .exact Or.inl (jb4 ho t h)
 .have hvn:jr t.name=false:=by rw[h1];decide
  right;rw[Jb hvn];refine⟨h1,by show(t.args.map _).length=2;rw[List.length_map,h2],λu hu=>?_⟩;obtain⟨a,ha,rfl⟩:=List.mem_map.1 hu;exact jb4 ho a (h3 a ha)
theorem kT{t:T}(h:jH t=true):nodes t<=30:=by
 simp only[jH,Bool.and_eq_true,decide_eq_true_eq]at h;exact h.1
def Bx(t:T):Prop:=(t.name=[61]/\t.args.length=2/\ ∀u∈t.args,qb u=true)\/(qz t.name=true/\qb t=true)
theorem Bx.rx{t:T}(h:Bx t):Rx' t:=h.elim (λh=>Or.inr ⟨h.1,h.2.2⟩) λh=>Or.inl h.2
theorem Bx.ax{t:T}(h:Bx t):qb t=true\/(t.name=[61]/\t.args.length=2/\ ∀u∈t.args,qb u=true):=h.elim Or.inr λh=>Or.inl h.2
theorem Bx.args{t:T}(h:Bx t):∀u∈t.args,qb u=true:=h.elim (λh=>h.2.2) λh=>qi h.2
theorem jwQ{n:Xb}(h:qz n=true):jr n=false:=by
 cases hv:jr n with
 |false=>rfl
 |true=>rw[jl9 hv]at h;cases h
theorem Bx.nv{t:T}(h:Bx t):jr t.name=false:=h.elim (λh=>by rw[h.1];decide) λh=>jwQ h.1
theorem jxq{t:T}(h:t.args.length=2):t.args=[QA t,jbD t]:=by
 obtain⟨n,us⟩:=t
 match us,h with
 | [a,b],_=>rfl
theorem jap{t:T} :yE t=true↔Bx t/\jH t=true:=by
 unfold yE Bx;by_cases he:t.name=[61]
 .rw [if_pos he];unfold jfo;rw[Bool.and_eq_true,Bool.and_eq_true,Bool.and_eq_true,decide_eq_true_eq];constructor
  .rintro ⟨h1,h2,h3,h4⟩;refine⟨Or.inl ⟨he,h1,λu hu=>?_⟩,h2⟩;rw[jxq h1]at hu;simp only[List.mem_cons,List.not_mem_nil,or_false]at hu;rcases hu with rfl|rfl
   .exact h3
   .exact h4
  .rintro ⟨h|h,h2⟩
   .obtain ⟨_,_,ma,mb⟩:=K3 h.2.1;exact⟨h.2.1,h2,h.2.2 _ ma,h.2.2 _ mb⟩
   .rw [he]at h;exact absurd h.1 (by decide)
 .rw [if_neg he];unfold kV;rw[Bool.and_eq_true,Bool.and_eq_true];constructor
  .rintro ⟨h1,h2,h3⟩;exact⟨Or.inr ⟨h1,h3⟩,h2⟩
  .rintro ⟨h|h,h2⟩
   .exact absurd h.1 he
   .exact ⟨h.1,h2,h.2⟩
theorem Bx.atom{t:T}(h:Bx t):yE t=jH t:=by
 cases hs:jH t with
 |true=>exact jap.2 ⟨h,hs⟩
 |false=>
  cases ha:yE t with
  |false=>rfl
  |true=>rw[(jap.1 ha).2]at hs;cases hs
theorem Bx.tsz{t:T}(h:Bx t):tsz t<=10*nodes t:=by
 rcases h with h|h
 .rw [ze,jU,h.1,h.2.1];have:=jnl h.2.2;simp only[List.length_cons,List.length_nil];omega
 .exact jev t h.2
theorem Bx.tz{t:T}(h:Bx t)(hn:nodes t<=100000):Tz t:=by have:=h.tsz;unfold Tz;omega
theorem Bx.sub{s:ju}(hs:jB s=true){t:T}(h:Bx t):Bx (sub s t):=by
 obtain⟨_,_,hv⟩:=jI hs;have ho:∀q∈s,qb q.2=true:=λq hq=>Qe (hv q hq).2.1;have hn:=h.nv;rcases h with h|h
 .left;rw[je5 hn,jbm hn,List.length_map];refine⟨h.1,h.2.1,λu hu=>?_⟩;obtain⟨a,ha,rfl⟩:=List.mem_map.1 hu;exact jb4 ho a (h.2.2 a ha)
 .right;rw[je5 hn];exact⟨h.1,jb4 ho t h.2⟩
theorem JQ{s:ju}(hs:jB s=true):∀q∈s,nodes q.2<=30:=λq hq=>by
 have:=((jI hs).2.2 q hq).2.1;unfold kV at this;rw[Bool.and_eq_true]at this;exact kT this.1
theorem J0{s:ju}(hs:jB s=true):∀q∈s,qb q.2=true:=λq hq=>Qe ((jI hs).2.2 q hq).2.1
theorem jpe:jB []=true:=by unfold jB;simp[jiG]
mutual
theorem jgq(f:Xb->Xb):∀t:T,nodes (kN f t)<=nodes t
 |.mk n us=>by
  rw[kN];split
  .have:=Zc (.mk n us);show 1+0<=_;omega
  .have:=jeV f us;simp only[nodes];omega
theorem jeV(f:Xb->Xb):∀ts:Xg,jF (Jm f ts)<=jF ts
 | []=>Nat.le_refl _
 |t::ts=>by have:=jgq f t;have:=jeV f ts;simp only[Jm,jF];omega
end
mutual
theorem jt6(f:Xb->Xb):∀t:T,Ko (kN f t)<=Ko t
 |.mk n us=>by
  rw[kN];split
  .rw [Kc (.mk n us)];show 1+0<=_;omega
  .have:=jkb f us;simp only[Ko];omega
theorem jkb(f:Xb->Xb):∀ts:Xg,KO (Jm f ts)<=KO ts
 | []=>Nat.le_refl _
 |t::ts=>by have:=jt6 f t;have:=jkb f ts;simp only[Jm,KO];omega
end
theorem jeU{f:Xb->Xb}{t:T}(h:jr t.name=false):(kN f t).name=t.name:=by rw[jba,h,if_neg Bool.false_ne_true];rfl
theorem jka{f:Xb->Xb}{t:T}(h:jr t.name=false):(kN f t).args=t.args.map (kN f):=by rw[jba,h,if_neg Bool.false_ne_true];rfl
theorem jrZ{f:Xb->Xb}(hf:∀n,jr n=true->jr (f n)=true):∀t:T,qb t=true->qb (kN f t)=true:=by
 refine T.ind λt ih h=>?_;cases hv:jr t.name with
 |true=>rw[jba,hv,if_pos rfl];exact jrx _ (hf _ hv)
 |false=>
  have hk:=h;rw[qj,hv,if_neg Bool.false_ne_true,Bool.and_eq_true,Bool.and_eq_true,decide_eq_true_eq]at h;rw[qj,jeU hv,jka hv,hv,if_neg Bool.false_ne_true,Bool.and_eq_true,Bool.and_eq_true,decide_eq_true_eq,List.length_map,Ze,List.all_eq_true];refine⟨h.1,h.2.1,λu hu=>?_⟩;obtain⟨a,ha,rfl⟩:=List.mem_map.1 hu;exact ih a ha (qi hk a ha)
theorem Bx.ren{f:Xb->Xb}(hf:∀n,jr n=true->jr (f n)=true){t:T}(h:Bx t):Bx (kN f t):=by
 have hn:=h.nv;rcases h with h|h
 .left;rw[jeU hn,jka hn,List.length_map];refine⟨h.1,h.2.1,λu hu=>?_⟩;obtain⟨a,ha,rfl⟩:=List.mem_map.1 hu;exact jrZ hf a (h.2.2 a ha)
 .right;rw[jeU hn];exact⟨h.1,jrZ hf t h.2⟩
theorem jbG:∀d:Nat,d<10->yK (UInt8.ofNat (48+d))=true:=by decide
theorem Z8{u:Nat}(h:u<10):Lib.decDigits u=[UInt8.ofNat (48+u)]:=Lib.decDigits_one h
theorem jdP{u:Nat}(h:¬u<10):Lib.decDigits u=Lib.decDigits (u / 10)++[UInt8.ofNat (48+u % 10)]:=by rw[Lib.decDigits,dif_neg h]
theorem qf:∀(k u:Nat),u<10 ^ (k+1)->(Lib.decDigits u).all yK=true/\(Lib.decDigits u).length<=k+1
 |0,u,h=>by rw[Z8 (by omega)];exact⟨by rw[List.all_cons,jbG u (by omega),List.all_nil];rfl,by simp⟩
 |k+1,u,h=>by
  by_cases hu:u<10
  .rw [Z8 hu];exact⟨by rw[List.all_cons,jbG u hu,List.all_nil];rfl,by simp⟩
  .obtain ⟨h1,h2⟩:=qf k (u / 10) (by rw[Nat.pow_succ]at h;omega)
   rw[jdP hu,List.all_append,h1,List.length_append];exact⟨by rw[List.all_cons,jbG (u % 10) (by omega),List.all_nil];rfl,by simp only[List.length_cons,List.length_nil];omega⟩
theorem jrw{p:UInt8}(hp:upc p=true){i:Nat}(hi:i<1000):jr (Yn p i)=true:=by
 obtain⟨h1,h2⟩:=qf 2 i (by omega);show(upc p && ((Lib.decDigits i).all yK && decide ((Lib.decDigits i).length<=3)))=true;rw[hp,h1,decide_eq_true (by omega)];rfl
theorem juv{l:Xa}{n x:Xb} :x∈vnA l n↔x∈l\/x=n:=by
 unfold vnA;split
 .rename_i h;rw[List.contains_iff_mem]at h;exact⟨Or.inl,λh'=>h'.elim id λe=>e ▸ h⟩
 .simp
theorem jpf{l:Xa}{n:Xb}(h:l.Nodup):(vnA l n).Nodup:=by
 unfold vnA;split
 .exact h
 .rename_i hc;rw[List.contains_iff_mem]at hc;refine List.nodup_append.2 ⟨h,by simp,λa ha b hb=>?_⟩;simp only[List.mem_singleton]at hb;rintro rfl;exact hc (hb ▸ ha)
mutual
theorem jjL:∀(t:T)(l:Xa)(x:Xb),x∈qv l t↔x∈l\/x∈ke t
 |.mk n us,l,x=>by
  rw[qv,ke];split
  .rw [juv];simp
  .exact jjK us l x
theorem jjK:∀(ts:Xg)(l:Xa)(x:Xb),x∈Yo l ts↔x∈l\/x∈z7 ts
 | [],l,x=>by simp[Yo,z7]
 |t::ts,l,x=>by rw[Yo,z7,jjK ts,jjL t,List.mem_append,or_assoc]
end
mutual
theorem jex:∀(t:T){l:Xa},l.Nodup->(qv l t).Nodup
 |.mk n us,l,h=>by
  rw[qv];split
  .exact jpf h
  .exact jew us h
theorem jew:∀(ts:Xg){l:Xa},l.Nodup->(Yo l ts).Nodup
 | [],l,h=>h
 |t::ts,l,h=>by rw[Yo];exact jew ts (jex t h)
end
theorem jer:∀(c:kg)(l:Xa)(x:Xb),x∈c.foldl (λl x=>qv l x.2) l↔x∈l\/ ∃y∈c,x∈ke y.2
 | [],l,x=>by simp
 |y::c,l,x=>by rw[List.foldl_cons,jer c,jjL,or_assoc];simp
theorem jlz{c:kg}{x:Xb} :x∈kh c↔ ∃y∈c,x∈ke y.2:=by unfold kh;rw[jer];simp
theorem jaQ(c:kg):(kh c).Nodup:=by
 have:∀(c:kg)(l:Xa),l.Nodup->(c.foldl (λl x=>qv l x.2) l).Nodup:=by
  intro c;induction c with
  |nil=>intro l h;exact h
  |cons y c ih=>intro l h;exact ih _ (jex y.2 h)
 exact this c [] List.nodup_nil
theorem jlA{c:kg}{x:Xb}(h:x∈kh c):jr x=true:=by
 obtain⟨y,_,hx⟩:=jlz.1 h;exact jsv y.2 hx
def CN(c:kg):Prop:=c.length<=8/\ ∀l∈c,Bx l.2/\nodes l.2<=30
theorem qL{c:kg}(h:CN c):(kh c).length<=240:=by
 have:∀(c:kg)(l:Xa),(∀y∈c,nodes y.2<=30)->(c.foldl (λl x=>qv l x.2) l).length<=l.length+30*c.length:=by
  intro c;induction c with
  |nil=>intro l _;simp
  |cons y c ih=>
   intro l h;have h1:=Y0 y.2 l;have h2:=h y (by simp);have h3:=ih (qv l y.2) λz hz=>h z (by simp[hz]);rw[List.foldl_cons,List.length_cons];omega
 have h2:=this c [] λy hy=>(h.2 y hy).2;have h3:=h.1;rw[List.length_nil]at h2;unfold kh;omega
theorem jnO{p:UInt8}(hp:upc p=true){l:Xa}(hl:l.length<=1000){n:Xb}(hn:jr n=true):jr (kG p l n)=true:=by
 unfold kG;split
 .rename_i i h;have:=(List.findIdx?_eq_some_iff_getElem.1 h).1;exact jrw hp (by omega)
 .exact hn
theorem ji7{α:Type}(c:α->α->Int)(l:List α)(x:α):(ZX c l x).length<=l.length+1:=by
 unfold ZX;split
 .omega
 .have:=congrArg List.length (List.takeWhile_append_dropWhile (p:=λa=>decide (c a x<0)) (l:=l));rw[List.length_append]at this;rw[List.length_append,List.length_cons];omega
theorem jbL{α:Type}(c:α->α->Int)(l:List α):(zi c l).length<=l.length:=by
 have:∀(l m:List α),(l.foldl (ZX c) m).length<=m.length+l.length:=by
  intro l;induction l with
  |nil=>intro m;simp
  |cons x l ih=>
   intro m;have h1:=ji7 c m x;have h2:=ih (ZX c m x);rw[List.foldl_cons,List.length_cons];omega
 have:=this l [];simpa[zi]using this
theorem jbM{l:kg}{x:Lt} :x∈zi cmpL l↔x∈l:=(YY qe l).2 x
theorem jrj{l:kg}(h:Asc cmpL l):zi cmpL l=l:=by
 obtain⟨h1,h2⟩:=YY qe l;exact jht qe h1 h h2
theorem CN.make{l:kg}(hl:l.length<=8)(h:∀x∈l,Bx x.2/\nodes x.2<=30):CN (zi cmpL l):=⟨by have:=jbL cmpL l;omega,λx hx=>h x (jbM.1 hx)⟩
theorem CN.ren{p:UInt8}(hp:upc p=true){c:kg}(h:CN c):∀x∈c.map (λl=>(l.1,kN (kG p (kh c)) l.2)),Bx x.2/\nodes x.2<=30:=by
 intro x hx;obtain⟨l,hl,rfl⟩:=List.mem_map.1 hx;have hn:=qL h;have:=jgq (kG p (kh c)) l.2;have:=(h.2 l hl).2;exact⟨(h.2 l hl).1.ren λn hn=>jnO hp (by omega) hn,by show nodes (kN (kG p (kh c)) l.2)<=30;omega⟩
theorem CN.renC{p:UInt8}(hp:upc p=true){c:kg}(h:CN c):CN (renC p c):=CN.make (by rw[List.length_map];exact h.1) (h.ren hp)
theorem CN.normF:∀(k:Nat){c:kg},CN c->CN (normF k c)
 |0,c,h=>h
 |k+1,c,h=>by
  rw[Go.Proofs.YtkkcepmpbackoaaGreatDoor.normF];split
  .exact h
  .exact CN.normF k (CN.renC (by decide) h)
theorem CN.normC{c:kg}(h:CN c):CN (normC c):=CN.normF 10 h
theorem qp{c:kg}(h:zN c=true):CN c/\Asc cmpL c/\(∀l∈c,yE l.2=true):=by
 unfold zN at h;rw[Bool.and_eq_true,Bool.and_eq_true,List.all_eq_true,decide_eq_true_eq,jiF]at h;exact⟨⟨h.2.2,λl hl=>⟨(jap.1 (h.1 l hl)).1,kT (jap.1 (h.1 l hl)).2⟩⟩,h.2.1,h.1⟩
theorem CN.tz{c:kg}(h:CN c):∀l∈c,Tz l.2:=λl hl=>(h.2 l hl).1.tz (by have:=(h.2 l hl).2;omega)
theorem CN.rx{c:kg}(h:CN c):∀l∈c,Rx' l.2:=λl hl=>(h.2 l hl).1.rx
theorem Rx'.va{t:T}(h:Rx' t)(hv:jr t.name=true):t.args=[]:=h.elim (λh=>jbp h hv) λh=>by rw[h.1]at hv;exact absurd hv (by decide)
def jzp(d:kg):kg:=d.map λl=>(l.1,kN (kG 89 (kh d)) l.2)
def zD(c:kg):Bool:=zN c && qY c
theorem Qv{c:kg}(h:zD c=true):CN c/\Asc cmpL c/\zN c=true/\qY c=true:=by
 unfold zD at h;rw[Bool.and_eq_true]at h;exact⟨(qp h.1).1,(qp h.1).2.1,h.1,h.2⟩
open Classical in
noncomputable def jca(a b:T):Option ju:=if h:∃r k,kH k [] [(a,b)]=some r then h.choose else none
noncomputable def KM(s:ju)(l:kg):Option kg:=if(l.all λx=>jH (sub s x.2)) && zN (zi cmpL (l.map λx=>(x.1,sub s x.2)))then some (zi cmpL (l.map λx=>(x.1,sub s x.2)))else none
noncomputable def jfx(s:ju)(l:kg):Option kg:=(KM s l).bind λc=>if zD (normC c)then some (normC c)else none
abbrev cz:A:= .agg [.sl 3 []]
def jbO(o:Option kg):Xe:=match o with|some c=>some (.tup [cm c,vb true],[])|none=>some (.tup [cz,vb false],[])
theorem jkd{s:ju}{l:kg}{c:kg}(h:jfx s l=some c):zD c=true:=by
 unfold jfx at h;rw[Option.bind_eq_some_iff]at h;obtain⟨d,_,h⟩:=h;split at h
 .rename_i hn;cases h;exact hn
 .cases h
theorem jan{s:ju}{l:kg}{c:kg}(h:KM s l=some c):zN c=true/\Asc cmpL c:=by
 unfold KM at h;split at h
 .rename_i hn;cases h;rw[Bool.and_eq_true]at hn;exact⟨hn.2,(YY qe _).1⟩
 .cases h
def atI:Xi->T->Option T
 | [],t=>some t
 |i::p,t=>if 0<=i/\i<(t.args.length:Int)then atI p (t.args.getD i.toNat (.mk [] []))else none
def EXB(t:T):Prop:=EX false t/\Bx t
theorem jw7{rs:Xg}(hr:RS rs){t u:T}(h:EXB t)(ho:jyh rs false t=some u):Tz u/\Bx u/\(jH u=true->EX false u)/\G 106 [tm u]=some (vb (jH u),[]):=by
 have hn:=jFx hr t false h.1 ho;have hn0:=h.1.1.1;rw[jCH]at ho;split at ho;rotate_left
 .cases ho
 rename_i us hus;cases ho;obtain⟨g1,g2⟩:=jBQ hus;have hk:∀v∈us,qb v=true:=g2 (λv=>qb v=true) (λv hv=>(h.1.2.1 v hv).1) λv hv u' hu'=>jGE hr.ok v (h.1.2.1 v hv).1 hu';have hb:Bx (.mk t.name us):=by
  rcases h.2 with h2|h2
  .exact Or.inl ⟨h2.1,g1.trans h2.2.1,hk⟩
  .refine Or.inr ⟨h2.1,?_⟩;have h3:=h2.2;rw[qj,jwQ h2.1,if_neg Bool.false_ne_true,Bool.and_eq_true,Bool.and_eq_true,decide_eq_true_eq]at h3;rw[qj];show(if jr t.name=true then _ else(qz t.name && (decide (us.length<=4) && jjI us)))=true;rw[jwQ h2.1,if_neg Bool.false_ne_true,h2.1,g1,decide_eq_true h3.2.1,Ze,Bool.true_and,Bool.true_and,List.all_eq_true];exact hk
 have hz:Tz (.mk t.name us):=hb.tz (by omega);refine⟨hz,hb,λhs=>?_,jmH hz hb.ax⟩;have hns:=kT hs;refine⟨⟨by omega,hz⟩,λv hv=>⟨hk v hv,?_⟩,λh=>by cases h⟩;have:=Zb (t:= .mk t.name us) hv;omega
theorem jFz(rs:Xg)(hr:RS rs):∀(k n:Nat),k+n=51->1<=k-> ∀t:T,EXB t->jEO (jS rs) (vb false) (vi (n:Nat)) (sv []) (sv t.name) (jS t.args) []=jCc (rwN rs false k n t):=by
 intro k;induction k with
 |zero=>intro n _ h;omega
 |succ k ih=>
  intro n hk _ t ht;have e1:=jFU rs hr false t ht.1;rw[jHi,rwN];cases ho:jyh rs false t with
  |none=>
   rw[ho]at e1;have e1:G 105 [tm t,jS rs,vb false]=some (.tup [tm t,vb false],[]):=e1;show _=some (A.tup [tm t,vi (n:Nat),vb true],[]);simp only[jg,e1]
  |some u=>
   rw[ho]at e1;have e1:G 105 [tm t,jS rs,vb false]=some (.tup [tm u,vb true],[]):=e1;obtain⟨hu,hb,hs,hA⟩:=jw7 hr ht ho;have e2:G 106 [tm u]=some (vb (jH u),[]):=hA;by_cases h50:n=50
   .have hk0:k=0:=by omega
    have hn:((n:Nat):Int)=50:=by omega
    show _=jCc (if k=0\/jH u=false then none else rwN rs false k (n+1) u);rw[if_pos (Or.inl hk0)];show _=some (A.tup [.agg [sv [],.sl 2 []],vi 0,vb false],[]);simp only[jg,e1,hn]
   .have hn:¬((n:Nat):Int)=50:=by omega
    have hk0:¬k=0:=by omega
    show _=jCc (if k=0\/jH u=false then none else rwN rs false k (n+1) u);cases hsm:jH u with
    |false=>
     rw[hsm]at e2;rw[if_pos (Or.inr rfl)];show _=some (A.tup [.agg [sv [],.sl 2 []],vi 0,vb false],[]);simp only[jg,e1,hn,e2]
    |true=>
     rw[hsm]at e2;rw[if_neg (by simp[hk0])];have h5:ck ((n:Int)+1)=some (vi ((n+1:Nat):Int)):=jZ (by omega) (by omega);have:=ih (n+1) (by omega) (by omega) u ⟨hs hsm,hb⟩;rw[<-this];simp only[jg,e1,hn,e2,h5]
theorem jGp(rs:Xg)(hr:RS rs)(t:T)(ht:EXB t):G 62 [tm t,jS rs,vb false]=jCc (rwN rs false 51 0 t):=by
 have e1:=jhZ t ht.1.1.2;have:=jFz rs hr 51 0 rfl (by decide) t ht;have:jEO (jS rs) (vb false) (vi 0) (sv []) (sv t.name) (jS t.args) []=_:=this;rw[g62];simp only[jg,e1,this]
theorem Bx.exB{t:T}(h:Bx t)(hn:nodes t<=30):EXB t:=⟨⟨⟨by omega,h.tz (by omega)⟩,λu hu=>⟨h.args u hu,by have:=Zb hu;omega⟩,λh=>by cases h⟩,h⟩
theorem jDh{rs:Xg}(hr:RS rs):∀(k n:Nat){t:T}{r:T×Nat},EXB t->rwN rs false k n t=some r->Bx r.1/\nodes r.1<=31
 |0,n,t,r,_,h=>by simp[rwN]at h
 |k+1,n,t,r,ht,h=>by
  rw[rwN]at h;cases ho:jyh rs false t with
  |none=>rw[ho]at h;cases h;exact⟨ht.2,ht.1.1.1⟩
  |some u=>
   rw[ho]at h;have h:(if k=0\/jH u=false then none else rwN rs false k (n+1) u)=some r:=h;split at h
   .cases h
   rename_i hc;obtain⟨_,hb,hs,_⟩:=jw7 hr ht ho;have hsm:jH u=true:=by
    cases hs':jH u with
    |true=>rfl
    |false=>exact absurd (Or.inr hs') hc
   exact jDh hr k (n+1) ⟨hs hsm,hb⟩ h
open Go Go.RowKit Go.Proofs.YtkkcepmpbackoaaGreatDoor.Abs Go.Sort
section
variable{α:Type}{c:α->α->Int}
theorem jjV{β γ:Type}(f:β->β->γ)(ys:List β):∀(xs:List β)(i j:Nat)(x y:β),xs[i]? = some x->ys[j]? = some y->(xs.flatMap λx=>ys.map λy=>f x y)[i*ys.length+j]? = some (f x y)
 | [],i,j,x,y,h,_=>by simp at h
 |a::xs,i,j,x,y,h,hy=>by
  have hj:=(List.getElem?_eq_some_iff.1 hy).1;rw[List.flatMap_cons];cases i with
  |zero=>simp at h;subst h;rw[Nat.zero_mul,Nat.zero_add,List.getElem?_append_left (by simpa using hj),List.getElem?_map,hy];rfl
  |succ i=>
   rw[List.getElem?_append_right (by simp[Nat.add_mul];omega)]
   have:(i+1)*ys.length+j-(ys.map λy=>f a y).length=i*ys.length+j:=by simp[Nat.add_mul];omega
   rw[this];exact jjV f ys xs i j x y (by simpa using h) hy
theorem extract_all{β:Type}(e:Array β){n:Nat}(h:e.size=n):e.extract 0 n=e:=by subst h;simp
theorem Law3.swo(h:Law3 c){β:Type}(g:β->α){lt:β->β->Bool}(hl:∀i j,lt i j=decide (c (g i) (g j)<0)):SWO lt:=by
 refine⟨λx=>?_,λx y z h1 h2=>?_,λx y z h1 h2=>?_⟩
 .rw [hl,(h.zero _ _).2 rfl];rfl
 .rw [hl,decide_eq_true_eq]at *;exact h.trans _ _ _ h1 h2
 .rw [hl,decide_eq_false_iff_not]at *;intro h3;have f1:=h.flip (g x) (g y);have f2:=h.flip (g y) (g z);by_cases e1:c (g x) (g y)=0
  .rw [(h.zero _ _).1 e1]at h3;exact h2 h3
  by_cases e2:c (g y) (g z)=0
  .rw [<-(h.zero _ _).1 e2]at h3;exact h1 h3
  have:=h.trans (g z) (g y) (g x) (by omega) (by omega);have f3:=h.flip (g x) (g z);omega
theorem jbf{γ:Type}{c:γ->γ->Int}(hc:Law3 c)(f:α->γ)(enc:α->Xd)(k:Nat)(l:List α)(hl:l.length<4611686018427387904):∃s:List α,s.Perm l/\s.Pairwise (λa b=>¬c (f b) (f a)<0)/\ZS k (l.map enc) (l.flatMap λx=>l.map λy=>c (f x) (f y))=some (.top,[.sl k (s.map enc)]):=by
 cases l with
 |nil=>exact⟨[],List.Perm.refl _,List.Pairwise.nil,rfl⟩
 |cons a l'=>
  generalize hcs:((a::l').flatMap λx=>(a::l').map λy=>c (f x) (f y))=cs;rw[List.map_cons];have hN:(l'.map enc).length+1=(a::l').length:=by simp
  let g:Fin ((l'.map enc).length+1)->α:=λi=>(a::l')[i.val]'(by rw[<-hN];exact i.isLt)
  have hg:∀i:Fin ((l'.map enc).length+1),(a::l')[i.val]? = some (g i):=λi=>List.getElem?_eq_getElem _;have hT:∀i j,ltO (Z5 ((l'.map enc).length+1) cs) i j=decide (c (f (g i)) (f (g j))<0):=λi j=>by
   have:=jjV (λx y=>c (f x) (f y)) (a::l') (a::l') i.val j.val _ _ (hg i) (hg j);rw[hcs,<-hN]at this;unfold ltO Z5;rw[List.getD_eq_getElem?_getD,this];rfl
  have hS:=hc.swo (λi=>f (g i)) hT;have hsz:(l'.map enc).length+1<4611686018427387904:=by rw[hN];exact hl
  generalize hd:(Array.ofFn (n:=(l'.map enc).length+1) id)=d;have hds:d.size=(l'.map enc).length+1:=by rw[<-hd];simp
  obtain⟨hp,hs⟩:=pdq_sorts (ltO (Z5 ((l'.map enc).length+1) cs)) hS d 0 ((l'.map enc).length+1) (Lib.bitLen ((l'.map enc).length+1)) true true (Nat.zero_le _) (by omega) (Or.inl rfl);have hrow:ZS k (enc a::l'.map enc) cs=some (.top,[.sl k ((pdq (ltO (Z5 ((l'.map enc).length+1) cs)) d 0 ((l'.map enc).length+1) (Lib.bitLen ((l'.map enc).length+1)) true true).toList.map λi=>(enc a::l'.map enc).getD i.val [])]):=by
   unfold ZS;simp only;rw[if_pos ⟨hS,hsz⟩,hd]
  rw[hrow];generalize pdq (ltO (Z5 ((l'.map enc).length+1) cs)) d 0 ((l'.map enc).length+1) (Lib.bitLen ((l'.map enc).length+1)) true true=D at *;obtain⟨p1,_,p3⟩:=hp;rw[extract_all D (by omega),extract_all d hds]at p3;refine⟨D.toList.map g,?_,?_,?_⟩
  .have h1:(D.toList.map g).Perm (d.toList.map g):=p3.map g;have h2:d.toList.map g=a::l':=by
    refine List.ext_getElem? λi=>?_;rw[<-hd];by_cases hi:i<(l'.map enc).length+1
    .rw [List.getElem?_map,Array.getElem?_toList,Array.getElem?_eq_getElem (by simpa using hi)];simp only[Array.getElem_ofFn,Option.map_some,id];exact(hg ⟨i,hi⟩).symm
    .rw [List.getElem?_eq_none (by simp at hi⊢;omega),List.getElem?_eq_none (by simp at hi⊢;omega)]
   rw[h2]at h1;exact h1
  .rw [List.pairwise_map];rw[List.pairwise_iff_getElem];intro i j hi hj hij;have hD:D.size=(l'.map enc).length+1:=by omega
   rw[Array.length_toList]at hi hj;have:=hs i j (Nat.zero_le _) hij (by omega);rw[getElem!_pos D i hi,getElem!_pos D j hj,hT,decide_eq_false_iff_not]at this;simpa using this
  .congr 3;rw[List.map_map];refine congrArg (A.sl k) (List.map_congr_left λi _=>?_);rw[<-List.map_cons,List.getD_eq_getElem?_getD,List.getElem?_map,hg i];rfl
end
theorem QB{β:Type}(f:β->FuncId×Xd)(r:β->Int):∀qs:List β,(∀b∈qs,K.pureF (f b).1=true/\G (f b).1 (f b).2=some (vi (r b),[]))->askAll K (MM K) (qs.map f)=some (qs.map λb=>(vi (r b),[]))
 | [],_=>rfl
 |b::qs,h=>by
  have ih:=QB f r qs λb' hb=>h b' (by simp[hb]);obtain⟨h1,h2⟩:=h b (by simp);rw[List.map_cons,List.map_cons];show(if K.pureF (f b).1 then(MM K (.call (f b).1 (f b).2)).bind λo=>(askAll K (MM K) (qs.map f)).bind λos=>some (o::os)else none)=_;have h2:MM K (.call (f b).1 (f b).2)=some (vi (r b),[]):=h2;rw[h1,if_pos rfl,h2,ih];rfl
theorem jbR{β:Type}(r:β->Int):∀qs:List β,Qw (qs.map λb=>(vi (r b),[]))=some (qs.map r)
 | []=>rfl
 |b::qs=>by
  rw[List.map_cons,List.map_cons,Qw,jbR r qs];rfl
theorem jvv:∀d:Nat,d<10->ZD (sv [48,49,50,51,52,53,54,55,56,57]) (some (vi (d:Nat))) (some (vi ((d+1:Nat):Int)))=some (sv [UInt8.ofNat (48+d)])
 |0,_=>rfl|1,_=>rfl|2,_=>rfl|3,_=>rfl|4,_=>rfl|5,_=>rfl|6,_=>rfl|7,_=>rfl|8,_=>rfl|9,_=>rfl
theorem jjo:∀n:Nat,n<=1000000->G 89 [vi (n:Nat)]=some (sv (Lib.decDigits n),[]):=by
 intro n;induction n using Nat.strongRecOn with
 |ind n ih=>
  intro hn;have h0:¬((n:Nat):Int)<0:=by omega
  rw[g89];by_cases h:n<10
  .have h1:((n:Nat):Int)<10:=by omega
   have h2:ck ((n:Int)+1)=some (vi ((n+1:Nat):Int)):=jZ (by omega) (by omega);have h3:=jvv n h;rw[Z8 h];simp only[jg,h0,h1,h2,h3]
  .have h1:¬((n:Nat):Int)<10:=by omega
   have hq:jq .quo false (vi (n:Nat)) (vi 10)=some (vi ((n / 10:Nat):Int)):=by
    show ck (((n:Nat):Int).tdiv 10)=_;rw[Int.tdiv_eq_ediv_of_nonneg (by omega)];exact jZ (by omega) (by omega)
   have hr:jq .rem false (vi (n:Nat)) (vi 10)=some (vi ((n % 10:Nat):Int)):=by
    show some (vi (((n:Nat):Int).tmod 10))=_;rw[Int.tmod_eq_emod_of_nonneg (by omega)];rfl
   have h2:ck (((n % 10:Nat):Int)+1)=some (vi ((n % 10+1:Nat):Int)):=jZ (by omega) (by omega);have h3:=jvv (n % 10) (by omega);have h4:=ih (n / 10) (by omega) (by omega);have hl:(Lib.decDigits (n / 10)).length + [UInt8.ofNat (48+n % 10)].length<=9223372036854775807:=by
    have:=(qf 6 (n / 10) (by omega)).2;simp only[List.length_cons,List.length_nil];omega
   have h5:=Zg false (Lib.decDigits (n / 10)) [UInt8.ofNat (48+n % 10)];rw[if_pos hl]at h5;rw[jdP h];simp only[jg,h0,h1,hq,hr,h2,h3,h4,h5]
theorem jm6(n:Nat)(hn:n<=1000000):G 98 [vi (n:Nat)]=some (sv (Lib.decDigits n),[]):=by
 have:K.ext 98=some jm5:=rfl;rw[jxb this];show(if -9223372036854775808<=((n:Nat):Int)/\((n:Nat):Int)<=9223372036854775807 then some (sv (Lib.itoa (n:Nat)),[])else none)=_;rw[if_pos (by omega)];unfold Lib.itoa;rw[if_neg (by omega),Int.toNat_natCast]
def Ym:Nat->Xa->Bool
 |_,[]=>true
 |i,n::r=>decide (n=Yn 88 i) && Ym (i+1) r
theorem jjG:∀(l:Xa)(i:Nat),Ym i l=decide (l=(List.range' i l.length).map (Yn 88))
 | [],i=>by simp[Ym]
 |n::r,i=>by
  rw[Ym,jjG r,List.length_cons,List.range'_succ,List.map_cons,<-Bool.decide_and];simp only[List.cons.injEq]
theorem jd6(c:kg):qY c=Ym 0 (kh c):=by
 rw[jjG,<-List.range_eq_range'];rfl
theorem jyg(i:Nat)(h:i<=1000000):jq .add false (sv [88]) (sv (Lib.decDigits i))=some (sv (Yn 88 i)):=by
 rw[Zg,if_pos]
 .rfl
 .have:=(qf 6 i (by omega)).2;simp only[List.length_cons,List.length_nil];omega
theorem Ju(c:kg)(h:CN c):G 54 [cm c]=some (vb (qY c),[]):=by
 have hlen:=qL h;have e0:=jlB c (by have:=h.1;omega) h.rx h.tz λl hl=>by have:=(h.2 l hl).2;omega
 rw[jd6,g54];generalize kh c=ns at *;have key:=upto (P:=λi=>jmv (strs ns) (vi (ns.length:Nat)) (vi (i:Nat))=some (vb (Ym i (ns.drop i)),[])) (n:=ns.length) ?_ ?_ 0 (Nat.zero_le _)
 .simp only[Int.natCast_zero,List.drop_zero]at key;simp only[jg,e0,key]
 .rw [ju5,List.drop_length];simp only[jg,Ym]
 .intro i hi ih;have hlt:(i:Int)<((ns.length:Nat):Int):=by omega
  have h5:=jy hi (by show ns.length<=9223372036854775807;omega)
  have e1:=jm6 i (by omega);have e2:=jyg i (by omega);have ld:kU (.elt (cs ns[i]) 0)=some (sv ns[i]):=rfl;rw[ju5,js hi,Ym];by_cases hc:ns[i]=Yn 88 i
  .rw [decide_eq_true hc,Bool.true_and,<-ih];simp only[jg,hlt,jb hi,e1,e2,hc,h5]
  .rw [decide_eq_false hc,Bool.false_and];simp only[jg,hlt,jb hi,ld,e1,e2,hc]
theorem KS(c:kg)(h:CN c):G 46 [cm c]=some (vb (qY c),[]):=by
 have hlen:=qL h;have e0:=jeg c (by have:=h.1;omega) h.tz λl hl=>by have:=(h.2 l hl).2;omega
 rw[jd6,g46];generalize kh c=ns at *;have key:=upto (P:=λi=>jmr (strs ns) (vi (i:Nat))=some (vb (Ym i (ns.drop i)),[])) (n:=ns.length) ?_ ?_ 0 (Nat.zero_le _)
 .simp only[Int.natCast_zero,List.drop_zero]at key;simp only[jg,e0,key]
 .rw [ju0,List.drop_length];simp only[jg,Ym]
 .intro i hi ih;have hlt:(i:Int)<((ns.length:Nat):Int):=by omega
  have h5:=jy hi (by show ns.length<=9223372036854775807;omega)
  have e1:=jjo i (by omega);have e2:=jyg i (by omega);have ld:kU (.elt (cs ns[i]) 0)=some (sv ns[i]):=rfl;rw[ju0,js hi,Ym];by_cases hc:ns[i]=Yn 88 i
  .rw [decide_eq_true hc,Bool.true_and,<-ih];simp only[jg,hlt,jb hi,e1,e2,hc,h5]
  .rw [decide_eq_false hc,Bool.false_and];simp only[jg,hlt,jb hi,ld,e1,e2,hc]
theorem jcu(c:kg)(hl:c.length<=1048576)(hz:∀l∈c,Tz l.2):G 28 [cm c]=some (vb (zD c),[]):=by
 have e1:=K6 c hl hz;unfold zD;rw[g28];cases hv:zN c<;>rw[hv]at e1
 .simp only[jg,e1,Bool.false_and]
 .have e2:=Ju c (qp hv).1;simp only[jg,e1,e2,Bool.true_and]
theorem jjn(c:kg)(hl:c.length<=1048576)(hz:∀l∈c,Tz l.2):G 25 [cm c]=some (vb (zD c),[]):=by
 have e1:=YW c hl hz;unfold zD;rw[g25];cases hv:zN c<;>rw[hv]at e1
 .simp only[jg,e1,Bool.false_and]
 .have e2:=KS c (qp hv).1;simp only[jg,e1,e2,Bool.true_and]
abbrev Nm':=List (Xb×Xb)
abbrev kn(p:Xb×Xb):Xd:=[sv p.1,sv p.2]
def zo:Nm'->Xb->Option Xb
 | [],_=>none
 |p::m,n=>if p.1=n then some p.2 else zo m n
theorem jlv(n:Xb):∀(m:Nm')(k:Nat),∃j,Kz none (sv n) (m.map kn) k=some ((zo m n).map λr=>(j,sv r))
 | [],k=>⟨0,rfl⟩
 |p::m,k=>by
  rw[List.map_cons,zo,Kz,jwb];by_cases h:p.1=n
  .rw [if_pos h,decide_eq_true h.symm];exact⟨k,rfl⟩
  .rw [if_neg h,decide_eq_false (λe=>h e.symm)];exact jlv n m (k+1)
theorem jwB(m:Nm')(n:Xb):jez none true true [sv []] (.mp (m.map kn)) (sv n)=some (match zo m n with|some r=>.tup [sv r,vb true]|none=>.tup [sv [],vb false]):=by
 show((some (m.map kn)).bind λxs=>(Kz none (sv n) xs 0).map (jrh true true [sv []]))=_;obtain⟨j,h⟩:=jlv n m 0;rw[Option.bind_some,h];cases zo m n<;>rfl
theorem jyn{m:Nm'}{n:Xb}(h:zo m n=none)(r:Xb):jrN none (m.map kn) (sv n) (sv r)=some ((m++[(n,r)]).map kn):=by
 obtain⟨j,h2⟩:=jlv n m 0;show(Kz none (sv n) (m.map kn) 0).map _=_;rw[h2,h,List.map_append];rfl
theorem jgc:∀(m:Nm')(p:Xb×Xb)(n:Xb),zo (m++[p]) n=(match zo m n with|some r=>some r|none=>if p.1=n then some p.2 else none)
 | [],p,n=>rfl
 |q::m,p,n=>by
  rw[List.cons_append,zo,zo,jgc m p n];by_cases h:q.1=n
  .rw [if_pos h,if_pos h]
  .rw [if_neg h,if_neg h]
def KB(p:UInt8):Nat->Xa->Nm'
 |_,[]=>[]
 |i,n::r=>(n,Yn p i)::KB p (i+1) r
theorem jem(p:UInt8)(n:Xb):∀(ns:Xa)(k:Nat),zo (KB p k ns) n=(ns.findIdx? λx=>decide (x=n)).map λi=>Yn p (k+i)
 | [],k=>rfl
 |x::ns,k=>by
  rw[KB,zo,List.findIdx?_cons];by_cases h:x=n
  .rw [if_pos h,if_pos (decide_eq_true h)];rfl
  .rw [if_neg h,if_neg (by simp[h]),jem p n ns (k+1),Option.map_map];refine congrArg (λf=>Option.map f _) (funext λi=>?_);show Yn p (k+1+i)=Yn p (k+(i+1));rw[show k+1+i=k+(i+1) by omega]
theorem jk1(p:UInt8)(ns:Xa):(λn=>(zo (KB p 0 ns) n).getD n)=kG p ns:=by
 funext n;rw[jem];unfold kG;cases ns.findIdx? (λx=>decide (x=n))with
 |none=>rfl
 |some i=>show Yn p (0+i)=_;rw[Nat.zero_add]
theorem jjU{p:UInt8} :∀{ns:Xa}{k:Nat},(∀n∈ns,jr n=true)-> ∀q∈KB p k ns,jr q.1=true
 | [],k,_,q,h=>by cases h
 |x::ns,k,hv,q,h=>by
  rw[KB]at h;rcases List.mem_cons.1 h with e|e
  .rw [e];exact hv x (by simp)
  .exact jjU (λn hn=>hv n (by simp[hn])) q e
theorem jyf(p:UInt8)(i:Nat)(h:i<=1000000):jq .add false (sv [p]) (sv (Lib.decDigits i))=some (sv (Yn p i)):=by
 rw[Zg,if_pos]
 .rfl
 .have:=(qf 6 i (by omega)).2;simp only[List.length_cons,List.length_nil];omega
theorem jcN(p:UInt8)(ns:Xa)(hn:ns.Nodup)(hl:ns.length<=1000):G 118 [strs ns,sv [p]]=some (.mp ((KB p 0 ns).map kn),[]):=by
 have key:=upto (P:=λi=>∀m:Nm',(∀n∈ns.drop i,zo m n=none)->jg2 (sv [p]) (strs ns) (vi (ns.length:Nat)) (vi (i:Nat)) (m.map kn)=some (.mp ((m++KB p i (ns.drop i)).map kn),[])) (n:=ns.length) ?_ ?_ 0 (Nat.zero_le _) [] (λn _=>rfl)
 .rw [List.drop_zero]at key;simp only[Int.natCast_zero,List.map_nil,List.nil_append]at key;rw[jzE];simp only[jg,key]
 .intro m _;rw[jqH,List.drop_length,KB,List.append_nil];simp only[jg]
 .intro i hi ih m hm;have hlt:(i:Int)<((ns.length:Nat):Int):=by omega
  have h5:=jy hi (by show ns.length<=9223372036854775807;omega)
  have e1:=jm6 i (by omega);have e2:=jyf p i (by omega);have ld:kU (.elt (cs ns[i]) 0)=some (sv ns[i]):=rfl;have hd:(ns.drop i).Nodup:=hn.sublist (List.drop_sublist i ns);rw[js hi]at hm hd⊢;have pt:=jyn (hm ns[i] (List.mem_cons_self ..)) (Yn p i);have ih:=ih (m++[(ns[i],Yn p i)]) λn hn'=>by
   rw[jgc,hm n (List.mem_cons_of_mem _ hn')];show(if ns[i]=n then _ else none)=none;rw[if_neg];rintro e;exact(List.nodup_cons.1 hd).1 (e ▸ hn')
  rw[List.append_assoc]at ih;rw[jqH,KB];simp only[jg,hlt,jb hi,ld,e1,e2,pt,h5,ih];rfl
theorem jod{m:Nm'}(hm:∀p∈m,jr p.1=true){n:Xb}(h:jr n=false):zo m n=none:=by
 induction m with
 |nil=>rfl
 |cons p m ih=>
  rw[zo,if_neg,ih λq hq=>hm q (by simp[hq])];intro e;rw[<-e,hm p (by simp)]at h;cases h
theorem jlS(m:Nm')(hm:∀p∈m,jr p.1=true):∀t:T,Rx' t->Tz t->G 165 [tm t,.mp (m.map kn)]=some (tm (kN (λn=>(zo m n).getD n) t),[]):=by
 refine T.ind λt ih hk ht=>?_;have hz:=ht;unfold Tz at hz;rw[ze]at hz;have e0:=jwB m t.name;rw[jz7,jba];cases hv:jr t.name with
 |true=>
  have ha:=hk.va hv;rw[if_pos rfl];obtain⟨n,us⟩:=t;have ha:us=[]:=ha;subst ha;have lp:∀x:Xb,jbw (.mp (m.map kn)) (.sl 2 []) (vi 0) (vi 0) (sv []) (sv x) [] []=some (.agg [sv x,.sl 2 []],[]):=λx=>by
   rw[jlp];simp only[jg]
  have e0:jez none true true [sv []] (.mp (m.map kn)) (sv n)=some (match zo m n with|some r=>.tup [sv r,vb true]|none=>.tup [sv [],vb false]):=e0;show Option.bind (QU 2 (.agg [sv n,.sl 2 []])) _=some (A.agg [sv ((zo m n).getD n),.sl 2 []],[]);cases hl:zo m n with
  |none=>
   rw[hl]at e0;have lp:=lp n;simp only[jg,e0,lp,Option.getD_none,Int.natCast_zero]
  |some r=>
   rw[hl]at e0;have lp:=lp r;simp only[jg,e0,lp,Option.getD_some,Int.natCast_zero]
 |false=>
  rw[jod hm hv]at e0;rw[if_neg Bool.false_ne_true];have key:=(upto (P:=λi=>jbw (.mp (m.map kn)) (jS t.args) (vi (t.args.length:Nat)) (vi i) (sv []) (sv t.name) [] (((t.args.map (kN λn=>(zo m n).getD n)).take i).map jm)=some (tm (.mk t.name (t.args.map (kN λn=>(zo m n).getD n))),[])) (n:=t.args.length) ?_ ?_ 0 (Nat.zero_le _))
  .simp only[Int.natCast_zero,List.take_zero,List.map_nil]at key;simp only[jg,e0,key]
  .rw [jlp,List.take_of_length_le (by rw[List.length_map];omega)]
   simp only[jg];rfl
  .intro i hi ih';have hlt:(i:Int)<((t.args.length:Nat):Int):=by omega
   have h5:=jy hi (by show t.args.length<=9223372036854775807;omega)
   have e2:=ih t.args[i] (List.getElem_mem _) (hk.args _ (List.getElem_mem _)) (ht.args _ (List.getElem_mem _));have hf:jO (i+1) 40=true:=jtW (by omega);have hi2:i<(t.args.map (kN λn=>(zo m n).getD n)).length:=by rw[List.length_map];exact hi
   have hl:(((t.args.map (kN λn=>(zo m n).getD n)).take i).map jm).length=i:=by rw[List.length_map,List.length_take,List.length_map];omega
   have ha:j4 (((t.args.map (kN λn=>(zo m n).getD n)).take i).map jm) [[sv (kN (λn=>(zo m n).getD n) t.args[i]).name,jS (kN (λn=>(zo m n).getD n) t.args[i]).args]]=((t.args.map (kN λn=>(zo m n).getD n)).take (i+1)).map jm:=by
    rw[show[sv (kN (λn=>(zo m n).getD n) t.args[i]).name,jS (kN (λn=>(zo m n).getD n) t.args[i]).args]=jm (kN (λn=>(zo m n).getD n) t.args[i]) from(kR _).symm,List.take_add_one,List.getElem?_eq_getElem hi2,List.map_append,List.getElem_map];rfl
   generalize ((t.args.map (kN λn=>(zo m n).getD n)).take i).map jm=R at *;generalize kN (λn=>(zo m n).getD n) t.args[i]=u at *;rw[jlp];simp only[jg,hlt,jb hi,ji,e2,hl,hf,ha,h5,ih']
theorem jkc(p:UInt8)(ns:Xa)(hv:∀n∈ns,jr n=true)(t:T)(hk:Rx' t)(ht:Tz t):G 165 [tm t,.mp ((KB p 0 ns).map kn)]=some (tm (kN (kG p ns) t),[]):=by
 rw[jlS _ (jjU hv) t hk ht,jk1]
theorem jjq(p:UInt8)(ns:Xa)(hn:ns.length<=1000):∀t:T,Tz t->G 166 [tm t,strs ns,sv [p]]=some (tm (kN (kG p ns) t),[]):=by
 refine T.ind λt ih ht=>?_;have hz:=ht;unfold Tz at hz;rw[ze]at hz;have e0:=yc t.name (((kQ t).1 ht.wf).1);rw[jz8,jba];cases hv:jr t.name<;>rw[hv]at e0
 .rw [if_neg Bool.false_ne_true];have key:=(upto (P:=λi=>jhb (strs ns) (sv [p]) (vi i) (sv t.name) (jS t.args) (sv []) (sv t.name) [] (((t.args.map (kN (kG p ns))).take i).map jm)=some (tm (.mk t.name (t.args.map (kN (kG p ns)))),[])) (n:=t.args.length) ?_ ?_ 0 (Nat.zero_le _))
  .simp only[Int.natCast_zero,List.take_zero,List.map_nil]at key;simp only[jg,e0,key]
  .rw [jqY,List.take_of_length_le (by rw[List.length_map];omega)]
   simp only[jg];rfl
  .intro i hi ih';have hlt:(i:Int)<((t.args.length:Nat):Int):=by omega
   have h5:=jy hi (by show t.args.length<=9223372036854775807;omega)
   have e2:=ih t.args[i] (List.getElem_mem _) (ht.args _ (List.getElem_mem _));have hf:jO (i+1) 40=true:=jtW (by omega);have hi2:i<(t.args.map (kN (kG p ns))).length:=by rw[List.length_map];exact hi
   have hl:(((t.args.map (kN (kG p ns))).take i).map jm).length=i:=by rw[List.length_map,List.length_take,List.length_map];omega
   have ha:j4 (((t.args.map (kN (kG p ns))).take i).map jm) [[sv (kN (kG p ns) t.args[i]).name,jS (kN (kG p ns) t.args[i]).args]]=((t.args.map (kN (kG p ns))).take (i+1)).map jm:=by
    rw[show[sv (kN (kG p ns) t.args[i]).name,jS (kN (kG p ns) t.args[i]).args]=jm (kN (kG p ns) t.args[i]) from(kR _).symm,List.take_add_one,List.getElem?_eq_getElem hi2,List.map_append,List.getElem_map];rfl
   generalize ((t.args.map (kN (kG p ns))).take i).map jm=R at *;generalize kN (kG p ns) t.args[i]=u at *;rw[jqY];simp only[jg,hlt,jb hi,ji,e2,hl,hf,ha,h5,ih']
 .rw [if_pos rfl];have key:=(upto (P:=λi=>(∀j,(h:j<i)-> ∀h':j<ns.length,ns[j]≠t.name)->jha (strs ns) (sv [p]) (vi i) (sv t.name) (jS t.args) (sv []) []=some (tm (.mk (kG p ns t.name) []),[])) (n:=ns.length) ?_ ?_ 0 (Nat.zero_le _)) (λj h=>by omega)
  .simp only[Int.natCast_zero]at key;simp only[jg,e0,key]
  .intro hall;have:kG p ns t.name=t.name:=by
    unfold kG;have:ns.findIdx? (λx=>decide (x=t.name))=none:=by
     rw[List.findIdx?_eq_none_iff];intro x hx;obtain⟨j,hj,rfl⟩:=List.mem_iff_getElem.1 hx;simpa using hall j hj hj
    rw[this]
   rw[jqX,this];simp only[jg];rfl
  .intro i hi ih' hall;have hlt:(i:Int)<((ns.length:Nat):Int):=by omega
   have h5:=jy hi (by show ns.length<=9223372036854775807;omega)
   have ld:kU (.elt (cs ns[i]) 0)=some (sv ns[i]):=rfl;rw[jqX];by_cases he:ns[i]=t.name
   .have e1:=jjo i (by omega);have e2:=jyf p i (by omega);have:kG p ns t.name=Yn p i:=by
     unfold kG;have:ns.findIdx? (λx=>decide (x=t.name))=some i:=by
      rw[List.findIdx?_eq_some_iff_getElem];exact⟨hi,by simp[he],λj hj=>by simpa using hall j hj (by omega)⟩
     rw[this]
    rw[this];simp only[jg,hlt,jb hi,he,e1,e2];rfl
   .have ih':=ih' λj hj hj'=>by
     by_cases h:j=i
     .subst h;exact he
     .exact hall j (by omega) hj'
    simp only[jg,hlt,jb hi,ld,he,h5,ih']
theorem jaX{n:Nat}(h:n<=1000000):jO n 48=true:=by
 unfold jO;exact decide_eq_true ⟨by omega,by omega⟩
theorem Kl{α:Type}{f:α->Xd}{xs:List α}{i:Nat}(h:i<xs.length):j4 ((xs.take i).map f) [f xs[i]]=(xs.take (i+1)).map f:=by
 rw[List.take_add_one,List.getElem?_eq_getElem h,List.map_append];rfl
theorem take_len{α:Type}{f:α->Xd}{xs:List α}{i:Nat}(h:i<=xs.length):((xs.take i).map f).length=i:=by rw[List.length_map,List.length_take];omega
noncomputable def eqL(a b:Lt):Bool:=decide (a.1=b.1) && dq a.2 b.2
theorem jax(a b:Lt):eqL a b=true↔a=b:=by
 obtain⟨p,t⟩:=a;obtain⟨q,u⟩:=b;unfold eqL;rw[Bool.and_eq_true,decide_eq_true_eq,Kw,Prod.mk.injEq]
theorem Yz(a b:Lt)(ha:Tz a.2)(hb:Tz b.2):G 164 [ltm a,ltm b]=some (vb (eqL a b),[]):=by
 have e1:=KP a.2 ha.wf b.2 hb.wf;unfold eqL;rw[jz6];by_cases h:a.1=b.1
 .rw [decide_eq_true h,Bool.true_and];simp only[jg,h,e1]
 .rw [decide_eq_false h,Bool.false_and];simp only[jg,h]
noncomputable def cpG:Lt->List Lt->List Lt
 |_,[]=>[]
 |p,b::l=>if eqL b p then cpG b l else b::cpG b l
theorem jiP:∀(l:List Lt)(a:Lt),Ql eqL (a::l)=a::cpG a l
 | [],a=>rfl
 |b::l,a=>by
  rw[Ql,jiP l b,cpG];show(if eqL a b then b::cpG b l else a::b::cpG b l)=_;by_cases h:a=b
  .subst h;rw[if_pos ((jax a a).2 rfl),if_pos ((jax a a).2 rfl)]
  .rw [if_neg (λe=>h ((jax a b).1 e)),if_neg (λe=>h ((jax b a).1 e).symm)]
theorem jkg{α:Type}{f:α->Xd}{xs:List α}{i:Nat}(h:i<xs.length)(n:Nat):y5 (xs.map f) i 0 n=some (.agg ((f xs[i]).take n)):=by unfold y5;simp[h]
theorem jyu{xs:List Lt}{i:Nat}(h:i<xs.length):y5 (xs.map jD) i 0 3=some (ltm xs[i]):=jkg h 3
theorem jym{α:Type}{f:α->Xd}{xs:List α}{i:Nat}(h:i<xs.length):ZB (jA (xs.map f)) (vi (i:Nat))=some i:=by
 rw[jeK,List.length_map];exact zR h
theorem jdQ{α:Type}{R s:List α}{k i:Nat}(h:R.drop k=s.drop k)(hk:k<=i)(hi:i<R.length)(hs:i<s.length):R[i]=s[i]:=by
 have:=congrArg (λl=>l[i-k]?) h;simp only[List.getElem?_drop,show k+(i-k)=i by omega,List.getElem?_eq_getElem hi,List.getElem?_eq_getElem hs]at this;exact Option.some.inj this
theorem ji6(c:kg)(hl:c.length<=1048576)(hz:∀l∈c,Tz l.2):G 114 [cm c]=jbO (if zN c then some c else none):=by
 have e1:=K6 c hl hz;rw[jzD];cases hv:zN c<;>rw[hv]at e1
 .rw [if_neg Bool.false_ne_true];simp only[jg,e1];rfl
 .rw [if_pos rfl];simp only[jg,e1];rfl
noncomputable def sameC(a b:kg):Bool:=dq a b
noncomputable def KC(o:Xd->Xe):Cfg:={ P:=Tryz.prog,D:=tyD jsp,sig:=λf=>if Nat.beq f 163 then some [⟨0,[3],[.cons],[0],.row 1⟩]else none,kp:=jx5 juS,ext:=λf=>if Nat.beq f 164 then some o else none,extv:=λ_=>none,wf:=λf=>Nat.beq f 163 }
noncomputable abbrev GQ(o:Xd->Xe)(args:Xd):Xe:=MM (KC o) (.call 164 args)
theorem gQ(o:Xd->Xe)(args:Xd):GQ o args=o args:=jpC rfl
theorem jxf{o:Xd->Xe}{f:FuncId}{fn:Func}{args:Xj}{objs:List Abs.Obj}(h3:Tryz.prog.funcs[f]? = some fn)(h4:fn.body.isSome=true)(h5:Nat.ble args.length fn.ntmps=true):MM (KC o) (.callv f args objs)=evC (KC o) (MM (KC o)) f (codeOf fn) [] (YD fn args objs) (Jh (KC o) f fn):=jiw rfl h3 (zQ h4) h5
theorem juA{o:Xd->Xe}{f:FuncId}{fn:Func}{p:Xf}{fr:Xj}{objs:List Abs.Obj}{sh:Option Xf}(h3:Tryz.prog.funcs[f]? = some fn)(h4:fn.body.isSome=true):MM (KC o) (.head f p fr objs sh)=evAt (KC o) (MM (KC o)) f (codeOf fn) p [] (St.of fn.ntmps fr objs sh) (Jh (KC o) f fn):=jmE h3 (zQ h4)
noncomputable def CQ(o:Xd->Xe)(r0:Xc):Xe:=MM (KC o) (.callv 163 [V.row 0,V.fn 164 []] [.row 3 r0])
noncomputable def LQ0(o:Xd->Xe)(x0:A)(r0:Xc):Xe:=MM (KC o) (.head 163 [1,1,0,1,0] [V.row 0,V.fn 164 [],V.top,V.top,V.top,V.d x0,V.top,V.top,V.top,V.top,V.top,V.top,V.top,V.top,V.top,V.top,V.top,V.top,V.top,V.top,V.top,V.top,V.top,V.top,V.top,V.top,V.top,V.top,V.top,V.top,V.top,V.top,V.top,V.top,V.top,V.top,V.top,V.top,V.top,V.top,V.top,V.top,V.top,V.top,V.top,V.top,V.top,V.top,V.top,V.top,V.top,V.top,V.top,V.top,V.top,V.top,V.top,V.top,V.top,V.top,V.top,V.top,V.top,V.top,V.top,V.top] [.row 3 r0] (some [0]))
noncomputable def LQ1(o:Xd->Xe)(x0 x1 x2 x3:A)(r0:Xc):Xe:=MM (KC o) (.head 163 [1,1,0,1,0,0,1,0,0,1,0,1,0,1,0] [V.row 0,V.fn 164 [],V.top,V.top,V.top,V.d x0,V.win 0 3 (kE x1) (kE x2),V.d x3,V.top,V.top,V.top,V.top,V.top,V.top,V.top,V.top,V.top,V.top,V.top,V.top,V.top,V.top,V.top,V.top,V.top,V.top,V.top,V.top,V.top,V.top,V.top,V.top,V.top,V.top,V.top,V.top,V.top,V.top,V.top,V.top,V.top,V.top,V.top,V.top,V.top,V.top,V.top,V.top,V.top,V.top,V.top,V.top,V.top,V.top,V.top,V.top,V.top,V.top,V.top,V.top,V.top,V.top,V.top,V.top,V.top,V.top] [.row 3 r0] (some [0]))
theorem cQ(o:Xd->Xe)(r0:Xc):CQ o r0 =
 (jq .lss false (qS r0) (vi 2)).bind λt0=>
 (zF t0).bind λt1=>
 brn t1 (
  some ((A.top,[A.sl 3 r0]))) (
  LQ0 o (vi 1) r0):=
 (jxf Tryz.func163 rfl rfl).trans (by kernel_rfl)
theorem lQ0(o:Xd->Xe)(x0:A)(r0:Xc):LQ0 o x0 r0 =
 (jq .lss false x0 (qS r0)).bind λt2=>
 (zF t2).bind λt3=>
 brn t3 (
  (ZB (jA r0) x0).bind λt4=>
  (y5 r0 t4 0 3).bind λt5=>
  (jq .sub false x0 (vi 1)).bind λt6=>
  (ZB (jA r0) t6).bind λt7=>
  (y5 r0 t7 0 3).bind λt8=>
  ((GQ o [t5,t8]).bind (fin false)).bind λt9=>
  (zF t9).bind λt10=>
  brn t10 (
   (pB (zS r0) (kY r0 0) none).bind λt11=>
   (pB 0 t11 (some x0)).bind λt12=>
   LQ1 o x0 (nA (0+t12)) (nA (j6 t11 t12)) (vi 1) r0) (
   (jq .add false x0 (vi 1)).bind λt13=>
   LQ0 o t13 r0)) (
  some ((A.top,[A.sl 3 r0]))):=
 (juA Tryz.func163 rfl).trans (by kernel_rfl)
theorem lQ1(o:Xd->Xe)(x0 x1 x2 x3:A)(r0:Xc):LQ1 o x0 x1 x2 x3 r0 =
 (jq .lss false x3 (nA (kE x2))).bind λt14=>
 (zF t14).bind λt15=>
 brn t15 (
  (ZB (kE x2) x3).bind λt16=>
  (y5 r0 ((kE x1)+t16) 0 3).bind λt17=>
  (jq .sub false x3 (vi 1)).bind λt18=>
  (ZB (kE x2) t18).bind λt19=>
  (y5 r0 ((kE x1)+t19) 0 3).bind λt20=>
  ((GQ o [t17,t20]).bind (fin false)).bind λt21=>
  (Zl .not t21).bind λt22=>
  (zF t22).bind λt23=>
  brn t23 (
   (ZB (kE x2) x3).bind λt24=>
   (y5 r0 ((kE x1)+t24) 0 3).bind λt25=>
   (ZB (jA r0) x0).bind λt26=>
   (QU 3 t25).bind λt27=>
   (ZY r0 t26).bind λt28=>
   (jq .add false x0 (vi 1)).bind λt29=>
   (jq .add false x3 (vi 1)).bind λt30=>
   LQ1 o t29 (nA (kE x1)) (nA (kE x2)) t30 (yh r0 t26 (zf t28 0 [jc t27 0,jc t27 1,jc t27 2]))) (
   (jq .add false x3 (vi 1)).bind λt31=>
   LQ1 o x0 (nA (kE x1)) (nA (kE x2)) t31 r0)) (
  (pB (zS r0) (kY r0 0) none).bind λt32=>
  (pB 0 t32 (some x0)).bind λt33=>
  (pB (zS (yd r0 (0+t33) (JM (j6 t32 t33) [vb false,sv [],A.sl 2 []]))) (kY (yd r0 (0+t33) (JM (j6 t32 t33) [vb false,sv [],A.sl 2 []])) 0) (some x0)).bind λt34=>
  some ((A.top,[A.sl 3 (List.take (j6 t34 0) (yd r0 (0+t33) (JM (j6 t32 t33) [vb false,sv [],A.sl 2 []])))]))):=
 (juA Tryz.func163 rfl).trans (by kernel_rfl)
abbrev T3:=A×A×A
abbrev Kq(x:T3):Xd:=[x.1,x.2.1,x.2.2]
section
variable{o:Xd->Xe}{q:T3->T3->Bool}{s:List T3}(ho:∀x∈s,∀y∈s,GQ o [.agg (Kq x),.agg (Kq y)]=some (vb (q x y),[]))(hk3:∀x∈s,jQ x.1=true/\jQ x.2.1=true/\jQ x.2.2=true)(hl:s.length<=1000000)
include ho hk3 hl
theorem jv8(k:Nat)(hk:k<s.length):∀j,j<=s.length-k->1<=j-> ∀(w:Nat)(R:List T3),R.length=s.length->R.drop (k+j-1)=s.drop (k+j-1)->w+1<=k+j-> ∀p:T3,(∃h:k+j-1<s.length,s[k+j-1]=p)->
  LQ1 o (vi (w:Nat)) (nA k) (nA (s.length-k)) (vi (j:Nat)) (R.map Kq)=some (.top,[.sl 3 ((R.take w++cpR q p (s.drop (k+j))).map Kq)]):=by
 refine upto ?_ ?_
 .intro _ w R hR hag hw p hp;have hd:s.drop (k+(s.length-k))=[]:=List.drop_eq_nil_of_le (by omega);have hlt:¬((s.length-k:Nat):Int)<((s.length-k:Nat):Int):=by omega
  have hlt':jq .lss false (vi ((s.length-k:Nat):Int)) (nA (s.length-k))=some (vb false):=by
   show some (vb (decide _))=_;rw[decide_eq_false hlt]
  have b1:pB (zS (R.map Kq)) (kY (R.map Kq) 0) none=some R.length:=by
   rw[zU,show kY (R.map Kq) 0=R.length by rw[yk,List.length_map];rfl];exact jbs (Nat.le_refl _)
  have b2:pB 0 R.length (some (vi (w:Nat)))=some w:=yO (by omega);have ln:(yd (R.map Kq) (0+w) (JM (j6 R.length w) [vb false,sv [],.sl 2 []])).length=R.length:=by
   rw[ja4];simp[JM,yP];omega
  have b3:pB (zS (yd (R.map Kq) (0+w) (JM (j6 R.length w) [vb false,sv [],.sl 2 []]))) (kY (yd (R.map Kq) (0+w) (JM (j6 R.length w) [vb false,sv [],.sl 2 []])) 0) (some (vi (w:Nat)))=some w:=by
   rw[jt2,yk,ln];exact yO (by omega)
  have tk:List.take (j6 w 0) (yd (R.map Kq) (0+w) (JM (j6 R.length w) [vb false,sv [],.sl 2 []]))=(R.take w).map Kq:=by
   rw[ja4,yP,Nat.sub_zero,Nat.zero_add,List.append_assoc,List.take_append_of_le_length (by rw[List.length_take,List.length_map];omega),List.take_take,Nat.min_self,List.map_take]
  have h1:kE (nA (s.length-k))=s.length-k:=rfl;rw[lQ1,hd,cpR,List.append_nil,h1,hlt'];simp only[Option.bind_some,jaV,YP,b1,b2,b3,tk]
 .intro j hj ih hj1 w R hR hag hw p hp;obtain⟨hp1,hp2⟩:=hp;have hi:k+j<s.length:=by omega
  have hlt':jq .lss false (vi ((j:Nat):Int)) (nA (s.length-k))=some (vb true):=by
   show some (vb (decide (((j:Nat):Int)<((s.length-k:Nat):Int))))=_;rw[decide_eq_true (by omega)]
  have h1:kE (nA (s.length-k))=s.length-k:=rfl;have h2:kE (nA k)=k:=rfl;have x1:ZB (s.length-k) (vi ((j:Nat):Int))=some j:=zR hj;have c1:jq .sub false (vi ((j:Nat):Int)) (vi 1)=some (vi ((j-1:Nat):Int)):=by
   rw[jjO,show((j:Nat):Int)-1=((j-1:Nat):Int) by omega];exact jZ (by omega) (by omega)
  have x2:ZB (s.length-k) (vi ((j-1:Nat):Int))=some (j-1):=zR (by omega);have a1:R[k+j]'(by omega)=s[k+j]:=jdQ hag (by omega) (by omega) hi;have a2:R[k+(j-1)]'(by omega)=p:=by
   rw[<-hp2];have:=jdQ hag (i:=k+(j-1)) (by omega) (by omega) (by omega);rw[this];congr 1;omega
  have r1:y5 (R.map Kq) (k+j) 0 3=some (.agg (Kq s[k+j])):=by rw[jkg (by omega) 3,a1];rfl
  have r2:y5 (R.map Kq) (k+(j-1)) 0 3=some (.agg (Kq p)):=by rw[jkg (by omega) 3,a2];rfl
  have e1:=ho s[k+j] (List.getElem_mem _) p (by rw[<-hp2];exact List.getElem_mem _)
  have h5:jq .add false (vi ((j:Nat):Int)) (vi 1)=some (vi ((j+1:Nat):Int)):=jy (i:=j) (n:=j+1) (by omega) (by omega);have hdr:s.drop (k+j)=s[k+j]::s.drop (k+(j+1)):=js hi;have hag':R.drop (k+(j+1)-1)=s.drop (k+(j+1)-1):=by
   have:=congrArg (List.drop 1) hag;rw[List.drop_drop,List.drop_drop]at this;rwa[show k+j-1+1=k+(j+1)-1 by omega]at this
  have hx:∃h:k+(j+1)-1<s.length,s[k+(j+1)-1]=s[k+j]:=⟨by omega,by congr 1⟩;rw[lQ1,hdr,cpR,h1,h2,hlt'];cases hq:q s[k+j] p<;>rw[hq]at e1
  .rw [if_neg Bool.false_ne_true];have x3:ZB R.length (vi (w:Nat))=some w:=zR (by omega);have rg:ZY (R.map Kq) w=some (Kq (R[w]'(by omega))):=by unfold ZY;simp[show w<R.length by omega]
   have co:∀x y:T3,zf (Kq x) 0 [y.1,y.2.1,y.2.2]=Kq y:=λx y=>rfl;have rs:yh (R.map Kq) w (Kq s[k+j])=(R.set w s[k+j]).map Kq:=by unfold yh;rw[List.map_set]
   have h6:jq .add false (vi ((w:Nat):Int)) (vi 1)=some (vi ((w+1:Nat):Int)):=jy (i:=w) (n:=w+1) (by omega) (by omega);have:=ih (by omega) (w+1) (R.set w s[k+j]) (by rw[List.length_set];exact hR) (by rw[List.drop_set_of_lt (by omega)];exact hag') (by omega) s[k+j] hx;have tk:(R.set w s[k+j]).take (w+1)=R.take w++[s[k+j]]:=by
    rw[List.take_add_one,List.take_set_of_le (Nat.le_refl _),List.getElem?_set_self (by omega)];rfl
   rw[tk,List.append_assoc]at this;obtain⟨o1,o2,o3⟩:=hk3 s[k+j] (List.getElem_mem _);simp only[jg,x1,r1,c1,x2,r2,e1,x3,rg,co,rs,h6,h5,o1,o2,o3];rw[this];rfl
  .rw [if_pos rfl];have:=ih (by omega) w R hR hag' (by omega) s[k+j] hx;simp only[jg,x1,r1,c1,x2,r2,e1,h5];exact this
theorem jv7:∀k,k<=s.length->1<=k-> ∀p:T3,(∃h:k-1<s.length,s[k-1]=p)->LQ0 o (vi (k:Nat)) (s.map Kq)=some (.top,[.sl 3 ((s.take k++cpR q p (s.drop k)).map Kq)]):=by
 refine upto ?_ ?_
 .intro _ p _;rw[lQ0,List.drop_length,cpR,List.append_nil,List.take_length];simp only[jg]
 .intro k hk ih hk1 p hp;obtain⟨hp1,hp2⟩:=hp;have hlt:((k:Nat):Int)<((s.length:Nat):Int):=by omega
  have x1:ZB (jA (s.map Kq)) (vi (k:Nat))=some k:=jym hk;have c1:ck (((k:Nat):Int)-1)=some (vi ((k-1:Nat):Int)):=by
   rw[show((k:Nat):Int)-1=((k-1:Nat):Int) by omega];exact jZ (by omega) (by omega)
  have x2:ZB (jA (s.map Kq)) (vi ((k-1:Nat):Int))=some (k-1):=jym hp1;have r1:y5 (s.map Kq) k 0 3=some (.agg (Kq s[k])):=jkg hk 3;have r2:y5 (s.map Kq) (k-1) 0 3=some (.agg (Kq p)):=by rw[jkg hp1 3,hp2];rfl
  have e1:=ho s[k] (List.getElem_mem _) p (by rw[<-hp2];exact List.getElem_mem _)
  have h5:=jy hk (by show s.length<=9223372036854775807;omega)
  rw[lQ0,js hk,cpR];rw[jeK,List.length_map]at x1 x2;cases hq:q s[k] p<;>rw[hq]at e1
  .have ih:=ih (by omega) s[k] ⟨by omega,by congr 1⟩;rw[List.take_add_one,List.getElem?_eq_getElem hk,List.append_assoc]at ih;rw[if_neg Bool.false_ne_true];simp only[jg,hlt,x1,r1,c1,x2,r2,e1,h5];exact ih
  .have b1:pB (zS (s.map Kq)) (kY (s.map Kq) 0) none=some s.length:=by
    rw[zU,show kY (s.map Kq) 0=s.length by rw[yk,List.length_map];rfl];exact jbs (Nat.le_refl _)
   have b2:pB 0 s.length (some (vi (k:Nat)))=some k:=yO (by omega);have:=jv8 ho hk3 hl k hk 1 (by omega) (Nat.le_refl _) k s rfl rfl (Nat.le_refl _) s[k] ⟨by omega,rfl⟩;rw[if_pos rfl];simp only[jg,hlt,x1,r1,c1,x2,r2,e1,b1,b2,yP];exact this
theorem jxJ:CQ o (s.map Kq)=some (.top,[.sl 3 ((cpA q s).map Kq)]):=by
 rw[cQ]
 match s,ho,hk3,hl with
 | [],_,_,_=>simp only[jg];rfl
 | [a],_,_,_=>simp only[jg];rfl
 |a::b::r,ho,hk3,hl=>
  have:=jv7 ho hk3 hl 1 (by simp) (Nat.le_refl _) a ⟨by simp,rfl⟩;have hlt:¬(((a::b::r).length:Nat):Int)<2:=by simp only[List.length_cons];omega
  rw[cpA];generalize hx:a::b::r=x at *;simp only[jg,hlt];rw[<-hx]at this⊢;exact this
end
theorem jsG(o:Xd->Xe):Sane (KC o):=⟨KJ.ty,KJ.mixed,KJ.names,KJ.lex⟩
theorem jnT:Enters Tryz.prog 163:=
 qG Tryz.func163 (KJ.names _ _ Tryz.func163) (zQ rfl)
open Classical in
noncomputable def jtT(s:Xc)(q:Xd->Xd->Bool):Xd->Xe
 | [.agg a,.agg b]=>if a∈s/\b∈s then some (.val (.bool (q a b)),[])else none
 |_=>none
theorem jv2:juz Tryz.prog 163 164 3:=λX raws q hk hok hl hp=>by
 obtain⟨s,rfl⟩:∃s:List T3,raws=s.map Kq:=by
  clear hl hp hok;induction raws with
  |nil=>exact⟨[],rfl⟩
  |cons x r ih=>
   obtain⟨s,rfl⟩:=ih λy hy=>hk y (by simp[hy]);have hx:=hk x (by simp)
   match x,hx with
   | [a,b,c],_=>exact⟨(a,b,c)::s,rfl⟩
 have ho:∀x∈s,∀y∈s,GQ (jtT (s.map Kq) q) [.agg (Kq x),.agg (Kq y)]=some (vb (q (Kq x) (Kq y)),[]):=λx hx y hy=>(gQ _ _).trans <|if_pos ⟨List.mem_map_of_mem hx,List.mem_map_of_mem hy⟩
 have h1:=jxJ (q:=λa b=>q (Kq a) (Kq b)) ho (λx hx=>by
  have:=hok _ (List.mem_map_of_mem hx);simpa[List.all_cons]using this) (by simpa using hl)
 rw[<-jda]at h1;refine jvF (C:=KC (jtT (s.map Kq) q)) (X:=X) (jsG _) (λf x args out hf hx=>?_) (λf x _ _ _ _ _ _ _ hf=>by cases hf) _ _ _ _ _ _ rfl rfl (Or.inl rfl) h1;have hf:(if Nat.beq f 164 then some (jtT (s.map Kq) q)else none)=some x:=hf;split at hf;rotate_left
 .cases hf
 rename_i hb;have hb:=Nat.eq_of_beq_eq_true hb;subst hb;cases hf;unfold jtT at hx;split at hx;rotate_left
 .cases hx
 rename_i a b;split at hx;rotate_left
 .cases hx
 rename_i hm;cases hx;exact hp a hm.1 b hm.2
theorem jvx{α:Type}{p:α->Bool}{l:List α}{k:Nat}(hk:k<=l.length)(h1:∀j,(h:j<k)-> ∀h':j<l.length,p l[j]=true)(h2:(∃h:k<l.length,p l[k]=false)\/k=l.length):l.takeWhile p=l.take k/\l.dropWhile p=l.drop k:=by
 have hp:∀a∈l.take k,p a=true:=λa ha=>by
  obtain⟨j,hj,rfl⟩:=List.mem_iff_getElem.1 ha;rw[List.length_take]at hj;rw[List.getElem_take];exact h1 j (by omega) (by omega)
 have e:=List.takeWhile_append_of_pos (l₂:=l.drop k) hp;have e':=List.dropWhile_append_of_pos (l₂:=l.drop k) hp;rw[List.take_append_drop]at e e';rw[e,e'];rcases h2 with⟨h,h2⟩|h
 .rw [js h,List.takeWhile_cons_of_neg (by simp[h2]),List.dropWhile_cons_of_neg (by simp[h2]),List.append_nil];exact⟨rfl,rfl⟩
 .rw [h,List.drop_length];simp
theorem jm3(u:List Lt)(hl:u.length<=900000)(i:Nat)(hi:i<=u.length)(x:Lt) :
  pB (zS (u.map jD)) (kY (u.map jD) 0) (some (vi (i:Nat)))=some i/\yi (u.map jD) 0 (j6 i 0)=(u.take i).map jD/\jO (u.take i).length 48=true/\pB (zS (u.map jD)) (kY (u.map jD) 0) none=some u.length/\pB 0 u.length (some (vi (i:Nat)))=some i/\yi (u.map jD) i (j6 u.length i)=(u.drop i).map jD/\
  jO ((u.take i).length+1) 48=true/\jO ((j4 ((u.take i).map jD) [jD x]).length+((u.drop i).map jD).length) 48=true/\j4 (j4 ((u.take i).map jD) [jD x]) ((u.drop i).map jD)=(u.take i++x::u.drop i).map jD:=by
 have e1:zS (u.map jD)=u.length:=zU jD u;have e2:kY (u.map jD) 0=u.length:=by rw[yk,List.length_map];rfl
 refine⟨by rw[e1,e2];exact yO hi,by rw[jdg,yP,Nat.sub_zero,List.drop_zero,List.map_take],?_,by rw[e1,e2];exact jbs (Nat.le_refl _),yO hi,?_,?_,?_,?_⟩
 .rw [List.length_take];exact jaX (by omega)
 .rw [jdg,yP,<-List.map_drop,List.take_of_length_le (by rw[List.length_map,List.length_drop];omega)]
 .rw [List.length_take];exact jaX (by omega)
 .exact jaX (by unfold j4;rw[List.length_append,List.length_map,List.length_map,List.length_take,List.length_drop];simp only[List.length_cons,List.length_nil];omega)
 .unfold j4;rw[List.map_append,List.append_assoc];rfl
theorem jjr(l:List Lt)(hl:l.length<=1000)(hz:∀x∈l,Tz x.2)(i:Nat)(hi:i<l.length)(u:List Lt)(hu:u.length<=1000)(hzu:∀x∈u,Tz x.2):∀k,k<=u.length->(∀j,(h:j<k)-> ∀h':j<u.length,cmpL u[j] l[i]<0)->
  jg7 (.sl 3 (l.map jD)) (vi (i:Nat)) (vi (k:Nat)) (u.map jD) []=jbv (.sl 3 (l.map jD)) (vi ((i+1:Nat):Int)) ((ZX cmpL u l[i]).map jD) []:=by
 have h5:=jy hi (by show l.length<=9223372036854775807;omega)
 have ld:∀l:Lt,kU (.elt (jD l) 0)=some (vb l.1):=λl=>rfl;have ad:∀(l:Lt)(n:Nat),Jk (.elt (jD l) 0) n=some (.elt (jD l) n):=λl n=>by rw[yN,Nat.zero_add]
 have ld2:∀l:Lt,jbr 2 (.elt (jD l) 1)=some (tm l.2):=λl=>rfl;have e2:=jhZ l[i].2 (hz _ (List.getElem_mem _));have hck:ck ((i:Int)+1)=some (vi ((i+1:Nat):Int)):=jZ (by omega) (by omega);refine upto ?_ ?_
 .intro hall;obtain⟨t1,t2⟩:=jvx (p:=λa=>decide (cmpL a l[i]<0)) (Nat.le_refl u.length) (λj h h'=>decide_eq_true (hall j h h')) (Or.inr rfl);obtain⟨k1,k2,k3,k4,k5,k6,k7,k8,k9⟩:=jm3 u (by omega) u.length (Nat.le_refl _) l[i];have hins:ZX cmpL u l[i]=u.take u.length++l[i]::u.drop u.length:=by
   unfold ZX;rw[t1,t2,List.drop_length,if_neg (by simp)]
  rw[hins,jqT];simp only[cev];have hlt:jq .lss false (vi (u.length:Nat)) (qS (u.map jD))=some (vb false):=by
   rw[jh2,List.length_map,jjN,decide_eq_false (by omega)]
  simp only[hlt,Option.bind_some,jjT,jvn,Bool.false_eq_true,if_false,decide_false,jjQ,jaV,YP,jb hi,ad,ld,ld2];simp only[jg,e2];generalize hB:zk _ _ _=B;have hB':B=some (ltm l[i]):=by rw[<-hB];kernel_rfl
  rw[hB'];simp only[jg,k1,k2,k4,k5];rw[if_pos k3,if_pos k7,k6,if_pos k8,hck,Option.bind_some,k9]
 .intro k hk ih hall;have hlt:((k:Nat):Int)<((u.length:Nat):Int):=by omega
  have x1:ZB u.length (vi (k:Nat))=some k:=zR hk;have r1:=jyu hk;have e1:=Qt u[k] l[i] (hzu _ (List.getElem_mem _)) (hz _ (List.getElem_mem _));rw[jqT];by_cases hc:cmpL u[k] l[i]<0
  .have ih:=ih λj h h'=>by
    by_cases hj:j=k
    .subst hj;exact hc
    .exact hall j (by omega) h'
   have hk1:ck ((k:Int)+1)=some (vi ((k+1:Nat):Int)):=jZ (by omega) (by omega);generalize cmpL u[k] l[i]=d at *;simp only[jg,hlt,x1,r1,jb hi,zy,e1,hc,hk1];exact ih
  .obtain ⟨t1,t2⟩:=jvx (p:=λa=>decide (cmpL a l[i]<0)) (Nat.le_of_lt hk) (λj h h'=>decide_eq_true (hall j h h')) (Or.inl ⟨hk,decide_eq_false hc⟩);have hins:ZX cmpL u l[i]=if cmpL u[k] l[i]=0 then u else u.take k++l[i]::u.drop k:=by
    unfold ZX;rw[t1,t2,js hk];by_cases h0:cmpL u[k] l[i]=0
    .rw [if_pos h0];exact if_pos (decide_eq_true h0)
    .rw [if_neg h0];exact if_neg (λe=>h0 (of_decide_eq_true e))
   rw[hins];by_cases h0:cmpL u[k] l[i]=0
   .rw [if_pos h0];rw[h0]at e1;simp only[jg,hlt,x1,r1,jb hi,zy,e1,hck]
   .obtain ⟨k1,k2,k3,k4,k5,k6,k7,k8,k9⟩:=jm3 u (by omega) k (Nat.le_of_lt hk) l[i];rw[if_neg h0];generalize cmpL u[k] l[i]=d at *;simp only[jg,hlt,x1,r1,jb hi,zy,e1,hc,h0,ad,ld,ld2,e2];generalize hB:zk _ _ _=B;have hB':B=some (ltm l[i]):=by rw[<-hB];kernel_rfl
    rw[hB'];simp only[jg,k1,k2,k4,k5];rw[if_pos k3,if_pos k7,k6,if_pos k8,hck,Option.bind_some,k9]
theorem jqs{u:List Lt}(hu:Asc cmpL u)(x:Lt){y:Lt} :y∈ZX cmpL u x↔y∈u\/y=x:=(jd2 qe hu x).2 y
theorem jbJ(l:List Lt)(hl:l.length<=900)(hz:∀x∈l,Tz x.2):G 141 [.sl 3 (l.map jD)]=some (cm (zi cmpL l),[]):=by
 have key:=upto (P:=λi=>∀u:List Lt,Asc cmpL u->u.length<=i->(∀x∈u,Tz x.2)->jbv (.sl 3 (l.map jD)) (vi (i:Nat)) (u.map jD) []=some (cm ((l.drop i).foldl (ZX cmpL) u),[])) (n:=l.length) ?_ ?_ 0 (Nat.zero_le _) [] List.Pairwise.nil (Nat.le_refl _) (λx h=>by cases h)
 .rw [List.drop_zero]at key;simp only[Int.natCast_zero,List.map_nil]at key;rw[jzS,key];rfl
 .intro u _ _ _;rw[jqS,List.drop_length];simp only[jg];rfl
 .intro i hi ih u ha hu hzu;have hlt:(i:Int)<((l.length:Nat):Int):=by omega
  have:=jjr l (by omega) hz i hi u (by omega) hzu 0 (Nat.zero_le _) (λj h=>absurd h (Nat.not_lt_zero _));simp only[Int.natCast_zero]at this;have h2:=ih (ZX cmpL u l[i]) (jd2 qe ha l[i]).1 (by have:=ji7 cmpL u l[i];omega) λx hx=>by
   rcases(jqs ha l[i]).1 hx with h|h
   .exact hzu x h
   .rw [h];exact hz _ (List.getElem_mem _)
  rw[jqS,js hi,List.foldl_cons];simp only[jg,hlt,this,h2]
theorem CN.ren_tz{p:UInt8}(hp:upc p=true){c:kg}(h:CN c):∀x∈c.map (λl=>(l.1,kN (kG p (kh c)) l.2)),Rx' x.2/\Tz x.2:=λx hx=>⟨(h.ren hp x hx).1.rx,(h.ren hp x hx).1.tz (by have:=(h.ren hp x hx).2;omega)⟩
theorem jhO(p:UInt8)(c:kg)(h:CN c)(ns:Xa)(hl:ns.length<=1000)(hr:∀x∈c.map (λl=>(l.1,kN (kG p ns) l.2)),Rx' x.2/\Tz x.2):G 119 [cm c,strs ns,sv [p]]=some (cm (zi cmpL (c.map λl=>(l.1,kN (kG p ns) l.2))),[]):=by
 have h8:=h.1;have e3:=jbJ (c.map λl=>(l.1,kN (kG p ns) l.2)) (by rw[List.length_map];omega) (λx hx=>(hr x hx).2);generalize hd:c.map (λl=>(l.1,kN (kG p ns) l.2))=d at *;have hdl:d.length=c.length:=by rw[<-hd,List.length_map]
 have key:=upto (P:=λi=>jg3 (strs ns) (sv [p]) (vi (i:Nat)) (.sl 3 (c.map jD)) ((d.take i).map jD) []=some (cm (zi cmpL d),[])) (n:=c.length) ?_ ?_ 0 (Nat.zero_le _)
 .simp only[Int.natCast_zero,List.take_zero,List.map_nil]at key;rw[jzF];simp only[jg,key]
 .rw [jqI,<-hdl,List.take_length];have hlt:¬((d.length:Nat):Int)<((c.length:Nat):Int):=by omega
  simp only[jg,hlt,e3]
 .intro i hi ih;have hi2:i<d.length:=by omega
  have hlt:(i:Int)<((c.length:Nat):Int):=by omega
  have h5:=jy hi (by show c.length<=9223372036854775807;omega)
  have e1:=jjq p ns hl c[i].2 (h.tz _ (List.getElem_mem _));have hdi:d[i]=(c[i].1,kN (kG p ns) c[i].2):=by simp only[<-hd,List.getElem_map]
  have ta:=Kl (f:=jD) hi2;have tl:=take_len (f:=jD) (Nat.le_of_lt hi2);have hf:jO (i+1) 48=true:=jaX (by omega);have ld:∀l:Lt,kU (.elt (jD l) 0)=some (vb l.1):=λl=>rfl;have ad:∀(l:Lt)(n:Nat),Jk (.elt (jD l) 0) n=some (.elt (jD l) n):=λl n=>by rw[yN,Nat.zero_add]
  have ld2:∀l:Lt,jbr 2 (.elt (jD l) 1)=some (tm l.2):=λl=>rfl;rw[hdi]at ta;generalize (d.take i).map jD=R at *;generalize kN (kG p ns) c[i].2=u at *;rw[jqI];simp only[jg,hlt,jb hi,ad,ld,ld2,e1];generalize hB:zk _ _ _=B;have hB':B=some (ltm (c[i].1,u)):=by rw[<-hB];kernel_rfl
  rw[hB'];have hck:ck ((i:Int)+1)=some (vi ((i+1:Nat):Int)):=jZ (by omega) (by omega);simp only[jg,tl,hf,ta,hck,ih]
theorem jjt(p:UInt8)(hp:upc p=true)(c:kg)(h:CN c):G 119 [cm c,strs (kh c),sv [p]]=some (cm (renC p c),[]):=jhO p c h (kh c) (by have:=qL h;omega) (h.ren_tz hp)
theorem joi(c:kg)(h:CN c):G 88 [cm c]=some (strs (kh c),[]):=jeg c (by have:=h.1;omega) h.tz λl hl=>by have:=(h.2 l hl).2;omega
theorem jeu:∀(k i:Nat),k+i=10-> ∀c:kg,CN c->jmD (vi (i:Nat)) (.sl 3 (c.map jD)) []=some (.tup [cm (normF k c),vb (zN (normF k c))],[])
 |0,i,hk,c,h=>by
  have hi:((i:Nat):Int)=10:=by omega
  have e0:=YW c (by have:=h.1;omega) h.tz
  rw[jvg,normF,hi];simp only[jg,e0]
 |k+1,i,hk,c,h=>by
  have hlt:((i:Nat):Int)<10:=by omega
  have e0:=YW c (by have:=h.1;omega) h.tz
  have e1:=KS c h;rw[jvg,normF];cases hn:qY c<;>rw[hn]at e1
  .have e2:=joi c h;have e4:=jjt 88 (by decide) c h;have hck:ck ((i:Int)+1)=some (vi ((i+1:Nat):Int)):=jZ (by omega) (by omega);have ih:=jeu k (i+1) (by omega) (renC 88 c) (h.renC (by decide));rw[if_neg Bool.false_ne_true];simp only[jg,hlt,e1,e2,e4,hck,ih]
  .rw [if_pos rfl];simp only[jg,hlt,e1,e0]
theorem jjs(c:kg)(h:CN c)(ha:Asc cmpL c):G 94 [cm c]=some (.tup [cm (normC c),vb (zN (normC c))],[]):=by
 have e1:=jbJ c (by have:=h.1;omega) h.tz
 rw[jrj ha]at e1;have e2:=jeu 10 0 rfl c h;simp only[Int.natCast_zero]at e2;rw[g94];simp only[jg,e1,e2];rfl
theorem Jj(s:Xb):kO (sv s)=true:=rfl
theorem Yd(b:Bool):kO (vb b)=true:=rfl
theorem jjb(k:Nat)(xs:Xc):jcv (.sl k xs)=true:=rfl
theorem jo8(ts:Xg)(hl:ts.length<=1048576)(ih:∀t∈ts,jpm (tm t)=some (.top,[sv t.name,.sl 66 (t.args.map jm)])):jdn (jS ts)=some (.top,[.sl 66 (ts.map jm)]):=by
 have key:=(upto (P:=λi=>jc4 (jS ts) (vi i) (part jm [sv [],.sl 2 []] ts i)=some (.top,[.sl 66 (ts.map jm)])) (n:=ts.length) ?_ ?_ 0 (Nat.zero_le _))
 .rw [jxs];have hm:=Y1 (b:=40) (n:=ts.length) (by omega) hl;simp only[Int.natCast_zero,<-Y2]at key;simp only[jg,hm,key]
 .rw [jm9,ja1];simp only[jg]
 .intro i hi ih';have h1:=KE (f:=jm) (z:=[sv [],.sl 2 []]) (Nat.le_of_lt hi);have h2:ZB (part jm [sv [],.sl 2 []] ts i).length (vi i)=some i:=zR (by omega);have h4:=ja3 (f:=jm) (z:=[sv [],.sl 2 []]) hi;rw[kR]at h4;have h5:=jy hi (Nat.le_trans hl (by decide));have e1:=ih ts[i] (List.getElem_mem _);rw[jm9];simp only[jg,hi,Int.ofNat_lt,jb hi,ji,e1,List.getElem?_cons_zero,Jj,h2,ja2 hi,jc9,h4,h5,ih']
theorem jsn(t:T)(ht:jdn (jS t.args)=some (.top,[.sl 66 (t.args.map jm)])):jpm (tm t)=some (.top,[sv t.name,.sl 66 (t.args.map jm)]):=by
 rw[jxx];simp only[jg,ht]
theorem jut(t:T):tsz t<=1048576->jdn (jS t.args)=some (.top,[.sl 66 (t.args.map jm)]):=by
 refine T.ind (p:=λt=>tsz t<=1048576->jdn (jS t.args)=some (.top,[.sl 66 (t.args.map jm)])) ?_ t;intro t ih h;rw[ze]at h;exact jo8 t.args (by omega) λu hu=>jsn u (ih u hu (by have:=yQ hu;omega))
theorem jsm(t:T)(h:tsz t<=1048576):jml (sv t.name) (jS t.args)=some (.top,[sv t.name,.sl 66 (t.args.map jm)]):=by
 have e1:=jut t h;rw[jxy];simp only[jg,e1]
theorem jrI(n:Int):QT (.sl 1 [[vy n]])=some (sv [UInt8.ofNat n.toNat]):=rfl
theorem jlH(x:Int):jq .rem false (vi x) (vi 10)=some (vi (x.tmod 10)):=rfl
theorem jgg(x:Int):jq .rem false (vi x) (vi 3)=some (vi (x.tmod 3)):=rfl
theorem jlG(x:Int):jq .quo false (vi x) (vi 10)=ck (x.tdiv 10):=rfl
theorem jtV(k:IntKind)(a:Int):jaW .u8 (.val (.int k a))=some (vy (IntKind.u8.wrap a)):=rfl
theorem jwx(n:Int):jQ (vy n)=true:=rfl
theorem jfv:∀(k:Nat)(out:Xb),out.length+k<=1000000000-> ∃s,jmp (vi (k:Nat)) (sv out)=some (sv s,[]):=by
 intro k;induction k using Nat.strongRecOn with
 |ind k ih=>
  intro out hl;by_cases hk:(0:Int)<(k:Nat)
  .have h1:((k:Nat):Int).tdiv 10=((k / 10:Nat):Int):=by rw[Int.tdiv_eq_ediv_of_nonneg (by omega)];rfl
   have h2:((k:Nat):Int).tmod 10=((k % 10:Nat):Int):=by rw[Int.tmod_eq_emod_of_nonneg (by omega)];rfl
   have c1:ck ((k / 10:Nat):Int)=some (vi ((k / 10:Nat):Int)):=jZ (by omega) (by omega);have c2:ck (48+((k % 10:Nat):Int))=some (vi (48+((k % 10:Nat):Int))):=jZ (by omega) (by omega);generalize hc:UInt8.ofNat (IntKind.u8.wrap (48+((k % 10:Nat):Int))).toNat=c;have e1:jq .add false (sv [c]) (sv out)=some (sv ([c]++out)):=by rw[Zg,if_pos (by simp;omega)]
   obtain⟨s,hs⟩:=ih (k / 10) (by omega) ([c]++out) (by simp;omega)
   refine⟨s,?_⟩;rw[juY];simp only[jg,hk,jlH,h2,c2,jtV,jwx,jrI,hc,e1,jlG,h1,c1,hs]
  .have e1:jq .add false (sv [109]) (sv out)=some (sv ([109]++out)):=by rw[Zg,if_pos (by simp;omega)]
   refine⟨[109]++out,?_⟩;rw[juY];simp only[jg,hk,e1]
theorem jcD(k:Nat)(h:k<=1000000000):∃s,G 41 [vi (k:Nat)]=some (sv s,[]):=by
 rw[g41];by_cases hk:((k:Nat):Int)<=0
 .exact ⟨[109,48],by simp only[jg,hk]⟩
 .obtain ⟨s,hs⟩:=jfv k [] (by simpa using h);exact⟨s,by simp only[jg,hk,hs]⟩
mutual
def mkN:T->Nat
 |.mk _ us=>1+KY us
def KY:Xg->Nat
 | []=>0
 |t::ts=>mkN t+KY ts
end
theorem jlx(t:T):mkN t=1+KY t.args:=by cases t;simp[mkN,T.args]
mutual
theorem jtK:∀t:T,mkN t<=1+tsz t
 |.mk n us=>by
  have:=jdd us;simp only[mkN,tsz];omega
theorem jdd:∀ts:Xg,KY ts<=ts.length+JP ts
 | []=>by simp[KY]
 |t::ts=>by
  have h1:=jtK t;have h2:=jdd ts;simp only[KY,JP,List.length_cons];omega
end
theorem jvC:∀(r:Xg)(M:Xc)(k:Nat),k+KY r<=100000000->M.length+r.length<=9223372036854775807->
  (∀t∈r,∀k:Nat,k+KY t.args<=100000000-> ∃X,jfz (vi (k:Nat)) (t.args.map jm)=some (.top,[vi ((k+KY t.args:Nat):Int),.sl 66 X]))->
  ∃X,jc5 (vi (k:Nat)) (vi (M.length:Nat)) (M++r.map jm)=some (.top,[vi ((k+KY r:Nat):Int),.sl 66 X])
 | [],M,k,hk,hl,_=>by
  refine⟨M,?_⟩;rw[jna,List.map_nil,List.append_nil];simp only[jg,KY,Nat.add_zero]
 |t::r,M,k,hk,hl,ht=>by
  simp only[KY,jlx,List.length_cons]at hk hl;have h1:((M.length:Nat):Int)<(((M++jm t::r.map jm).length:Nat):Int):=by simp;omega
  have h2:=jeW M (r.map jm) (jm t);have h3:=jbd M (r.map jm) (jm t);obtain⟨s,e0⟩:=jcD k (by omega);have h4:=jbe M (r.map jm) (jm t) [sv s,jS t.args];have h5:=jeW M (r.map jm) [sv s,jS t.args];have h6:=jbd M (r.map jm) [sv s,jS t.args];have e1:=jy (i:=k) (n:=k+1) (by omega) (by omega);have e2:=jy (i:=M.length) (n:=M.length+1) (by omega) (by omega);obtain⟨Y,e3⟩:=ht t (by simp) (k+1) (by omega);have h7:=jbe M (r.map jm) [sv s,jS t.args] [sv s,.sl 2 Y];obtain⟨X,ih⟩:=jvC r (M++[[sv s,.sl 2 Y]]) (k+1+KY t.args) (by omega) (by simp;omega) λu hu=>ht u (by simp[hu]);have q:(M++[[sv s,.sl 2 Y]]).length=M.length+1:=by simp
  have q2:M++[[sv s,.sl 2 Y]]++r.map jm=M++[sv s,.sl 2 Y]::r.map jm:=by simp
  rw[q,q2,show k+1+KY t.args+KY r=k+(1+KY t.args+KY r) by omega]at ih;have o1:zf (jm t) 0 [sv s]=[sv s,jS t.args]:=by rw[kR];rfl
  have o2:zf [sv s,jS t.args] 1 [.sl 2 Y]=[sv s,.sl 2 Y]:=rfl;have tv:je9 (jm t) 0 1=true:=by rw[kR];rfl
  refine⟨X,?_⟩;rw[jna,List.map_cons,KY,jlx];simp only[jg,h1,e0,h2,h3,Jj,tv,o1,h4,h5,h6,jjb,e1,e3,List.getElem?_cons_zero,o2,h7,e2,ih]
theorem jEX(t:T):KZ t-> ∀k:Nat,k+KY t.args<=100000000-> ∃X,jfz (vi (k:Nat)) (t.args.map jm)=some (.top,[vi ((k+KY t.args:Nat):Int),.sl 66 X]):=by
 refine T.ind (p:=λt=>KZ t-> ∀k:Nat,k+KY t.args<=100000000-> ∃X,jfz (vi (k:Nat)) (t.args.map jm)=some (.top,[vi ((k+KY t.args:Nat):Int),.sl 66 X])) ?_ t;intro t ih hw k hk;obtain⟨_,w2,w3⟩:=(kQ t).1 hw;have w3:=(kK _).1 w3;obtain⟨X,h⟩:=jvC t.args [] k hk (by simpa using w2) λu hu=>ih u hu (w3 u hu);refine⟨X,?_⟩;rw[jxt];exact h
def HL:Nat->Xg->Nat->Prop
 |k,[],k'=>k'=k
 |k,u::us,k'=>∃k1:Nat,G 41 [vi (k:Nat)]=some (sv u.name,[])/\G 60 [jS u.args,vi ((k+1:Nat):Int)]=some (vi (k1:Nat),[])/\k<k1/\HL k1 us k'
theorem jpu:∀(r:Xg)(k k':Nat),HL k r k'->k<=k'
 | [],k,k',h=>by have h:k'=k:=h;omega
 |u::r,k,k',⟨k1,_,_,g3,g4⟩=>by have:=jpu r k1 k' g4;omega
theorem jfY:∀(r:Xg)(M:Xg)(k k':Nat),k'<=100000000->M.length+r.length<=9223372036854775807->k<=k'->HL k r k'->jmy (jS (M++r)) (vi (k:Nat)) (vi (M.length:Nat))=some (vi (k':Nat),[])
 | [],M,k,k',_,_,_,h=>by
  have h:k'=k:=h;subst h;rw[ju9,List.append_nil];simp only[jg]
 |u::r,M,k,k',hk,hl,hkk,⟨k1,g1,g2,g3,g4⟩=>by
  have h1:((M.length:Nat):Int)<(((M++u::r).length:Nat):Int):=jrn M r u;have h2:jz 2 (jS (M++u::r)) (vi (M.length:Nat))=some (.elt (jm u) 0):=jjC (f:=jm) (k:=2) M r u;have hle:k1<=k':=jpu r k1 k' g4;have e1:=jy (i:=k) (n:=k+1) (by omega) (by omega);have h5:=jy (i:=M.length) (n:=(M++u::r).length) (by simp) (by simp;simp at hl;omega);have ih:=jfY r (M++[u]) k1 k' hk (by simp at hl⊢;omega) hle g4;have q:(M++[u]).length=M.length+1:=by simp
  rw[q,List.append_assoc,List.singleton_append]at ih;have ad:Jk (.elt (jm u) 0) 1=some (.elt (jm u) 1):=by rw[yN]
  have ad0:Jk (.elt (jm u) 0) 0=some (.elt (jm u) 0):=by rw[yN]
  have lp:kU (.elt (jm u) 1)=some (jS u.args):=by rw[kR];rfl
  have lp0:kU (.elt (jm u) 0)=some (sv u.name):=by rw[kR];rfl
  have nk:¬((k1:Nat):Int)<0:=by omega
  rw[ju9];simp only[jg,h1,h2,ad,ad0,lp,lp0,g1,e1,g2,nk,h5,ih]
theorem jtt(us:Xg)(k k':Nat)(hk:k'<=100000000)(hl:us.length<=9223372036854775807)(h:HL k us k'):G 60 [jS us,vi (k:Nat)]=some (vi (k':Nat),[]):=by
 have:=jfY us [] k k' hk (by simpa using hl) (jpu us k k' h) h;rw[g60];exact this
theorem Qu:∀(r:Xg)(M:Xc)(k:Nat),k+KY r<=100000000->M.length+r.length<=9223372036854775807->
  (∀t∈r,∀k:Nat,k+KY t.args<=100000000-> ∃us:Xg,jfz (vi (k:Nat)) (t.args.map jm)=some (.top,[vi ((k+KY t.args:Nat):Int),.sl 66 (us.map jm)])/\G 60 [jS us,vi (k:Nat)]=some (vi ((k+KY t.args:Nat):Int),[]))->
  ∃us:Xg,us.length=r.length/\HL k us (k+KY r)/\jc5 (vi (k:Nat)) (vi (M.length:Nat)) (M++r.map jm)=some (.top,[vi ((k+KY r:Nat):Int),.sl 66 (M++us.map jm)])
 | [],M,k,hk,hl,_=>by
  refine⟨[],rfl,rfl,?_⟩;rw[jna,List.map_nil,List.append_nil];simp only[jg,KY,Nat.add_zero]
 |t::r,M,k,hk,hl,ht=>by
  simp only[KY,jlx,List.length_cons]at hk hl;have h1:((M.length:Nat):Int)<(((M++jm t::r.map jm).length:Nat):Int):=by simp;omega
  have h2:=jeW M (r.map jm) (jm t);have h3:=jbd M (r.map jm) (jm t);obtain⟨s,e0⟩:=jcD k (by omega);have h4:=jbe M (r.map jm) (jm t) [sv s,jS t.args];have h5:=jeW M (r.map jm) [sv s,jS t.args];have h6:=jbd M (r.map jm) [sv s,jS t.args];have e1:=jy (i:=k) (n:=k+1) (by omega) (by omega);have e2:=jy (i:=M.length) (n:=M.length+1) (by omega) (by omega);obtain⟨vs,e3,e4⟩:=ht t (by simp) (k+1) (by omega);have h7:=jbe M (r.map jm) [sv s,jS t.args] [sv s,jS vs];obtain⟨us,l1,l2,ih⟩:=Qu r (M++[[sv s,jS vs]]) (k+1+KY t.args) (by omega) (by simp;omega) λu hu=>ht u (by simp[hu]);have q:(M++[[sv s,jS vs]]).length=M.length+1:=by simp
  have q2:M++[[sv s,jS vs]]++r.map jm=M++[sv s,jS vs]::r.map jm:=by simp
  have q3:M++[[sv s,jS vs]]++us.map jm=M++(T.mk s vs::us).map jm:=by rw[List.map_cons,kR (.mk s vs),List.append_assoc];rfl
  have e4:G 60 [jS vs,vi ((k+1:Nat):Int)]=some (vi ((k+1+KY t.args:Nat):Int),[]):=e4;have hHL:HL k (T.mk s vs::us) (k+(1+KY t.args+KY r)):=⟨k+1+KY t.args,e0,e4,by omega,by rw[show k+(1+KY t.args+KY r)=k+1+KY t.args+KY r by omega];exact l2⟩;rw[q,q2,q3,show k+1+KY t.args+KY r=k+(1+KY t.args+KY r) by omega]at ih;have o1:zf (jm t) 0 [sv s]=[sv s,jS t.args]:=by rw[kR];rfl
  have o2:zf [sv s,jS t.args] 1 [jS vs]=[sv s,jS vs]:=rfl;have tv:je9 (jm t) 0 1=true:=by rw[kR];rfl
  refine⟨T.mk s vs::us,by simp[l1],by rw[KY,jlx];exact hHL,?_⟩
  rw[jna,List.map_cons,KY,jlx];simp only[jg,h1,e0,h2,h3,Jj,tv,o1,h4,h5,h6,jjb,e1,e3,List.getElem?_cons_zero,o2,h7,e2,ih]
theorem jrm(t:T):KZ t-> ∀k:Nat,k+KY t.args<=100000000-> ∃us:Xg,jfz (vi (k:Nat)) (t.args.map jm)=some (.top,[vi ((k+KY t.args:Nat):Int),.sl 66 (us.map jm)])/\G 60 [jS us,vi (k:Nat)]=some (vi ((k+KY t.args:Nat):Int),[]):=by
 refine T.ind (p:=λt=>KZ t-> ∀k:Nat,k+KY t.args<=100000000-> ∃us:Xg,jfz (vi (k:Nat)) (t.args.map jm)=some (.top,[vi ((k+KY t.args:Nat):Int),.sl 66 (us.map jm)])/\G 60 [jS us,vi (k:Nat)]=some (vi ((k+KY t.args:Nat):Int),[])) ?_ t;intro t ih hw k hk;obtain⟨_,w2,w3⟩:=(kQ t).1 hw;have w3:=(kK _).1 w3;obtain⟨us,l1,l2,h⟩:=Qu t.args [] k hk (by simpa using w2) λu hu=>ih u hu (w3 u hu);refine⟨us,?_,jtt us k _ hk (by rw[l1];exact w2) l2⟩;rw[jxt];exact h
theorem jEI(ts:Xg)(hw:∀t∈ts,KZ t)(hl:ts.length<=9223372036854775807)(k:Nat)(hk:k+KY ts<=100000000):∃X,jfz (vi (k:Nat)) (ts.map jm)=some (.top,[vi ((k+KY ts:Nat):Int),.sl 66 X]):=by
 obtain⟨X,h⟩:=jvC ts [] k hk (by simpa using hl) λu hu=>jEX u (hw u hu);refine⟨X,?_⟩;rw[jxt];exact h
theorem jfV(s:Xb):yb (sv s)=true:=rfl
theorem jfW(b:Bool):yb (vb b)=true:=rfl
theorem jdN(ts:Xg)(hl:ts.length<=1048576)(ih:∀t∈ts,jfA (tm t)=some (.top,[sv t.name,.sl 66 (t.args.map jm)])):jgR (jS ts)=some (.top,[.sl 66 (ts.map jm)]):=by
 by_cases h0:ts.length=0
 .have:ts=[]:=List.eq_nil_of_length_eq_zero h0;subst this;have hz:(((0:Nat):Int)=0)=True:=by simp
  rw[jpS];simp only[jg,List.map_nil,hz]
 have hn:¬(((ts.length:Nat):Int)=0):=by omega
 have key:=(upto (P:=λi=>Q8 (jS ts) (vi (ts.length:Nat)) (vi i) (part jm [sv [],.sl 2 []] ts i)=some (.top,[.sl 66 (ts.map jm)])) (n:=ts.length) ?_ ?_ 0 (Nat.zero_le _))
 .rw [jpS];have hm:=Y1 (b:=40) (n:=ts.length) (by omega) hl;simp only[Int.natCast_zero,<-Y2]at key;simp only[jg,hn,hm,key]
 .rw [jji,ja1];simp only[jg]
 .intro i hi ih';have h1:=KE (f:=jm) (z:=[sv [],.sl 2 []]) (Nat.le_of_lt hi);have h2:ZB (part jm [sv [],.sl 2 []] ts i).length (vi i)=some i:=zR (by omega);have h4:=ja3 (f:=jm) (z:=[sv [],.sl 2 []]) hi;rw[kR]at h4;have h5:=jy hi (Nat.le_trans hl (by decide));have e1:=ih ts[i] (List.getElem_mem _);rw[jji];simp only[jg,hi,Int.ofNat_lt,jb hi,ji,e1,List.getElem?_cons_zero,Jj,jfV,h2,ja2 hi,jc9,h4,h5,ih']
theorem juI(t:T):tsz t<=1048576->jfA (tm t)=some (.top,[sv t.name,.sl 66 (t.args.map jm)]):=by
 refine T.ind (p:=λt=>tsz t<=1048576->jfA (tm t)=some (.top,[sv t.name,.sl 66 (t.args.map jm)])) ?_ t;intro t ih h;rw[ze]at h;have e:=jdN t.args (by omega) λu hu=>ih u hu (by have:=yQ hu;omega);rw[jxC];simp only[jg,e]
theorem jfO(t:T)(h:Tz t):G 66 [tm t]=some (tm t,[]):=by
 unfold Tz at h;rw[ze]at h;have e:=jdN t.args (by omega) λu hu=>juI u (by have:=yQ hu;omega);rw[g66];simp only[jg,e]
theorem jdM(l:Lt)(h:tsz l.2<=1048576):jgW (vb l.1) (sv l.2.name) (jS l.2.args)=some (.top,[vb l.1,sv l.2.name,.sl 66 (l.2.args.map jm)]):=by
 have e:=juI l.2 h;rw[jvX];simp only[jg,e,List.getElem?_cons_zero,jfV]
def Qh:Option Xb->ju->Bool
 |_,[]=>true
 |none,q::r=>jr q.1 && (kV q.2 && (!decide (q.2.name=q.1) && Qh (some q.1) r))
 |some m,q::r=>zz m q.1 && (jr q.1 && (kV q.2 && (!decide (q.2.name=q.1) && Qh (some q.1) r)))
def okB(q:Xb×T):Bool:=jr q.1 && (kV q.2 && !decide (q.2.name=q.1))
def SzB(s:ju):Prop:=s.length<=1000000/\ ∀q∈s,q.1.length<=1000000/\Tz q.2
theorem SzB.sz{s:ju}(h:SzB s):Sz 1048576 s:=⟨by have:=h.1;omega,λq hq=>⟨by have:=(h.2 q hq).1;omega,(h.2 q hq).2⟩⟩
theorem zB{s:ju}(h:jB s=true):SzB s:=by
 obtain⟨h1,_,h3⟩:=jI h;refine⟨by omega,λq hq=>⟨?_,?_⟩⟩
 .have:=jfc (h3 q hq).1;omega
 .have:=jev q.2 (Qe (h3 q hq).2.1);have:=JQ h q hq;unfold Tz;omega
theorem Jx(q:Xb×T):jbr 3 (.elt (bc q) 0)=some (.agg [sv q.1,sv q.2.name,jS q.2.args]):=rfl
theorem Zi{x y z:Xb}(h1:zz x y=true)(h2:zz y z=true):zz x z=true:=by
 rw[Q3,decide_eq_true_eq]at *;exact List.lt_trans h1 h2
theorem jhs:∀{s:ju},jiG s=true->s.Pairwise λp q=>zz p.1 q.1=true
 | [],_=>List.Pairwise.nil
 | [p],_=>by simp
 |p::q::s,h=>by
  rw[jiG,Bool.and_eq_true]at h;have ih:=jhs h.2;refine List.pairwise_cons.2 ⟨λx hx=>?_,ih⟩;rcases List.mem_cons.1 hx with e|e
  .rw [e];exact h.1
  .exact Zi h.1 ((List.pairwise_cons.1 ih).1 x e)
theorem jxY{m:Nat}(h:m<=2000000):jaW .u64 (vi (m:Nat))=some (.val (.int .u64 (m:Nat))):=by
 show some (A.val (.int .u64 (IntKind.u64.wrap (m:Nat))))=_;have:IntKind.u64.wrap ((m:Nat):Int)=(m:Nat):=by
  unfold IntKind.wrap;simp[IntKind.bits,IntKind.signed];omega
 rw[this]
theorem jxZ{m:Nat}(h:m<=2000000):jq .shr false (.val (.int .u64 (m:Nat))) (.val (.int .u64 1))=some (.val (.int .u64 ((m / 2:Nat):Int))):=by
 show some (A.val (.int .u64 (((m:Nat):Int).fdiv (2 ^ min 1 64))))=_;rw[Int.fdiv_eq_ediv_of_nonneg _ (by decide)];rfl
theorem jx0{m:Nat}(h:m<=2000000):jaW .i64 (.val (.int .u64 (m:Nat)))=some (vi (m:Nat)):=jZ (by omega) (by omega)
theorem jmN(x y:Xb):kz x y<0↔zz x y=true:=by
 unfold kz;cases h:zz x y with
 |true=>simp
 |false=>
  rw[if_neg Bool.false_ne_true];split<;>simp
theorem jky(q:Xb×T)(n:Xb):G 191 [.agg (bc q),sv n]=some (vi (kz q.1 n),[]):=by
 have e:=Z7 q.1 n;rw[jAk];simp only[jg,e]
theorem jcA{s:ju}(hs:s.Pairwise λp q=>zz p.1 q.1=true){n:Xb}{i:Nat}(h1:∀k,(h:k<s.length)->k<i->zz s[k].1 n=true)(h2:∀k,(h:k<s.length)->i<=k->zz s[k].1 n=false):look s n=if h:i<s.length then(if s[i].1=n then some s[i].2 else none)else none:=by
 have hne:∀k,(h:k<s.length)->k≠i->s[k].1≠n:=λk h hk e=>by
  rcases Nat.lt_or_ge k i with hl|hl
  .have:=h1 k h hl;rw[e,Y6]at this;cases this
  .have hi:i<k:=by omega
   have:=(List.pairwise_iff_getElem.1 hs) i k (by omega) h hi;rw[e]at this;rw[h2 i (by omega) (Nat.le_refl _)]at this;cases this
 split
 .rename_i hi;split
  .rename_i he;have hm:(n,s[i].2)∈s:=by rw[<-he];exact List.getElem_mem hi
   cases hl:look s n with
   |none=>exact(qK.1 hl _ hm rfl).elim
   |some r=>
    obtain⟨k,hk,e⟩:=List.mem_iff_getElem.1 (Zz hl);have:k=i:=Classical.byContradiction λh=>hne k hk h (by rw[e]);subst this;rw[e]
  .rename_i he;refine qK.2 λp hp=>?_;obtain⟨k,hk,rfl⟩:=List.mem_iff_getElem.1 hp;by_cases h:k=i
   .subst h;exact he
   .exact hne k hk h
 .rename_i hi;refine qK.2 λp hp=>?_;obtain⟨k,hk,rfl⟩:=List.mem_iff_getElem.1 hp;exact hne k hk (by omega)
theorem jkp(s:ju)(hl:s.length<=1000000)(hs:s.Pairwise λp q=>zz p.1 q.1=true)(n:Xb):∀(d i j:Nat),j-i<=d->i<=j->j<=s.length->(∀k,(h:k<s.length)->k<i->zz s[k].1 n=true)->(∀k,(h:k<s.length)->j<=k->zz s[k].1 n=false)->
  ∃(i':Nat)(b:Bool),jdz (JY s) (sv n) (.fn 191 []) (vi (s.length:Nat)) (vi (i:Nat)) (vi (j:Nat))=some (.tup [vi (i':Nat),vb b],[])/\look s n=(if h:i'<s.length then(if b then some s[i'].2 else none)else none)/\(b=true->i'<s.length):=by
 intro d;induction d with
 |zero=>
  intro i j hd hij hj h1 h2;have hij:i=j:=by omega
  subst hij;have hlt:¬(i:Int)<(i:Int):=by omega
  have hp:K.pureF 191=true:=rfl;rw[jq6];by_cases hi:i<s.length
  .have hi':(i:Int)<((s.length:Nat):Int):=by omega
   have cc:DX.run K (MM K) (.callc (.fn 191 []) [.agg (bc s[i]),sv n] false)=some (vi (kz s[i].1 n)):=by
    rw[Je hp,List.append_nil,jky];rfl
   refine⟨i,decide (s[i].1=n),?_,?_,λ_=>hi⟩
   .have hz:decide (kz s[i].1 n=0)=decide (s[i].1=n):=decide_eq_decide.2 (Jg.zero _ _);rw[<-hz];simp only[jg,hlt,hi',jb hi,Jx,cc]
   .rw [jcA hs h1 h2,dif_pos hi,dif_pos hi];by_cases he:s[i].1=n
    .rw [if_pos he,decide_eq_true he,if_pos rfl]
    .rw [if_neg he,decide_eq_false he,if_neg Bool.false_ne_true]
  .have hi':¬(i:Int)<((s.length:Nat):Int):=by omega
   refine⟨i,false,?_,?_,λh=>by cases h⟩
   .simp only[jg,hlt,hi']
   .rw [jcA hs h1 h2,dif_neg hi,dif_neg hi]
 |succ d ih=>
  intro i j hd hij hj h1 h2;by_cases hlt0:i<j;rotate_left
  .exact ih i j (by omega) hij hj h1 h2
  have hlt:(i:Int)<(j:Int):=by omega
  have hp:K.pureF 191=true:=rfl;have hm:(i+j) / 2<s.length:=by omega
  have c0:ck ((i:Int)+(j:Int))=some (vi ((i+j:Nat):Int)):=jZ (by omega) (by omega);have c1:=jxY (m:=i+j) (by omega);have c2:=jxZ (m:=i+j) (by omega);have c3:=jx0 (m:=(i+j) / 2) (by omega);have cc:DX.run K (MM K) (.callc (.fn 191 []) [.agg (bc s[(i+j) / 2]),sv n] false)=some (vi (kz s[(i+j) / 2].1 n)):=by
   rw[Je hp,List.append_nil,jky];rfl
  have ix:=jb (k:=3) (f:=bc) hm;have hpw:=List.pairwise_iff_getElem.1 hs;rw[jq6];have hc:=jmN s[(i+j) / 2].1 n;generalize hg:kz s[(i+j) / 2].1 n=c at *;generalize hme:(i+j) / 2=m at *;by_cases hneg:c<0
  .have hs1:=hc.1 hneg;have h5:ck ((m:Int)+1)=some (vi ((m+1:Nat):Int)):=jZ (by omega) (by omega);have:=ih (m+1) j (by omega) (by omega) hj (λk hk hk2=>by
    by_cases e:k=m
    .subst e;exact hs1
    .exact Zi (hpw k m hk hm (by omega)) hs1) h2
   obtain⟨i',b,e1,e2⟩:=this;exact⟨i',b,by simp only[jg,hlt,c0,c1,c2,c3,ix,Jx,cc,hneg,h5];exact e1,e2⟩
  .have hs1:zz s[m].1 n=false:=by
    cases h:zz s[m].1 n with
    |false=>rfl
    |true=>exact(hneg (hc.2 h)).elim
   have:=ih i m (by omega) (by omega) (by omega) h1 (λk hk hk2=>by
    by_cases e:k=m
    .subst e;exact hs1
    .cases h:zz s[k].1 n with
     |false=>rfl
     |true=>rw[Zi (hpw m k hm hk (by omega)) h]at hs1;cases hs1)
   obtain⟨i',b,e1,e2⟩:=this;exact⟨i',b,by simp only[jg,hlt,c0,c1,c2,c3,ix,Jx,cc,hneg];exact e1,e2⟩
def outT(o:Option T):Xe:=match o with|some t=>some (.tup [tm t,vb true],[])|none=>some (.tup [.agg [sv [],.sl 2 []],vb false],[])
theorem je4(s:ju)(hs:jB s=true)(n:Xb):G 151 [sb s,sv n]=outT (look s n):=by
 have hl:=(jI hs).1;obtain⟨i,b,e1,e2,e3⟩:=jkp s (by omega) (jhs (jI hs).2.1) n s.length 0 s.length (by omega) (Nat.zero_le _) (Nat.le_refl _) (λk _ h=>by omega) (λk h1 h2=>by omega);simp only[Int.natCast_zero]at e1;have e4:G 190 [JY s,sv n,.fn 191 []]=some (.tup [vi (i:Nat),vb b],[]):=by
  rw[jAj];simp only[jg,e1]
 rw[jz0,e2];cases b with
 |false=>
  have:(if h:i<s.length then(if false=true then some s[i].2 else none)else none)=(none:Option T):=by split<;>simp
  rw[this];simp only[jg,e4];rfl
 |true=>
  have hi:=e3 rfl;rw[dif_pos hi,if_pos rfl];simp only[jg,e4,jb hi,ZC];rfl
theorem jfH(s:ju)(hs:jB s=true):∀t:T,Rx' t->Tz t->G 127 [sb s,tm t]=some (tm (sub s t),[]):=by
 refine T.ind λt ih hk ht=>?_;have hz:=ht;unfold Tz at hz;rw[ze]at hz;rw[jzL];by_cases ha:t.args=[]
 .have e1:=je4 s hs t.name;have h0:zG (jS t.args)=some (vi 0):=by rw[ha];rfl
  cases hl:look s t.name with
  |some r=>
   rw[hl]at e1;have e1:G 151 [sb s,sv t.name]=some (.tup [tm r,vb true],[]):=e1;have hv:jr t.name=true:=((jI hs).2.2 _ (Zz hl)).1;have e2:=jfO r ((zB hs).2 _ (Zz hl)).2;have:sub s t=r:=by rw[KI hv,jc1,hl];rfl
   rw[this];simp only[jg,h0,e1,e2]
  |none=>
   rw[hl]at e1;have e1:G 151 [sb s,sv t.name]=some (.tup [.agg [sv [],.sl 2 []],vb false],[]):=e1;have:sub s t = .mk t.name []:=by
    cases hv:jr t.name with
    |true=>rw[KI hv,jc1,hl];rfl
    |false=>rw[Jb hv,ha];rfl
   rw[this];simp only[jg,h0,e1];rfl
 .have hv:jr t.name=false:=by
   cases hv:jr t.name with
   |false=>rfl
   |true=>exact(ha (hk.va hv)).elim
  have hpos:0<t.args.length:=by
   cases h:t.args with
   |nil=>exact(ha h).elim
   |cons _ _=>simp
  have h0:¬((t.args.length:Nat):Int)=0:=by omega
  rw[Jb hv];generalize hus:t.args.map (sub s)=us at *;have hul:us.length=t.args.length:=by rw[<-hus,List.length_map]
  have hm:=Y1 (b:=40) (n:=t.args.length) (by omega) (by omega);have hz0:(0:Int)<((t.args.length:Nat):Int):=by omega
  have step:∀i,(hi:i<t.args.length)->G 127 [sb s,tm t.args[i]]=some (tm (us[i]'(by omega)),[]):=λi hi=>by
   rw[ih t.args[i] (List.getElem_mem _) (hk.args _ (List.getElem_mem _)) (ht.args _ (List.getElem_mem _))];simp only[<-hus,List.getElem_map]
  have stepR:∀i,(hi:i<t.args.length)->ZB (part jm [sv [],.sl 2 []] us i).length (vi (i:Nat))=some i/\ZY (part jm [sv [],.sl 2 []] us i) i=some [sv [],.sl 2 []]/\yh (part jm [sv [],.sl 2 []] us i) i [sv (us[i]'(by omega)).name,jS (us[i]'(by omega)).args]=part jm [sv [],.sl 2 []] us (i+1):=λi hi=>by
   have h4:=ja3 (f:=jm) (z:=[sv [],.sl 2 []]) (xs:=us) (i:=i) (by omega);rw[kR]at h4;refine⟨zR (by rw[KE (by omega)];omega),ja2 (by omega),h4⟩
  have key:=(upto (P:=λi=>1<=i->jkV (jS t.args) (vi (t.args.length:Nat)) (vi (i:Nat)) (JY s) (sv []) (sv t.name) [] (part jm [sv [],.sl 2 []] us i)=some (tm (.mk t.name us),[])) (n:=t.args.length) ?_ ?_ 1 hpos (Nat.le_refl _));rotate_left
  .intro _;rw[jqL,<-hul,ja1];simp only[jg];rfl
  .intro i hi ih' _;have hlt:(i:Int)<((t.args.length:Nat):Int):=by omega
   have h5:=jy hi (by show t.args.length<=9223372036854775807;omega)
   have e2:=step i hi;obtain⟨h2,h3,h4⟩:=stepR i hi;have ih':=ih' (by omega);rw[jqL];simp only[jg,hlt,jb hi,ji,e2,h2,h3,jc9,h4,h5,ih']
  have e2:=step 0 hpos;obtain⟨h2,h3,h4⟩:=stepR 0 hpos;rw[<-Y2]at h2 h3 h4;simp only[Int.natCast_zero,Nat.zero_add]at h2 h4 key;have ix:=jb (k:=2) (f:=jm) hpos;simp only[Int.natCast_zero]at ix;have h5:ck (0+1)=some (vi ((1:Nat):Int)):=jZ (n:=0+1) (by omega) (by omega);have first:jkU (jS t.args) (vi (t.args.length:Nat)) (vi 0) (JY s) (sv []) (sv t.name) (JM us.length [sv [],.sl 2 []]) []=some (tm (.mk t.name us),[]):=by
   rw[jwm];simp only[jg,hz0,ix,ji,e2,h2,h3,jc9,h4,h5,key]
  rw[hul]at first
  simp only[jg,h0,hm,first]
def K0(t:T):Prop:=qb t=true\/(t.name=[61]/\t.args.length=2/\ ∀u∈t.args,qb u=true)
theorem K0.rx{t:T}(h:K0 t):Rx' t:=h.elim Or.inl λh=>Or.inr ⟨h.1,h.2.2⟩
theorem K0.tz{t:T}(h:K0 t)(hn:nodes t<=100000):Tz t:=by
 rcases h with h|h
 .have:=jev t h;unfold Tz;omega
 .unfold Tz;rw[jU]at hn;rw[ze,h.1,h.2.1];have:=jnl h.2.2;simp only[List.length_cons,List.length_nil];omega
theorem K0.sub{s:ju}(hs:jB s=true){t:T}(h:K0 t):K0 (sub s t):=by
 rcases h with h|h
 .exact Or.inl (jb4 (J0 hs) t h)
 .have hvn:jr t.name=false:=by rw[h.1];decide
  right;rw[Jb hvn];refine⟨h.1,by show(t.args.map _).length=2;rw[List.length_map,h.2.1],λu hu=>?_⟩;obtain⟨a,ha,rfl⟩:=List.mem_map.1 hu;exact jb4 (J0 hs) a (h.2.2 a ha)
theorem K0.sub_tz{s:ju}(hs:jB s=true){t:T}(h:K0 t)(hn:nodes t<=3000):Tz (Go.Proofs.YtkkcepmpbackoaaGreatDoor.sub s t):=by
 have:=jo4 (u:=s) (Z:=30) (by decide) (JQ hs) t;exact(h.sub hs).tz (by omega)
theorem Jd(s:ju)(hs:jB s=true)(t:T)(h:K0 t)(hn:nodes t<=3000):G 82 [sb s,tm t]=outT (if jH (sub s t)then some (sub s t)else none):=by
 have ht:=h.tz (by omega);have hu:=h.sub_tz hs hn;have e1:=jfH s hs t h.rx ht;have e2:=QI (sub s t) hu.wf hu;rw[g82];cases hsm:jH (sub s t)<;>rw[hsm]at e2
 .rw [if_neg Bool.false_ne_true];simp only[jg,e1,e2];rfl
 .rw [if_pos rfl];simp only[jg,e1,e2];rfl
abbrev LtB(p q:Xb×T):Prop:=zz p.1 q.1=true
def zE(o:Option ju):Xe:=match o with|some s=>some (.tup [sb s,vb true],[])|none=>some (.tup [.agg [.sl 3 []],vb false],[])
def keepB(l:ju):ju:=l.filter λp=> !decide (p.2.name=p.1)
def Ky(s u:ju):ju:=keepB (s.map λq=>(q.1,sub u q.2))++u.filter λq=>(look s q.1).isNone
inductive Hgt(s:ju):Nat->yH->Prop
 |nil (r:Nat):Hgt s r []
 |blk (r τ δ:Nat) (b es:yH):9*τ+(8-δ)<r->τ<=s.length+1->δ<=8->b.length<=4->(τ=s.length+1-> ∀p∈b,sub s p.1=p.1/\sub s p.2=p.2/\Ko p.1<=δ/\Ko p.2<=δ)->Hgt s (9*τ+(8-δ)) es->Hgt s r (b++es)
theorem Hgt.mono{s:ju}{r r':Nat}{es:yH}(h:Hgt s r es)(hr:r<=r'):Hgt s r' es:=by
 induction h with
 |nil=>exact Hgt.nil _
 |blk r τ δ b es h1 h2 h3 h4 h5 h6 _=>exact Hgt.blk r' τ δ b es (by omega) h2 h3 h4 h5 h6
theorem Hgt.grow{s s':ju}(hs:s.length<s'.length){r:Nat}{es:yH}(h:Hgt s r es):Hgt s' r es:=by
 induction h with
 |nil r=>exact Hgt.nil _
 |blk r τ δ b es h1 h2 h3 h4 h5 _ ih=>exact Hgt.blk r τ δ b es h1 (by omega) h3 h4 (λh=>by omega) ih
abbrev ec(p:T×T):Xd:=[sv p.1.name,jS p.1.args,sv p.2.name,jS p.2.args]
open Go Go.RowKit Go.ChangeShapes Go.Deep Go.Proofs.YtkkcepmpbackoaaGreatDoor.Abs
section
variable{P:Program}{t:Nat}{H:Type}{enc:TypeId×Value->H}{w:World}{base:Nat}{spare:Nat->Bool}{held:Bool}{fuel:Nat}{cs:Xh}{x:DataW H×List MemPlace}
end
abbrev clc(c:kg):Xd:=[.sl 3 (c.map jD)]
structure Stp where
 rule:Int
 par:Xi
 whr:Xi
 cls:kg
abbrev stc(s:Stp):Xd:=[vi s.rule,ints s.par,ints s.whr,.sl 3 (s.cls.map jD)]
abbrev stm(s:Stp):A:= .agg [vi s.rule,ints s.par,ints s.whr,.sl 3 (s.cls.map jD)]
structure Prf where
 ax:List kg
 st:List Stp
abbrev cls(l:List kg):A:= .sl 1 (l.map clc)
abbrev jun(l:List Stp):A:= .sl 4 (l.map stc)
abbrev prc(p:Prf):Xd:=[cls p.ax,jun p.st]
abbrev prm(p:Prf):A:= .agg [cls p.ax,jun p.st]
structure Sch where
 prf:Prf
 act:Xi
 pas:Xi
 lost:Bool
abbrev scc(s:Sch):Xd:=[cls s.prf.ax,jun s.prf.st,ints s.act,ints s.pas,vb s.lost]
abbrev scm(s:Sch):A:= .agg [cls s.prf.ax,jun s.prf.st,ints s.act,ints s.pas,vb s.lost]
def iwf(l:Xi):Prop:=(∀x∈l,I64 x)/\l.length<=9223372036854775807
def cwf(c:kg):Prop:=(∀l∈c,KZ l.2)/\c.length<=9223372036854775807
def swf(s:Stp):Prop:=I64 s.rule/\iwf s.par/\iwf s.whr/\cwf s.cls
def pwf(p:Prf):Prop:=((∀c∈p.ax,cwf c)/\p.ax.length<=9223372036854775807)/\((∀s∈p.st,swf s)/\p.st.length<=9223372036854775807)
def jBe(s:Sch):Prop:=pwf s.prf/\iwf s.act/\iwf s.pas
theorem jwH:Rdr Tryz.prog 73 jD (λl:Lt=>KZ l.2):=λ_ _ _ _ _ _ fuel cs x h=>by
 obtain⟨a,b,h1,h2,h3,h4⟩:=jl3 (k0:=1) (k1:=2) Tryz.underlying73 rfl rfl (by kernel_rfl) (by kernel_rfl) (by kernel_rfl)
  (λ_ _ _ _ h=>jt3 _ _ _ _ _ _ _ _ _ h) (λ_ _ _ _ h=>jt5 _ _ _ _ _ _ _ _ _ h) h
 rw[kR]at h3;exact⟨(a,b),h2,h3,h4⟩
theorem jt4:Rdr Tryz.prog 22 (λc:kg=>[A.sl 3 (c.map jD)]) cwf:=
 Rdr.slice Tryz.underlying22 (by kernel_rfl) (by decide) (λ_=>rfl) jwH
theorem joK:Rdr Tryz.prog 24 clc cwf:=λ_ _ _ _ _ _ fuel cs x h=>by
 obtain⟨a,h1,h2,h3⟩:=jl2 (k0:=1) Tryz.underlying24 rfl (by kernel_rfl) (by kernel_rfl)
  (λ_ _ _ _ h=>jt4 _ _ _ _ _ _ _ _ _ h) h
 exact⟨a,h1,h2,h3⟩
theorem jbU(l:Lt):jbr 3 (.elt (jD l) 0)=some (ltm l):=rfl
def lsz:kg->Nat
 | []=>0
 |l::c=>tsz l.2+lsz c
def csz(c:kg):Nat:=c.length+lsz c
def js1:List kg->Nat
 | []=>0
 |c::l=>csz c+js1 l
def ssz(s:Stp):Nat:=s.par.length+s.whr.length+csz s.cls
def juo:List Stp->Nat
 | []=>0
 |s::l=>ssz s+juo l
def psz(p:Prf):Nat:=(p.ax.length+js1 p.ax)+(p.st.length+juo p.st)
def jBd(s:Sch):Nat:=psz s.prf+s.act.length+s.pas.length
theorem jnh:∀{c:kg}{l:Lt},l∈c->tsz l.2<=lsz c
 |x::c,l,h=>by
  simp only[lsz];rcases List.mem_cons.1 h with rfl|h
  .omega
  .have:=jnh h;omega
theorem jiM:∀{l:List kg}{c:kg},c∈l->csz c<=js1 l
 |x::c,l,h=>by
  simp only[js1];rcases List.mem_cons.1 h with rfl|h
  .omega
  .have:=jiM h;omega
theorem jbk:∀{l:List Stp}{s:Stp},s∈l->ssz s<=juo l
 |x::c,l,h=>by
  simp only[juo];rcases List.mem_cons.1 h with rfl|h
  .omega
  .have:=jbk h;omega
theorem jwS(l:Lt)(hw:KZ l.2)(left:Int)(h0:0<=left)(h1:left<=1048576):G 44 [ltm l,vi left]=some (vi (kL left ((tsz l.2:Nat):Int)),[]):=by
 have e1:=jur l.2 hw left h0 h1;rw[g44];by_cases h:kL left ((tsz l.2:Nat):Int)<0
 .have:kL left ((tsz l.2:Nat):Int) = -1:=by have:=jeh left (tsz l.2:Nat);omega
  simp only[jg,e1,this]
 .simp only[jg,e1,h]
theorem jwc(l:Lt)(hw:KZ l.2):G 59 [ltm l,ltm l]=some (vb true,[]):=by
 have e1:=jtp l.2 hw;rw[g59];cases l.1<;>simp only[jg,e1]
theorem juq(l:List Lt)(hl:l.length<=9223372036854775807)(ih:∀t∈l,∀left:Int,0<=left->left<=1048576->G 44 [ltm t,vi left]=some (vi (kL left ((tsz t.2:Nat):Int)),[]))
  (left:Int) (h0:0<=left) (h1:left<=1048576):G 24 [.sl 3 (l.map jD),vi left]=some (vi (kL left ((l.length+lsz l:Nat):Int)),[]):=by
 have loop:∀(a:Int),0<=a->a<=1048576->jir (.sl 3 (l.map jD)) (vi a) (vi 0)=some (vi (kL a (lsz l)),[]):=by
  have key:=(upto (P:=λi=>∀a:Int,0<=a->a<=1048576->jir (.sl 3 (l.map jD)) (vi a) (vi i)=some (vi (kL a (lsz (l.drop i))),[])) (n:=l.length) ?_ ?_ 0 (Nat.zero_le _))
  .simp only[List.drop_zero,Int.natCast_zero]at key;exact key
  .intro b hb hb';rw[juV,List.drop_length];simp only[jg,lsz];rw[jei hb]
  .intro i hi ih' b hb hb';have e1:=ih l[i] (List.getElem_mem _) b hb hb';rw[juV,js hi];simp only[jg,hi,Int.ofNat_lt,jb hi,jbU,e1,jy hi hl,lsz];by_cases hc:b<(tsz l[i].2:Nat)
   .rw [qJ hc,qJ (by omega)];rfl
   .have hp:=jbK (Int.not_lt.1 hc);have ih':=ih' (kL b (tsz l[i].2:Nat)) (by omega) (by omega);have hn:¬kL b ((tsz l[i].2:Nat):Int)<0:=by omega
    simp only[jg,hn,ih'];rw[jga (Int.not_lt.1 hc),<-Int.natCast_add]
 have hk:=jk6 h0 (Int.le_trans h1 (by decide)) hl;rw[g24];simp only[jg,hk];by_cases hc:left-l.length<0
 .simp only[jg,hc];rw[qJ (by omega)]
 .have hl:=loop (left-l.length) (by omega) (by omega);simp only[jg,hc,hl];rw[YX,<-Int.natCast_add]
theorem jto(l:List Lt)(hl:l.length<=9223372036854775807)(ih:∀t∈l,G 59 [ltm t,ltm t]=some (vb true,[])):G 30 [.sl 3 (l.map jD),.sl 3 (l.map jD)]=some (vb true,[]):=by
 have key:=(upto (P:=λi=>jmn (.sl 3 (l.map jD)) (.sl 3 (l.map jD)) (vi i)=some (vb true,[])) (n:=l.length) ?_ ?_ 0 (Nat.zero_le _))
 .rw [g30];simp only[Int.natCast_zero]at key;simp only[jg,key]
 .rw [juW];simp only[jg]
 .intro i hi ih';have h5:=jy hi hl;have e1:=ih l[i] (List.getElem_mem _);rw[juW];simp only[jg,hi,Int.ofNat_lt,jb hi,jbU,e1,h5,ih']
theorem jwR(c:kg)(hw:cwf c)(left:Int)(h0:0<=left)(h1:left<=1048576):G 6 [cm c,vi left]=some (vi (kL left ((csz c:Nat):Int)),[]):=by
 have e1:G 24 [.sl 3 (c.map jD),vi left]=some (vi (kL left ((csz c:Nat):Int)),[]):=juq c hw.2 (λl hl=>jwS l (hw.1 l hl)) left h0 h1;rw[g6];by_cases h:kL left ((csz c:Nat):Int)<0
 .have:kL left ((csz c:Nat):Int) = -1:=by have:=jeh left (csz c:Nat);omega
  simp only[jg,e1,this]
 .simp only[jg,e1,h]
theorem jqf(c:kg)(hw:cwf c):G 10 [cm c,cm c]=some (vb true,[]):=by
 have e1:=jto c hw.2 λl hl=>jwc l (hw.1 l hl);rw[g10];simp only[jg,e1]
def LN(l:kg):Prop:=l.length<=40/\ ∀x∈l,Bx x.2/\nodes x.2<=100
theorem LN.app{s:ju}(hs:jB s=true){l:kg}(h:LN l):∀x∈l.map (λx=>(x.1,Go.Proofs.YtkkcepmpbackoaaGreatDoor.sub s x.2)),Bx x.2/\Tz x.2:=λx hx=>by
 obtain⟨y,hy,rfl⟩:=List.mem_map.1 hx;have hb:=(h.2 y hy).1;exact⟨hb.sub hs,K0.sub_tz hs hb.ax (by have:=(h.2 y hy).2;omega)⟩
theorem jfG{s:ju}{l c:kg}(h:KM s l=some c):CN c/\Asc cmpL c:=⟨(qp (jan h).1).1,(jan h).2⟩
theorem jpM(s:ju)(hs:jB s=true)(l:kg)(h:LN l):G 93 [sb s,.sl 3 (l.map jD)]=jbO (KM s l):=by
 have hl:=h.1;have happ:=h.app hs;have e1:=jbJ (l.map λx=>(x.1,sub s x.2)) (by rw[List.length_map];omega) λx hx=>(happ x hx).2;have e2:=YW (zi cmpL (l.map λx=>(x.1,sub s x.2))) (by have:=jbL cmpL (l.map λx=>(x.1,sub s x.2));rw[List.length_map]at this;omega) λx hx=>(happ x (jbM.1 hx)).2;generalize hd:l.map (λx=>(x.1,sub s x.2))=d at *;have hdl:d.length=l.length:=by rw[<-hd,List.length_map]
 have ld:∀l:Lt,kU (.elt (jD l) 0)=some (vb l.1):=λl=>rfl;have ad:∀(l:Lt)(n:Nat),Jk (.elt (jD l) 0) n=some (.elt (jD l) n):=λl n=>by rw[yN,Nat.zero_add]
 have ld2:∀l:Lt,jbr 2 (.elt (jD l) 1)=some (tm l.2):=λl=>rfl;have key:=upto (P:=λi=>jmC (.sl 3 (l.map jD)) (vi (i:Nat)) (JY s) ((d.take i).map jD) []=jbO (if((l.drop i).all λx=>jH (sub s x.2)) && zN (zi cmpL d)then some (zi cmpL d)else none)) (n:=l.length) ?_ ?_ 0 (Nat.zero_le _)
 .simp only[Int.natCast_zero,List.take_zero,List.map_nil,List.drop_zero]at key;unfold KM;rw[hd,<-key,g93];simp only[jg]
 .have hlt:¬((l.length:Nat):Int)<((l.length:Nat):Int):=by omega
  rw[jvf,List.take_of_length_le (by omega),List.drop_length,List.all_nil,Bool.true_and];cases hv:zN (zi cmpL d)<;>rw[hv]at e2
  .rw [if_neg Bool.false_ne_true];simp only[jg,e1,e2];rfl
  .rw [if_pos rfl];simp only[jg,e1,e2];rfl
 .intro i hi ih;have hi2:i<d.length:=by omega
  have hlt:(i:Int)<((l.length:Nat):Int):=by omega
  have h5:=jy hi (by show l.length<=9223372036854775807;omega)
  have hb:=h.2 _ (List.getElem_mem hi);have tz:=hb.1.tz (by omega);have tz2:=K0.sub_tz hs hb.1.ax (by omega);have e3:=QN s (zB hs).sz l[i].2 tz;have e4:=jf5 (sub s l[i].2) tz2.wf tz2;rw[(hb.1.sub hs).atom]at e4;have hdi:d[i]=(l[i].1,sub s l[i].2):=by simp only[<-hd,List.getElem_map]
  have ta:=Kl (f:=jD) hi2;have tl:=take_len (f:=jD) (Nat.le_of_lt hi2);have hf:jO (i+1) 48=true:=jaX (by omega);rw[hdi]at ta;rw[jvf,js hi,List.all_cons];cases hsm:jH (sub s l[i].2)<;>rw[hsm]at e4
  .rw [Bool.false_and,Bool.false_and,if_neg Bool.false_ne_true];simp only[jg,hlt,jb hi,ad,ld2,e3,e4];rfl
  .rw [Bool.true_and];generalize (d.take i).map jD=R at *;generalize sub s l[i].2=u at *;rw[<-ih];simp only[jg,hlt,jb hi,ad,ld,ld2,e3,e4,tl,hf,ta,h5]
theorem jhI(s:ju)(hs:jB s=true)(l:kg)(h:LN l):G 50 [sb s,.sl 3 (l.map jD)]=jbO (jfx s l):=by
 have e1:=jpM s hs l h;unfold jfx;rw[g50];cases ha:KM s l with
 |none=>
  rw[ha]at e1;have e1:G 93 [sb s,.sl 3 (l.map jD)]=some (.tup [cz,vb false],[]):=e1;simp only[jg,e1];rfl
 |some c=>
  rw[ha]at e1;have e1:G 93 [sb s,.sl 3 (l.map jD)]=some (.tup [cm c,vb true],[]):=e1;obtain⟨hc,hasc⟩:=jfG ha;have e2:=jjs c hc hasc;have e3:=KS (normC c) hc.normC;rw[Option.bind_some];unfold zD;cases hv:zN (normC c)<;>rw[hv]at e2
  .rw [Bool.false_and,if_neg Bool.false_ne_true];simp only[jg,e1,e2];rfl
  .rw [Bool.true_and];cases hn:qY (normC c)<;>rw[hn]at e3
   .rw [if_neg Bool.false_ne_true];simp only[jg,e1,e2,e3];rfl
   .rw [if_pos rfl];simp only[jg,e1,e2,e3];rfl
theorem jon(r:Option kg):∃(c:kg)(b:Bool),jbO r=some (.tup [cm c,vb b],[]):=by
 cases r with
 |none=>exact⟨[],false,rfl⟩
 |some c=>exact⟨c,true,rfl⟩
def jBk(f g:FuncId)(args:Xd):Prop:=∃r:Option kg,G f args=jbO r/\G g args=jbO r/\ ∀x,r=some x->zD x=true
def jqp(c:kg)(i:Int):Bool:=ZW 0 (((c.length:Nat):Int)-1) i
theorem LN.erase{c:kg}(h:CN c)(i:Nat):LN (c.eraseIdx i):=⟨by have:=List.length_eraseIdx_le c i;have:=h.1;omega,λx hx=>by
 have:=h.2 x (List.mem_of_mem_eraseIdx hx);exact⟨this.1,by omega⟩⟩
theorem LN.append{a b:kg}(ha:CN a)(hb:CN b)(i k:Nat):LN (a.eraseIdx i++b.eraseIdx k):=⟨by
 have:=List.length_eraseIdx_le a i;have:=List.length_eraseIdx_le b k;have:=ha.1;have:=hb.1;rw[List.length_append];omega,λx hx=>by
 rcases List.mem_append.1 hx with hx|hx
 .exact (LN.erase ha i).2 x hx
 .exact (LN.erase hb k).2 x hx⟩
theorem ldT(l:Lt):jbr 2 (.elt (jD l) 1)=some (tm l.2):=rfl
end Go.Proofs.YtkkcepmpbackoaaGreatDoor
