/- Pf -/
import Derived.Test.YtdbgbieenhcldaaGreatDoorPe
import Derived.Test.YtdbgbieenhcldaaGreatDoorPb
import Derived.Test.YtdbgbieenhcldaaGreatDoorPd
namespace Go.Proofs.YtdbgbieenhcldaaGreatDoor
open Go Go.RowKit Go.Proofs.YtdbgbieenhcldaaGreatDoor.Abs
set_option linter.unusedSimpArgs false
set_option linter.unusedVariables false
set_option maxHeartbeats 1000000
theorem jhf (l:List Lt) (hl:l.length<=1000) (hz:∀x∈l,Tz x.2) (i:Nat) (hi:i < l.length) (u:List Lt) (hu:u.length<=1000) (hzu:∀x∈u,Tz x.2):∀k,k<=u.length->(∀j,(h:j < k)-> ∀h':j < u.length,cmpL u[j] l[i] < 0)->
  jcz (vi (i:Nat)) (vi (k:Nat)) (l.map jC) (u.map jC) []=YF (vi ((i+1:Nat):Int)) (l.map jC) ((Jm cmpL u l[i]).map jC) []:=by
 have xi:Ke l.length (vi (i:Nat))=some i:=zi hi;have ri:=jaI hi;have rp:yE (l.map jC) i 0=some (vb l[i].1):=by unfold yE;simp [hi,jC]
 have rn:z7 (l.map jC) i 1 2=some (tm l[i].2):=by unfold z7;simp [hi,jC]
 have e2:=QI l[i].2 (hz _ (List.getElem_mem _));have hck:ck ((i:Int)+1)=some (vi ((i+1:Nat):Int)):=jG (by omega) (by omega);refine upto ?_ ?_
 ·intro hall;obtain ⟨t1,t2⟩:=jnd (p:=λa=>decide (cmpL a l[i] < 0)) (Nat.le_refl u.length) (λj h h'=>decide_eq_true (hall j h h')) (Or.inr rfl);obtain ⟨k1,k2,k3,k4,k5,k6,k7,k8,k9⟩:=jcE u (by omega) u.length (Nat.le_refl _) l[i];have hins:Jm cmpL u l[i]=u.take u.length++l[i]::u.drop u.length:=by
   unfold Jm;rw [t1,t2,List.drop_length,if_neg (by simp)]
  have nlt:¬((u.length:Nat):Int) < ((u.length:Nat):Int):=by omega
  rw [hins,jmJ];simp only [jd,nlt,xi,ri,rp,rn,e2];generalize hB:j7 _ _ _=B;have hB':B=some (ltm l[i]):=by rw [<-hB];kernel_rfl
  rw [hB'];simp only [jd,k1,k2,k4,k5];rw [if_pos k3,if_pos k7,k6,if_pos k8,hck,Option.bind_some,k9]
 ·intro k hk ih hall;have hlt:((k:Nat):Int) < ((u.length:Nat):Int):=by omega
  have x1:Ke u.length (vi (k:Nat))=some k:=zi hk;have r1:=jaI hk;have e1:=KH u[k] l[i] (hzu _ (List.getElem_mem _)) (hz _ (List.getElem_mem _));rw [jmJ];by_cases hc:cmpL u[k] l[i] < 0
  ·have ih:=ih λj h h'=>by
    by_cases hj:j=k
    ·subst hj;exact hc
    ·exact hall j (by omega) h'
   have hk1:ck ((k:Int)+1)=some (vi ((k+1:Nat):Int)):=jG (by omega) (by omega);generalize cmpL u[k] l[i]=d at *;simp only [jd,hlt,x1,r1,xi,ri,e1,hc,hk1];exact ih
  ·obtain ⟨t1,t2⟩:=jnd (p:=λa=>decide (cmpL a l[i] < 0)) (Nat.le_of_lt hk) (λj h h'=>decide_eq_true (hall j h h')) (Or.inl ⟨hk,decide_eq_false hc⟩);have hins:Jm cmpL u l[i]=if cmpL u[k] l[i]=0 then u else u.take k++l[i]::u.drop k:=by
    unfold Jm;rw [t1,t2,jo hk];by_cases h0:cmpL u[k] l[i]=0
    ·rw [if_pos h0];exact if_pos (decide_eq_true h0)
    ·rw [if_neg h0];exact if_neg (λe=>h0 (of_decide_eq_true e))
   rw [hins];by_cases h0:cmpL u[k] l[i]=0
   ·rw [if_pos h0];rw [h0] at e1;simp only [jd,hlt,x1,r1,xi,ri,e1,hck]
   ·obtain ⟨k1,k2,k3,k4,k5,k6,k7,k8,k9⟩:=jcE u (by omega) k (Nat.le_of_lt hk) l[i];rw [if_neg h0];generalize cmpL u[k] l[i]=d at *;simp only [jd,hlt,x1,r1,xi,ri,e1,hc,h0,rp,rn,e2];generalize hB:j7 _ _ _=B;have hB':B=some (ltm l[i]):=by rw [<-hB];kernel_rfl
    rw [hB'];simp only [jd,k1,k2,k4,k5];rw [if_pos k3,if_pos k7,k6,if_pos k8,hck,Option.bind_some,k9]
theorem jk7 (l:List Lt) (hl:l.length<=900) (hz:∀x∈l,Tz x.2):jo0 (l.map jC)=some (.top,[.sl 3 ((zo cmpL l).map jC)]):=by
 have key:=upto (P:=λi=>∀u:List Lt,Asc cmpL u->u.length<=i->(∀x∈u,Tz x.2)->YF (vi (i:Nat)) (l.map jC) (u.map jC) []=some (.top,[.sl 3 (((l.drop i).foldl (Jm cmpL) u).map jC)])) (n:=l.length) ?_ ?_ 0 (Nat.zero_le _) [] List.Pairwise.nil (Nat.le_refl _) (λx h=>by cases h)
 ·rw [List.drop_zero] at key;simp only [Int.natCast_zero,List.map_nil] at key;rw [jxl,key];rfl
 ·intro u _ _ _;have nlt:¬((l.length:Nat):Int) < ((l.length:Nat):Int):=by omega
  rw [jmI,List.drop_length];simp only [jd,nlt];rfl
 ·intro i hi ih u ha hu hzu;have hlt:(i:Int) < ((l.length:Nat):Int):=by omega
  have:=jhf l (by omega) hz i hi u (by omega) hzu 0 (Nat.zero_le _) (λj h=>absurd h (Nat.not_lt_zero _));simp only [Int.natCast_zero] at this;have h2:=ih (Jm cmpL u l[i]) (jav yi ha l[i]).1 (by have:=jdx cmpL u l[i];omega) λx hx=>by
   rcases (jiE ha l[i]).1 hx with h|h
   ·exact hzu x h
   ·rw [h];exact hz _ (List.getElem_mem _)
  rw [jmI,jo hi,List.foldl_cons];simp only [jd,hlt,this,h2]
def Cq (c:jO):Prop:=c.length<=12/\ ∀l∈c,tsz l.2<=1000
theorem Cq.cz {c:jO} (h:Cq c):Cz c:=⟨by have:=h.1;omega,λl hl=>by have:=h.2 l hl;unfold Tz;omega⟩
theorem jv0 {c:jO} (h:CN c):∀l∈c,tsz l.2<=300:=λl hl=>by have:=(h.2 l hl).1.tsz;have:=(h.2 l hl).2;omega
theorem CN.cq {c:jO} (h:CN c):Cq c:=⟨by have:=h.1;omega,λl hl=>by have:=jv0 h l hl;omega⟩
def RwD (code:List Int) (q:Nat) (a:Int) (o:Option Out):Prop:=∃a' s' c,a<=a'/\a'<=a+(q:Nat)/\(List.length c<=5/\Asc cmpL c/\ ∀l∈c,LV l)/\o=some (.top,[kG code,vi a',vu s',.sl 3 (List.map jC c)])
def CqD (code:List Int) (q:Nat) (a:Int) (o:Option Out):Prop:=∃a' s' c,a<=a'/\a'<=a+(q:Nat)/\Cq c/\o=some (.top,[kG code,vi a',vu s',cm c])
def CnD (code:List Int) (q:Nat) (a:Int) (o:Option Out):Prop:=∃a' s' c,a<=a'/\a'<=a+(q:Nat)/\CN c/\o=some (.top,[kG code,vi a',vu s',cm c])
theorem jx0 {c:jO} (h1:c.length<=5) (h2:∀l∈c,LV l):CN c:=⟨by omega,λl hl=>⟨(h2 l hl).1,by have:=(h2 l hl).2;omega⟩⟩
theorem ZY (a x0 x1 x2:A) (xs:List (List A)) (l:List A):hR 3 (a,x0::x1::x2:: .sl 3 xs::l) 3=some xs:=by simp [hR]
theorem jfv {c:jO} (h:CN c) (ha:Asc cmpL c):∃b:Bool,G 32 [cm c]=some (.tup [cm (normC c),vb b],[])/\CN (normC c):=⟨_,jbR c h ha,h.normC⟩
section
variable {code:List Int} (hb:By code)
include hb
theorem jdj (a s:Int) (h0:0<=a) (h1:a<=999950000):RwD code 500 a (jgf (kG code) (vi a) (vu s)):=by
 obtain ⟨a1,s1,ls,q1,q2,hl,hv,e1⟩:=jbU hb 4 (by decide) a s h0 (by omega);have e1:je5 (vi 4) (kG code) (vi a) (vu s)=_:=e1;have e2:=jk7 ls (by omega) (λx hx=>(hv x hx).tz);have hm:=K0 cmpL ls;refine ⟨a1,s1,zo cmpL ls,q1,q2,⟨by omega,(KZ yi ls).1,λl h=>hv l (JL.1 h)⟩,?_⟩;rw [jvF];simp only [jd,e1,ZY,e2,List.getElem?_cons_zero,List.getElem?_cons_succ]
theorem jd9 (a s:Int) (h0:0<=a) (h1:a<=999950000):CnD code 500 a (jo3 (kG code) (vi a) (vu s)):=by
 obtain ⟨a1,s1,c,q1,q2,⟨hl,ha,hv⟩,e1⟩:=jdj hb a s h0 h1;obtain ⟨b,e2,hcn⟩:=jfv (jx0 hl hv) ha;refine ⟨a1,s1,normC c,q1,q2,hcn,?_⟩;rw [jxq];simp only [jd,e1,ZY,e2,List.getElem?_cons_zero,List.getElem?_cons_succ]
theorem jdd (a s:Int) (h0:0<=a) (h1:a<=999950000):∃a' s' l,a<=a'/\a'<=a+1300/\tsz (Prod.snd l)<=1000/\jgg (kG code) (vi a) (vu s)=some (.top,[kG code,vi a',vu s',ltm l]):=by
 obtain ⟨a1,s1,l,q1,q2,hv,e1⟩:=jdU hb a s h0 (by omega);obtain ⟨a2,s2,x,r1,r2,x0,x1,e2⟩:=zO hb 16 (by decide) (by decide) a1 s1 (by omega) (by omega);have hz:=hv.tsz;rw [jvG];by_cases y0:x=0
 ·subst y0;obtain ⟨a3,s3,t3,u1,u2,u3,e3⟩:=jkx hb a2 s2 (by omega) (by omega);refine ⟨a3,s3,(l.1,t3),by omega,by omega,u3,?_⟩;simp only [jd,e1,e2,e3,List.getElem?_cons_zero,List.getElem?_cons_succ,jth]
 by_cases y1:x=1
 ·subst y1;obtain ⟨a3,s3,t3,u1,u2,u3,e3⟩:=YZ hb a2 s2 (by omega) (by omega);have hargs:l.2.args.length<=1000:=by have:=kO l.2;omega
  have hf:jB (l.2.args.length+1) 40=true:=jlf (by omega);have hsz:∀us:List T,yf (us++[t3])=yf us+tsz t3:=by
   intro us;induction us with
   | nil=>simp [yf]
   | cons u us ih=>simp only [List.cons_append,yf];omega
  have hq:=kO l.2;refine ⟨a3,s3,(l.1,.mk l.2.name (l.2.args++[t3])),by omega,by omega,by show tsz (.mk _ _)<=1000;rw [qt,hsz,List.length_append,List.length_singleton];omega,?_⟩;simp only [jd,e1,e2,e3,hf,List.length_map,List.getElem?_cons_zero,List.getElem?_cons_succ,jth,yx];show _=some (A.top,[kG code,vi a3,vu s3,A.agg [vb l.1,sv l.2.name,.sl 2 ((l.2.args++[t3]).map jz)]]);rw [List.map_append,List.map_cons,kK t3];rfl
 ·refine ⟨a2,s2,l,by omega,by omega,by omega,?_⟩;simp only [jd,e1,e2,y0,y1,List.getElem?_cons_zero,List.getElem?_cons_succ,jth]
theorem jk9:∀(k i:Nat),i+k=9-> ∀(c:jO),c.length=i->(∀l∈c,tsz l.2<=1000)-> ∀a s:Int,0<=a->a<=999980000 - 10 * (k:Nat)->CqD code (2 * k+2) a (YG (vi (i:Nat)) (kG code) (vi a) (vu s) (c.map jC) []):=by
 intro k;induction k with
 | zero=>
  intro i hi c hc hz a s h0 h1;obtain ⟨a1,s1,x,q1,q2,x0,x1,e1⟩:=zO hb 2 (by decide) (by decide) a s h0 (by omega);have c1:ck (8+x)=some (vi (8+x)):=jG (by omega) (by omega);have nlt:¬((i:Nat):Int) < 8+x:=by omega
  refine ⟨a1,s1,c,q1,by omega,⟨by omega,hz⟩,?_⟩;rw [jhe];simp only [jd,e1,c1,nlt,List.getElem?_cons_zero,List.getElem?_cons_succ]
 | succ k ih=>
  intro i hi c hc hz a s h0 h1;obtain ⟨a1,s1,x,q1,q2,x0,x1,e1⟩:=zO hb 2 (by decide) (by decide) a s h0 (by omega);have c1:ck (8+x)=some (vi (8+x)):=jG (by omega) (by omega);by_cases hlt:((i:Nat):Int) < 8+x
  ·have n1:=jdM i (by omega);have hd:=(yw 6 i (by omega)).2;have a2:jp .add false (sv [112]) (sv (Lib.decDigits i))=some (sv ([112]++Lib.decDigits i)):=by rw [K2,if_pos (by simp only [List.length_cons,List.length_nil];omega)]
   obtain ⟨a3,s3,w,hw,r1,r2,e3⟩:=jcG hb [[88],[89]] (by decide) (by decide) (by decide) a1 s1 (by omega) (by omega);have e3:yV (kG code) (vi a1) (vu s1) [[sv [88]],[sv [89]]]=some (.top,[kG code,vi a3,vu s3,sv w]):=e3;have f1:jB (c.length+1) 48=true:=J0 (by omega);have c5:ck ((i:Int)+1)=some (vi ((i+1:Nat):Int)):=jG (by omega) (by omega);obtain ⟨a4,s4,c',v1,v2,v3,e4⟩:=ih (i+1) (by omega) (c++[(true,.mk ([112]++Lib.decDigits i) [.mk w []])]) (by rw [List.length_append,List.length_singleton];omega) (λl h=>by
    rcases List.mem_append.1 h with h|h
    ·exact hz l h
    ·rw [List.mem_singleton.1 h];show tsz (.mk _ _)<=1000;rw [qt];simp only [List.length_append,List.length_cons,List.length_nil,yf,qt];omega) a3 s3 (by omega) (by omega)
   refine ⟨a4,s4,c',by omega,by omega,v3,?_⟩;rw [<-Zf] at e4;have e4:YG (vi ((i+1:Nat):Int)) (kG code) (vi a3) (vu s3) (jL (c.map jC) [[vb true,sv ([112]++Lib.decDigits i),.sl 2 [[sv w,.sl 2 []]]]]) []=_:=e4;rw [jhe];generalize [112]++Lib.decDigits i=nm at *;simp only [jd,e1,c1,hlt,n1,a2,e3,f1,c5,e4,List.getElem?_cons_zero,List.getElem?_cons_succ]
  ·refine ⟨a1,s1,c,q1,by omega,⟨by omega,hz⟩,?_⟩;rw [jhe];simp only [jd,e1,c1,hlt,List.getElem?_cons_zero,List.getElem?_cons_succ]
theorem jeS (a s:Int) (h0:0<=a) (h1:a<=999940000):CqD code 2000 a (jo1 (kG code) (vi a) (vu s)):=by
 obtain ⟨a1,s1,c,q1,q2,⟨hl,ha,hv⟩,e1⟩:=jdj hb a s h0 (by omega);obtain ⟨a2,s2,x,r1,r2,x0,x1,e2⟩:=zO hb 20 (by decide) (by decide) a1 s1 (by omega) (by omega);have hz:∀l∈c,tsz l.2<=1000:=λl h=>by have:=(hv l h).tsz;omega
 have hq:Cq c:=⟨by omega,hz⟩;have f1:jB (c.length+1) 48=true:=J0 (by omega);rw [jxo];by_cases y0:x=0
 ·subst y0;obtain ⟨a3,s3,l,u1,u2,u3,e3⟩:=jdd hb a2 s2 (by omega) (by omega);refine ⟨a3,s3,c++[l],by omega,by omega,⟨by rw [List.length_append,List.length_singleton];omega,λy h=>by
   rcases List.mem_append.1 h with h|h
   ·exact hz y h
   ·rw [List.mem_singleton.1 h];exact u3⟩,?_⟩
  have e3:jgg (kG code) (vi a2) (vu s2)=some (.top,[kG code,vi a3,vu s3,.agg [vb l.1,sv l.2.name,jY l.2.args]]):=e3;show _=some (A.top,[kG code,vi a3,vu s3,.agg [.sl 3 ((c++[l]).map jC)]]);rw [<-Zf];simp only [jd,e1,e2,e3,ZY,f1,List.getElem?_cons_zero,List.getElem?_cons_succ]
 by_cases y1:x=1
 ·subst y1;by_cases hg:(1:Int) < ((c.length:Nat):Int)
  ·obtain ⟨l0,l1,r,rfl⟩:∃l0 l1 r,c=l0::l1::r:=by
    match c,hg with
    | l0::l1::r,_=>exact ⟨l0,l1,r,rfl⟩
    | [],h=>simp at h
    | [x],h=>simp at h
   refine ⟨a2,s2,l1::l0::r,by omega,by omega,⟨by simp only [List.length_cons] at hl ⊢;omega,λy h=>hz y (by
    simp only [List.mem_cons] at h ⊢;rcases h with h|h|h
    ·exact Or.inr (Or.inl h)
    ·exact Or.inl h
    ·exact Or.inr (Or.inr h))⟩,?_⟩
   have i0:Ke ((l0::l1::r).map jC).length (vi 0)=some 0:=joc (f:=jC) (xs:=l0::l1::r) (i:=0) (by simp);have i1:Ke ((l0::l1::r).map jC).length (vi 1)=some 1:=joc (f:=jC) (xs:=l0::l1::r) (i:=1) (by simp);have j1:Ke ((l1::l1::r).map jC).length (vi 1)=some 1:=joc (f:=jC) (xs:=l1::l1::r) (i:=1) (by simp);have r0:z7 ((l0::l1::r).map jC) 0 0 3=some (.agg [vb l0.1,sv l0.2.name,jY l0.2.args]):=rfl;have r1:z7 ((l0::l1::r).map jC) 1 0 3=some (.agg [vb l1.1,sv l1.2.name,jY l1.2.args]):=rfl;have g0:je2 ((l0::l1::r).map jC) 0=some (jC l0):=rfl;have s0:J2 ((l0::l1::r).map jC) 0 (Kh (jC l0) 0 [vb l1.1,sv l1.2.name,jY l1.2.args])=(l1::l1::r).map jC:=rfl;have g1:je2 ((l1::l1::r).map jC) 1=some (jC l1):=rfl;have s1':J2 ((l1::l1::r).map jC) 1 (Kh (jC l1) 0 [vb l0.1,sv l0.2.name,jY l0.2.args])=(l1::l0::r).map jC:=rfl;have hg:(1:Int) < ((((l0::l1::r).map jC).length:Nat):Int):=by rw [List.length_map];exact hg
   have n0:jp .eql false (vi 1) (vi 0)=some (vb false):=rfl;show _=some (A.top,[kG code,vi a2,vu s2,.agg [.sl 3 ((l1::l0::r).map jC)]]);rw [<-s1'];generalize (l0::l1::r).map jC=X at *;generalize (l1::l1::r).map jC=Y at *;simp only [jd,e1,e2,y0,ZY,hg,i0,r0,i1,r1,g0,s0,j1,g1,List.getElem?_cons_zero,List.getElem?_cons_succ]
  ·refine ⟨a2,s2,c,by omega,by omega,hq,?_⟩;simp only [jd,e1,e2,y0,hg,ZY,List.getElem?_cons_zero,List.getElem?_cons_succ]
 by_cases y2:x=2
 ·subst y2;obtain ⟨a3,s3,c',u1,u2,u3,e3⟩:=jk9 hb 9 0 (by decide) [] rfl (λl h=>by cases h) a2 s2 (by omega) (by omega);have e3:YG (vi 0) (kG code) (vi a2) (vu s2) [] []=_:=e3;refine ⟨a3,s3,c',by omega,by omega,u3,?_⟩;simp only [jd,e1,e2,y0,y1,e3,ZY,List.getElem?_cons_zero,List.getElem?_cons_succ]
 by_cases y3:x=3
 ·subst y3;by_cases hg:(0:Int) < ((c.length:Nat):Int)
  ·have hi:c.length - 1 < c.length:=by omega
   have c1:ck (((c.length:Nat):Int) - 1)=some (vi ((c.length - 1:Nat):Int)):=by rw [show ((c.length:Nat):Int) - 1=((c.length - 1:Nat):Int) by omega];exact jG (by omega) (by omega)
   have i1:Ke c.length (vi ((c.length - 1:Nat):Int))=some (c.length - 1):=zi hi;have r1:=jaI hi;have hzl:=hz _ (List.getElem_mem hi);generalize c[c.length - 1]=l at r1 hzl;have r1:z7 (c.map jC) (c.length - 1) 0 3=some (.agg [vb l.1,sv l.2.name,jY l.2.args]):=r1;refine ⟨a2,s2,c++[l],by omega,by omega,⟨by rw [List.length_append,List.length_singleton];omega,λy h=>by
    rcases List.mem_append.1 h with h|h
    ·exact hz y h
    ·rw [List.mem_singleton.1 h];exact hzl⟩,?_⟩
   show _=some (A.top,[kG code,vi a2,vu s2,.agg [.sl 3 ((c++[l]).map jC)]]);rw [<-Zf];simp only [jd,e1,e2,y0,y1,y2,ZY,hg,c1,i1,r1,f1,List.getElem?_cons_zero,List.getElem?_cons_succ]
  ·refine ⟨a2,s2,c,by omega,by omega,hq,?_⟩;simp only [jd,e1,e2,y0,y1,y2,hg,ZY,List.getElem?_cons_zero,List.getElem?_cons_succ]
 ·refine ⟨a2,s2,c,by omega,by omega,hq,?_⟩;simp only [jd,e1,e2,y0,y1,y2,y3,ZY,List.getElem?_cons_zero,List.getElem?_cons_succ]
theorem qR (a s:Int) (h0:0<=a) (h1:a<=999930000):CqD code 2001 a (jhR (kG code) (vi a) (vu s)):=by
 obtain ⟨a1,s1,b,q1,q2,e1⟩:=qp hb 16 (by decide) (by decide) a s h0 (by omega);rw [jxg];cases b with
 | true=>
  obtain ⟨a2,s2,c,r1,r2,r3,e2⟩:=jeS hb a1 s1 (by omega) (by omega);refine ⟨a2,s2,c,by omega,by omega,r3,?_⟩;simp only [jd,e1,e2,List.getElem?_cons_zero,List.getElem?_cons_succ]
 | false=>
  obtain ⟨a2,s2,c,r1,r2,r3,e2⟩:=jd9 hb a1 s1 (by omega) (by omega);refine ⟨a2,s2,c,by omega,by omega,r3.cq,?_⟩;simp only [jd,e1,e2,List.getElem?_cons_zero,List.getElem?_cons_succ]
omit hb in
theorem made {ls:List Lt} (hl:ls.length<=20) (hz:∀l∈ls,tsz l.2<=1000) (p:Bool) {u:List (List UInt8 × T)} (hu:u.length<=4/\Sz 192 u) {t:T} (ht:tsz t<=1000):∃e:jO,
  G 50 [sb u,tm t]=some (tm (sub u t),[])/\G 53 [.sl 3 ((ls++[(p,sub u t)]).map jC)]=some (cm e,[])/\G 31 [cm e]=some (vb (zs e),[])/\(zs e=true-> ∃b:Bool,G 32 [cm e]=some (.tup [cm (normC e),vb b],[])/\CN (normC e)):=by
 have e1:=Zn u ⟨by omega,λq hq=>by have:=hu.2.2 q hq;omega⟩ t (by omega)
 have hsz:=jrJ (u:=u) (Z:=192) (by decide) (λq hq=>(hu.2.2 q hq).2) t;have hz':∀l∈ls++[(p,sub u t)],Tz l.2:=λl h=>by
  rcases List.mem_append.1 h with h|h
  ·have:=hz l h;unfold Tz;omega
  ·rw [List.mem_singleton.1 h];show tsz (sub u t)<=1048576;omega
 have e2:=YQ (ls++[(p,sub u t)]) (by rw [List.length_append,List.length_singleton];omega) hz'
 have hm:=K0 cmpL (ls++[(p,sub u t)]);rw [List.length_append,List.length_singleton] at hm;have e3:=KY (zo cmpL (ls++[(p,sub u t)])) (by omega) (λl h=>hz' l (JL.1 h));exact ⟨_,e1,e2,e3,λhv=>jfv (zP hv).1 (zP hv).2.1⟩
theorem jjl (d:jO) (hd:Cq d) (a s:Int) (h0:0<=a) (h1:a<=999920000):CqD code 5000 a (joY (.sl 3 (d.map jC)) (kG code) (vi a) (vu s)):=by
 have hd1:=hd.1;rw [jxh];by_cases hn:((d.length:Nat):Int)=0
 ·obtain ⟨a2,s2,c,r1,r2,r3,e2⟩:=qR hb a s h0 (by omega);refine ⟨a2,s2,c,by omega,by omega,r3,?_⟩;simp only [jd,hn,e2,List.getElem?_cons_zero,List.getElem?_cons_succ]
 obtain ⟨a1,s1,b,q1,q2,e1⟩:=qp hb 6 (by decide) (by decide) a s h0 (by omega);cases b with
 | true=>
  obtain ⟨a2,s2,c,r1,r2,r3,e2⟩:=qR hb a1 s1 (by omega) (by omega);refine ⟨a2,s2,c,by omega,by omega,r3,?_⟩;simp only [jd,hn,e1,e2,List.getElem?_cons_zero,List.getElem?_cons_succ]
 | false=>
  obtain ⟨a2,s2,x,r1,r2,x0,x1,e2⟩:=zO hb ((d.length:Nat):Int) (by omega) (by omega) a1 s1 (by omega) (by omega);obtain ⟨i,rfl⟩:∃i:Nat,x=(i:Nat):=⟨x.toNat,by omega⟩;have hi:i < d.length:=by omega
  have y1:jq 3 (.sl 3 (d.map jC)) (vi (i:Nat))=some (.elt (jC d[i]) 0):=ja hi;have hzl:=hd.2 _ (List.getElem_mem hi);generalize d[i]=l at y1 hzl;have ld3:jZ 3 (.elt (jC l) 0)=some (.agg [vb l.1,sv l.2.name,jY l.2.args]):=rfl;obtain ⟨a3,s3,ls,u1,u2,u3,u4,e3⟩:=jbU hb 2 (by decide) a2 s2 (by omega) (by omega);have e3:je5 (vi 2) (kG code) (vi a2) (vu s2)=_:=e3;obtain ⟨a4,s4,u,v1,v2,v3,v4,e4⟩:=ZG hb a3 s3 (by omega) (by omega);obtain ⟨e,m1,m2,m3,m4⟩:=made (ls:=ls) (by omega) (λl h=>by have:=(u4 l h).tsz;omega) (!l.1) ⟨v3,v4⟩ hzl;have f1:jB (ls.length+1) 48=true:=J0 (by omega);rw [<-Zf] at m2;have m2:G 53 [.sl 3 (jL (ls.map jC) [[vb (!l.1),sv (sub u l.2).name,jY (sub u l.2).args]])]=some (cm e,[]):=m2;have bld:∀B,B=some (A.agg [vb (!l.1),sv (sub u l.2).name,jY (sub u l.2).args])->B=some (A.agg [vb (!l.1),sv (sub u l.2).name,jY (sub u l.2).args]):=λB h=>h;cases hv:zs e with
  | false=>
   rw [hv] at m3;obtain ⟨a5,s5,c,w1,w2,w3,e5⟩:=jd9 hb a4 s4 (by omega) (by omega);refine ⟨a5,s5,c,by omega,by omega,w3.cq,?_⟩;simp only [jd,hn,e1,e2,y1,ld3,e3,ZY,e4,m1,List.getElem?_cons_zero,List.getElem?_cons_succ];generalize hB:j7 _ _ _=B;have hB':B=some (.agg [vb (!l.1),sv (sub u l.2).name,jY (sub u l.2).args]):=by rw [<-hB];kernel_rfl
   rw [hB'];simp only [jd,f1,m2,m3,e5,List.getElem?_cons_zero,List.getElem?_cons_succ]
  | true=>
   rw [hv] at m3;obtain ⟨b,m4,hcn⟩:=m4 hv;refine ⟨a4,s4,normC e,by omega,by omega,hcn.cq,?_⟩;simp only [jd,hn,e1,e2,y1,ld3,e3,ZY,e4,m1,List.getElem?_cons_zero,List.getElem?_cons_succ];generalize hB:j7 _ _ _=B;have hB':B=some (.agg [vb (!l.1),sv (sub u l.2).name,jY (sub u l.2).args]):=by rw [<-hB];kernel_rfl
   rw [hB'];simp only [jd,f1,m2,m3,m4,List.getElem?_cons_zero,List.getElem?_cons_succ]
theorem jal:∃c d,Cq c/\Cq d/\G 15 [kG code]=some (.tup [cm c,cm d],[]):=by
 obtain ⟨a1,s1,c,q1,q2,hc,e1⟩:=qR hb 0 0 (by decide) (by decide);obtain ⟨a2,s2,d,r1,r2,hd,e2⟩:=jjl hb c hc a1 s1 (by omega) (by omega);have okb:jK (kG code)=true:=rfl;refine ⟨c,d,hc,hd,?_⟩;rw [g15];simp only [jd,okb,e1,e2,List.getElem?_cons_zero,List.getElem?_cons_succ]
omit hb in
theorem jnM (x y:Int):G 94 [vi x,vi y]=some (vi (if y < x then x else y),[]):=by
 rw [g94];by_cases h:y < x
 ·rw [if_pos h];simp only [jd,h]
 ·rw [if_neg h];simp only [jd,h]
theorem Y0 (n:Int) (hn:0<=n/\n<=50) (a s:Int) (h0:0<=a) (h1:a<=999990000):∃k a2 s2 x y,G 94 [vi n,vi 1]=some (vi k,[])/\jp .add false (vi k) (vi 1)=some (vi (k+1))/\ ∃a1 s1,qh (vi (k+1)) (kG code) (vi a) (vu s)=some (.top,[kG code,vi a1,vu s1,vi x])/\qh (vi (k+1)) (kG code) (vi a1) (vu s1)=some (.top,[kG code,vi a2,vu s2,vi y]):=by
 have hk:(1:Int)<=(if 1 < n then n else 1)/\(if 1 < n then n else (1:Int))<=50:=by split<;>omega
 have e:=jnM n 1;generalize (if 1 < n then n else (1:Int))=k at *;obtain ⟨a1,s1,x,q1,q2,_,_,e1⟩:=zO hb (k+1) (by omega) (by omega) a s h0 (by omega);obtain ⟨a2,s2,y,r1,r2,_,_,e2⟩:=zO hb (k+1) (by omega) (by omega) a1 s1 (by omega) (by omega);exact ⟨k,a2,s2,x,y,e,by rw [JZ,jG (by omega) (by omega)],a1,s1,e1,e2⟩
theorem jeV:∃c,Cq c/\G 18 [kG code]=some (cm c,[]):=by
 obtain ⟨a1,s1,d,q1,q2,hd,e1⟩:=qR hb 0 0 (by decide) (by decide);have okb:jK (kG code)=true:=rfl;have hd1:=hd.1
 suffices h:∃c x y,Cq c/\G 45 [kG code]=some (.tup [cm c,vi x,vi y],[]) by
  obtain ⟨c,x,y,hc,e⟩:=h;refine ⟨c,hc,?_⟩;rw [g18];simp only [jd,e]
 by_cases hg:(0:Int) < ((d.length:Nat):Int)
 ·obtain ⟨a2,s2,b,r1,r2,e2⟩:=qp hb 2 (by decide) (by decide) a1 s1 (by omega) (by omega);cases b with
  | false=>
   obtain ⟨k,a4,s4,x,y,p1,p2,a3,s3,p3,p4⟩:=Y0 hb ((d.length:Nat):Int) (by omega) a2 s2 (by omega) (by omega);refine ⟨d,x,y,hd,?_⟩;rw [g45];simp only [jd,okb,e1,hg,e2,p1,p2,p3,p4,List.getElem?_cons_zero,List.getElem?_cons_succ]
  | true=>
   obtain ⟨a3,s3,x,r1,r2,x0,x1,e3⟩:=zO hb ((d.length:Nat):Int) (by omega) (by omega) a2 s2 (by omega) (by omega);obtain ⟨i,rfl⟩:∃i:Nat,x=(i:Nat):=⟨x.toNat,by omega⟩;have hi:i < d.length:=by omega
   have y1:jq 3 (.sl 3 (d.map jC)) (vi (i:Nat))=some (.elt (jC d[i]) 0):=ja hi;have hzl:=hd.2 _ (List.getElem_mem hi);generalize d[i]=l at y1 hzl;have ld3:jZ 3 (.elt (jC l) 0)=some (.agg [vb l.1,sv l.2.name,jY l.2.args]):=rfl;obtain ⟨a4,s4,u,v1,v2,v3,v4,e4⟩:=ZG hb a3 s3 (by omega) (by omega);obtain ⟨e,m1,m2,m3,m4⟩:=made (ls:=d) (by omega) hd.2 l.1 ⟨v3,v4⟩ hzl;have f0:jB d.length 48=true:=J0 (by omega);have f1:jB (d.length+1) 48=true:=J0 (by omega);rw [<-Zf] at m2;have m2:G 53 [.sl 3 (jL (d.map jC) [[vb l.1,sv (sub u l.2).name,jY (sub u l.2).args]])]=some (cm e,[]):=m2;cases hv:zs e with
   | false=>
    rw [hv] at m3;obtain ⟨k,a6,s6,x,y,p1,p2,a5,s5,p3,p4⟩:=Y0 hb ((d.length:Nat):Int) (by omega) a4 s4 (by omega) (by omega);refine ⟨d,x,y,hd,?_⟩;rw [g45];simp only [jd,okb,e1,hg,e2,e3,y1,ld3,f0,e4,m1,List.getElem?_cons_zero,List.getElem?_cons_succ];generalize hB:j7 _ _ _=B;have hB':B=some (.agg [vb l.1,sv (sub u l.2).name,jY (sub u l.2).args]):=by rw [<-hB];kernel_rfl
    rw [hB'];simp only [jd,f1,m2,m3,p1,p2,p3,p4,List.getElem?_cons_zero,List.getElem?_cons_succ]
   | true=>
    rw [hv] at m3;obtain ⟨b,m4,hcn⟩:=m4 hv;have hl8:=hcn.1;obtain ⟨k,a6,s6,x,y,p1,p2,a5,s5,p3,p4⟩:=Y0 hb (((normC e).length:Nat):Int) (by omega) a4 s4 (by omega) (by omega);refine ⟨normC e,x,y,hcn.cq,?_⟩;rw [g45];simp only [jd,okb,e1,hg,e2,e3,y1,ld3,f0,e4,m1,List.getElem?_cons_zero,List.getElem?_cons_succ];generalize hB:j7 _ _ _=B;have hB':B=some (.agg [vb l.1,sv (sub u l.2).name,jY (sub u l.2).args]):=by rw [<-hB];kernel_rfl
    rw [hB'];simp only [jd,f1,m2,m3,m4,p1,p2,p3,p4,List.getElem?_cons_zero,List.getElem?_cons_succ]
 ·obtain ⟨k,a4,s4,x,y,p1,p2,a3,s3,p3,p4⟩:=Y0 hb ((d.length:Nat):Int) (by omega) a1 s1 (by omega) (by omega);refine ⟨d,x,y,hd,?_⟩;rw [g45];simp only [jd,okb,e1,hg,p1,p2,p3,p4,List.getElem?_cons_zero,List.getElem?_cons_succ]
end
noncomputable def Y9 (code:List Int) (s:Int) (hs:1<=s):Mdl:=⟨zM code s,λn vs=>decide (jd1 code (126::n) vs % 2=1),λv=>0<=v/\v < s,jbf s hs⟩
section
variable {code:List Int} (hb:By code)
include hb
theorem jlJ (s:Int) (hs:1<=s/\s<=10) (E:Env) (hEl:E.length<=4000000) (hE:∀x,0<=kL E x/\kL E x < s) (t:T) (ht:Tz t):G 84 [kG code,vi s,ev E,tm t]=some (vb (yk (Y9 code s hs.1) (kL E) t),[]):=by
 have hz:=ht;unfold Tz at hz;rw [kO] at hz;have hv:∀v∈t.args.map (val (zM code s) (kL E)),0<=v/\v<=10:=by
  intro v hv;obtain ⟨u,_,rfl⟩:=List.mem_map.1 hv;have:=jeK (good:=λv=>0<=v/\v < s) (M:=zM code s) (jbf s hs.1) hE u;omega
 have key:=upto (P:=λi=>jh3 (kG code) (vi s) (vi (i:Nat)) (.sl 1 (E.map λp=>cs p.1)) (.sl 1 (E.map λp=>ci p.2)) (sv t.name) (jY t.args) (((t.args.take i).map (val (zM code s) (kL E))).map ci)=some (vb (yk (Y9 code s hs.1) (kL E) t),[])) (n:=t.args.length) ?_ ?_ 0 (Nat.zero_le _)
 ·rw [g84];exact key
 ·obtain ⟨m0,me⟩:=jmN hb (126::t.name) (by rw [List.length_cons];omega) _ hv (by rw [List.length_map];omega)
  have r:=jhu (x:=jd1 code (126::t.name) (t.args.map (val (zM code s) (kL E)))) (n:=2) m0 (by decide);have sa:jp .add false (sv [126]) (sv t.name)=some (sv (126::t.name)):=by rw [K2,if_pos (by simp;omega)];rfl
  have lt0:¬((t.args.length:Nat):Int) < ((t.args.length:Nat):Int):=by omega
  have hlen:(t.args.map (val (zM code s) (kL E))).length=t.args.length:=List.length_map ..;rw [List.take_length,juT];by_cases hn:t.name = [61]
  ·by_cases h2:t.args.length=2
   ·have ha:=jgS h2;have hh:yk (Y9 code s hs.1) (kL E) t=decide (val (zM code s) (kL E) (jcs t)=val (zM code s) (kL E) (jcu t)):=by
     unfold yk;rw [if_pos ⟨hn,h2⟩];rfl
    rw [hh];have hm:(t.args.map (val (zM code s) (kL E))).map ci = [[vi (val (zM code s) (kL E) (jcs t))],[vi (val (zM code s) (kL E) (jcu t))]]:=by rw [ha];rfl
    rw [hm];generalize val (zM code s) (kL E) (jcs t)=x at *;generalize val (zM code s) (kL E) (jcu t)=y at *;have p0:Ke 2 (vi 0)=some 0:=rfl;have p1:Ke 2 (vi 1)=some 1:=rfl;have q0:yE [[vi x],[vi y]] 0 0=some (vi x):=rfl;have q1:yE [[vi x],[vi y]] 1 0=some (vi y):=rfl;have hl2:([[vi x],[vi y]]:List (List A)).length=2:=rfl;have h22:((2:Nat):Int)=2:=rfl;generalize hR: [[vi x],[vi y]]=R at *;simp only [jd,lt0,hn,hl2,h22,p0,p1,q0,q1]
   ·have hh:yk (Y9 code s hs.1) (kL E) t=decide (jd1 code (126::t.name) (t.args.map (val (zM code s) (kL E))) % 2=1):=by
     unfold yk;rw [if_neg (λh=>h2 h.2)];rfl
    have h2':¬((t.args.length:Nat):Int)=2:=by omega
    rw [hh];generalize t.args.map (val (zM code s) (kL E))=vs at *;have hl:((vs.length:Nat):Int)=((t.args.length:Nat):Int):=by rw [hlen]
    rw [hn] at sa me r;simp only [jd,lt0,hn,hl,h2',sa,me,r]
  ·have hh:yk (Y9 code s hs.1) (kL E) t=decide (jd1 code (126::t.name) (t.args.map (val (zM code s) (kL E))) % 2=1):=by
    unfold yk;rw [if_neg (λh=>hn h.1)];rfl
   rw [hh];generalize t.args.map (val (zM code s) (kL E))=vs at *;simp only [jd,lt0,hn,sa,me,r]
 ·intro i hi ihi;have hlt:(i:Int) < ((t.args.length:Nat):Int):=by omega
  have h5:=jr hi (by show t.args.length<=9223372036854775807;omega)
  have e1:=joM hb s hs E hEl hE t.args[i] (ht.args _ (List.getElem_mem hi));have f:jB (i+1) 8=true:=jty (by omega);have hmin:min i t.args.length=i:=by omega
  rw [List.take_succ_eq_append_getElem hi,List.map_append,List.map_append,show ([t.args[i]].map (val (zM code s) (kL E))).map ci = [[vi (val (zM code s) (kL E) t.args[i])]] from rfl] at ihi;rw [juT];generalize val (zM code s) (kL E) t.args[i]=v at *;have ihi:jh3 (kG code) (vi s) (vi ((i+1:Nat):Int)) (.sl 1 (E.map λp=>cs p.1)) (.sl 1 (E.map λp=>ci p.2)) (sv t.name) (jY t.args) (jL (((t.args.take i).map (val (zM code s) (kL E))).map ci) [[vi v]])=_:=ihi;have hlen:(((t.args.take i).map (val (zM code s) (kL E))).map ci).length=i:=by simp [hmin]
  generalize ((t.args.take i).map (val (zM code s) (kL E))).map ci=R at *;have f2:jB (R.length+1) 8=true:=by rw [hlen];exact f
  simp only [jd,hlt,ja hi,jl,e1,h5,f2,ihi]
end
def vnC (l:List (List UInt8)) (c:jO):List (List UInt8):=c.foldl (λl x=>vn l x.2) l
theorem jwM {t:T} (hk:z6 t=true) {l:List (List UInt8)} (hl:l.Nodup):(vn l t).Nodup/\(∀x∈l,x∈vn l t)/\ ∀x∈jS t,x∈vn l t:=by
 obtain ⟨a,_,b,c⟩:=jrX (S:=l++jS t) t hk (λx hx=>List.mem_append_right _ hx) l hl (λx hx=>List.mem_append_left _ hx);exact ⟨a,b,c⟩
theorem jnj:∀ {ts:List T} {l:List (List UInt8)},(∀t∈ts,z6 t=true)->l.Nodup->(vnL l ts).Nodup/\(∀x∈l,x∈vnL l ts)/\ ∀t∈ts,∀x∈jS t,x∈vnL l ts
 | [],l,_,hl=>⟨hl,λx h=>h,λt h=>by cases h⟩
 | t::ts,l,hk,hl=>by
  obtain ⟨a,b,c⟩:=jwM (hk t (List.mem_cons_self ..)) hl;obtain ⟨a',b',c'⟩:=jnj (ts:=ts) (λu hu=>hk u (List.mem_cons_of_mem _ hu)) a;refine ⟨a',λx hx=>b' x (b x hx),λu hu x hx=> ?_⟩;rcases List.mem_cons.1 hu with rfl|hu
  ·exact b' x (c x hx)
  ·exact c' u hu x hx
theorem jxe {t:T} (h:Bx t):upN t.name=false:=h.elim (λh=>by rw [h.1];decide) λh=>ZC h.1
theorem jt4 {t:T} (h:Bx t) (l:List (List UInt8)):vn l t=vnL l t.args:=by rw [jnk,jxe h,Bool.and_false,if_neg Bool.false_ne_true]
theorem jni:∀ {c:jO} {l:List (List UInt8)},(∀y∈c,Bx y.2)->l.Nodup->(∀x∈l,x∈vnC l c)/\ ∀y∈c,∀t∈y.2.args,∀x∈jS t,x∈vnC l c
 | [],l,_,hl=>⟨λx h=>h,λy h=>by cases h⟩
 | y::c,l,hk,hl=>by
  have hy:=hk y (List.mem_cons_self ..);obtain ⟨a,b,d⟩:=jnj (ts:=y.2.args) hy.args hl;rw [<-jt4 hy] at a b d;obtain ⟨a',b'⟩:=jni (c:=c) (l:=vn l y.2) (λz hz=>hk z (List.mem_cons_of_mem _ hz)) a;refine ⟨λx hx=>a' x (b x hx),λz hz t ht x hx=> ?_⟩;rcases List.mem_cons.1 hz with rfl|hz
  ·exact a' x (d t ht x hx)
  ·exact b' z hz t ht x hx
theorem jps {m:Mdl} {e e':List UInt8->Int} {c:jO} (hk:∀y∈c,Bx y.2) (h:∀x∈vnC [] c,e x=e' x) (hc:clV m e c):clV m e' c:=by
 obtain ⟨y,hy,hv⟩:=hc;refine ⟨y,hy,?_⟩;rw [<-hv];refine Z1 rfl (List.map_congr_left λt ht=> ?_);exact jf6 t ((hk y hy).args t ht) λx hx=>(h x ((jni (l:=[]) hk List.nodup_nil).2 y hy t ht x hx)).symm
def jci (s:Nat):Nat->Nat->Nat
 | 0,a=>a
 | k+1,a=>if a < 200 then jci s k (a * s) else a
theorem jme {s:Nat} (hs:s<=3):∀(k a:Nat),a<=600->jci s k a<=600
 | 0,a,h=>h
 | k+1,a,h=>by
  rw [jci];split
  ·refine jme hs k _ ?_;have:a * s<=a * 3:=Nat.mul_le_mul_left _ hs;omega
  ·exact h
theorem jh8:∀k:Nat,jci 1 k 1=1
 | 0=>rfl
 | k+1=>by rw [jci,if_pos (by decide),Nat.mul_one,jh8 k]
theorem jkw {s k:Nat} (h1:1<=s) (hs:s<=3) (hk:s=1\/k<=4):jci s k 1=s ^ k:=by
 rcases hk with rfl|hk
 ·rw [jh8,Nat.one_pow]
 ·have:∀s,s < 4-> ∀k,k < 5->jci s k 1=s ^ k:=by decide
  exact this s (by omega) k (by omega)
section
variable {code:List Int} (hb:By code)
include hb
theorem jhJ (s:Nat) (hs:1<=s/\s<=3) (hs1:(1:Int)<=(s:Int)) (c:jO) (hc:c.length<=1000) (hz:∀l∈c,Tz l.2) (al:A) (k:Nat) (hk:k<=1000) (names:List (List UInt8)) (E:Env) (hEl:E.length<=4000000) (hE:∀x,0<=kL E x/\kL E x < (s:Int)) :
  ∀i,i<=c.length-> ∀b:Bool,jhY (kG code) (vi (s:Nat)) al (vi (k:Nat)) (vb b) (vi (i:Nat)) (.sl 3 (c.map jC)) (names.map cs) (E.map λp=>cs p.1) (E.map λp=>ci p.2) =
   if b || (c.drop i).any (λl=>decide (yk (Y9 code s hs1) (kL E) l.2=l.1)) then jc6 (kG code) (vi (s:Nat)) al (vi ((k+1:Nat):Int)) (.sl 3 (c.map jC)) (names.map cs) else some (vb false,[]):=by
 have ck1:jp .add false (vi (k:Nat)) (vi 1)=some (vi ((k+1:Nat):Int)):=jr (n:=k+1) (by omega) (by omega);have ld2:∀l:Lt,jZ 2 (.elt (jC l) 1)=some (tm l.2):=λl=>rfl;have ld0:∀l:Lt,kJ (.elt (jC l) 0)=some (vb l.1):=λl=>rfl;have ad:∀(l:Lt) (n:Nat),yJ (.elt (jC l) 0) n=some (.elt (jC l) n):=λl n=>by rw [yQ,Nat.zero_add]
 generalize hZ:jc6 (kG code) (vi (s:Nat)) al (vi ((k+1:Nat):Int)) (.sl 3 (c.map jC)) (names.map cs)=Z;refine upto ?_ ?_
 ·intro b;have nlt:¬((c.length:Nat):Int) < ((c.length:Nat):Int):=by omega
  rw [List.drop_length,List.any_nil,Bool.or_false,juD];cases b<;>simp only [jd,nlt,ck1,hZ]
 ·intro i hi ih b;have hlt:(i:Int) < ((c.length:Nat):Int):=by omega
  have h5:=jr hi (by show c.length<=9223372036854775807;omega)
  have x1:jq 3 (.sl 3 (c.map jC)) (vi (i:Nat))=some (.elt (jC c[i]) 0):=ja hi;have e:=jlJ hb (s:Nat) (by omega) E hEl hE c[i].2 (hz _ (List.getElem_mem hi));rw [jo hi,List.any_cons,juD];generalize c[i]=l at x1 e ⊢;cases b with
  | true=>simp only [jd,hlt,ck1,hZ,Bool.true_or]
  | false=>
   have ih:=ih (decide (yk (Y9 code s hs1) (kL E) l.2=l.1));rw [Bool.false_or];generalize yk (Y9 code s hs1) (kL E) l.2=h at e ih ⊢;rw [<-ih];simp only [jd,hlt,x1,ad,ld2,ld0,e,h5]
omit hb in
theorem jlb (s:Nat) (c:jO) (hc:c.length<=1000) (hz:∀l∈c,Tz l.2) (hn:∀l∈c,nodes l.2<=3000):∀i,i<=c.length-> ∀l:List (List UInt8),l.length<=3000 * i->jlX (kG code) (vi (s:Nat)) (vi (i:Nat)) (.sl 3 (c.map jC)) (l.map cs)=jhX (kG code) (vi (s:Nat)) (vi 1) (vi 0) (.sl 3 (c.map jC)) ((vnC l (c.drop i)).map cs):=by
 have ld2:∀l:Lt,jZ 2 (.elt (jC l) 1)=some (tm l.2):=λl=>rfl;have ad:∀(l:Lt) (n:Nat),yJ (.elt (jC l) 0) n=some (.elt (jC l) n):=λl n=>by rw [yQ,Nat.zero_add]
 have hr:∀x:List (List A),hR 1 (A.top,[.sl 1 x]) 0=some x:=λx=>rfl;refine upto ?_ ?_
 ·intro l hl;have nlt:¬((c.length:Nat):Int) < ((c.length:Nat):Int):=by omega
  rw [List.drop_length,juB];simp only [jd,nlt,vnC,List.foldl_nil]
 ·intro i hi ih l hl;have hlt:(i:Int) < ((c.length:Nat):Int):=by omega
  have h5:=jr hi (by show c.length<=9223372036854775807;omega)
  have x1:jq 3 (.sl 3 (c.map jC)) (vi (i:Nat))=some (.elt (jC c[i]) 0):=ja hi;have hm:=List.getElem_mem hi;have nn:=hn _ hm;have e:=jf1 c[i].2 (hz _ hm) l (by omega);have ln:=jhM c[i].2 l;have ih:=ih (vn l c[i].2) (by omega);rw [jo hi,show vnC l (c[i]::c.drop (i+1))=vnC (vn l c[i].2) (c.drop (i+1)) from rfl,<-ih,juB];generalize c[i]=y at x1 e ⊢;simp only [jd,hlt,x1,ad,ld2,e,hr,h5]
omit hb in
theorem joQ (s:Nat) (hs:1<=s/\s<=3) (C:A) (names:List (List UInt8)) (hn:names.length<=3000000):∀i,i<=names.length-> ∀a:Nat,a<=600->jhX (kG code) (vi (s:Nat)) (vi (a:Nat)) (vi (i:Nat)) C (names.map cs)=jc6 (kG code) (vi (s:Nat)) (vi ((jci s (names.length - i) a:Nat):Int)) (vi 0) C (names.map cs):=by
 refine upto ?_ ?_
 ·intro a ha;have nlt:¬((names.length:Nat):Int) < ((names.length:Nat):Int):=by omega
  rw [Nat.sub_self,jci,jqJ];simp only [jd,nlt]
 ·intro i hi ih a ha;have hlt:(i:Int) < ((names.length:Nat):Int):=by omega
  have h5:=jr hi (by show names.length<=9223372036854775807;omega)
  rw [show names.length - i=(names.length - (i+1))+1 by omega,jci];by_cases h2:a < 200
  ·have h2':(a:Int) < 200:=by omega
   have hm:a * s<=600:=by have:a * s<=a * 3:=Nat.mul_le_mul_left _ hs.2;omega
   have c1:ck ((a:Int) * ((s:Nat):Int))=some (vi ((a * s:Nat):Int)):=by rw [<-Int.natCast_mul,jG (by omega) (by omega)]
   have ih:=ih (a * s) hm;rw [if_pos h2,<-ih,jqJ];simp only [jd,hlt,h2',c1,h5]
  ·have h2':¬(a:Int) < 200:=by omega
   rw [if_neg h2,jqJ];simp only [jd,hlt,h2']
theorem jcb (s:Nat) (hs:1<=s/\s<=3) (hs1:(1:Int)<=(s:Int)) (c:jO) (hc:c.length<=1000) (hz:∀l∈c,Tz l.2) (hn:∀l∈c,nodes l.2<=3000) (hnm:(vnC [] c).length<=1000) :
  ∃b,G 38 [kG code,vi (s:Nat),cm c]=some (vb b,[])/\(b=true↔ ∀k,k < jci s (vnC [] c).length 1->clV (Y9 code s hs1) (kL (jbb s (vnC [] c) k)) c):=by
 have e0:=jlb (code:=code) s c hc hz hn 0 (Nat.zero_le _) [] (Nat.zero_le _);have hall:=jme hs.2 (vnC [] c).length 1 (by decide);have e1:=joQ (code:=code) s hs (.sl 3 (c.map jC)) (vnC [] c) (by omega) 0 (Nat.zero_le _) 1 (by decide);rw [Nat.sub_zero] at e1;simp only [Int.natCast_zero,Int.natCast_one,List.drop_zero,List.map_nil] at e0 e1;generalize vnC [] c=names at *;generalize jci s names.length 1=n at *;have key:∀k,k<=n-> ∃b,jc6 (kG code) (vi (s:Nat)) (vi (n:Nat)) (vi (k:Nat)) (.sl 3 (c.map jC)) (names.map cs)=some (vb b,[])/\(b=true↔ ∀k',k<=k'->k' < n->clV (Y9 code s hs1) (kL (jbb s names k')) c):=by
  refine upto ?_ ?_
  ·refine ⟨true,?_,by simp;intro k' h1 h2;omega⟩
   have nlt:¬((n:Nat):Int) < ((n:Nat):Int):=by omega
   rw [jqK];simp only [jd,nlt]
  ·rintro k hk ⟨b,e,hbb⟩;have hlt:(k:Int) < ((n:Nat):Int):=by omega
   have en:=jj4 (code:=code) s hs (vi (n:Nat)) (vi (k:Nat)) (.sl 3 (c.map jC)) names hnm names.length 0 k [] (by omega) rfl (by omega);have el:=jhJ hb s hs hs1 c hc hz (vi (n:Nat)) k (by omega) names (jbb s names k) (by rw [jpM];omega) (jfi hs.1 names k) 0 (Nat.zero_le _) false;simp only [Int.natCast_zero] at el;rw [List.drop_zero,List.nil_append,show names.zip ((dec s names.length k).map λv=>((v:Nat):Int))=jbb s names k from rfl,el,Bool.false_or,List.drop_zero,e] at en;have hcl:c.any (λl=>decide (yk (Y9 code s hs1) (kL (jbb s names k)) l.2=l.1))=true↔clV (Y9 code s hs1) (kL (jbb s names k)) c:=by
    rw [List.any_eq_true];unfold clV;simp only [decide_eq_true_eq]
   simp only [Int.natCast_zero,List.map_nil] at en;by_cases ha:c.any (λl=>decide (yk (Y9 code s hs1) (kL (jbb s names k)) l.2=l.1))=true
   ·rw [if_pos ha] at en;refine ⟨b,by rw [jqK];simp only [jd,hlt,en],hbb.trans ⟨λh k' h1 h2=> ?_,λh k' h1 h2=>h k' (by omega) h2⟩⟩;by_cases hkk:k'=k
    ·rw [hkk];exact hcl.1 ha
    ·exact h k' (by omega) h2
   ·rw [if_neg ha] at en;refine ⟨false,by rw [jqK];simp only [jd,hlt,en],⟨λh=>(by cases h),λh=>absurd (hcl.2 (h k (Nat.le_refl _) hk)) ha⟩⟩
 obtain ⟨b,e,hbb⟩:=key 0 (Nat.zero_le _);simp only [Int.natCast_zero] at e;refine ⟨b,?_,hbb.trans ⟨λh k hk=>h k (Nat.zero_le _) hk,λh k _ hk=>h k hk⟩⟩;rw [g38];simp only [jd,e0,e1,e]
theorem jhK (s:Nat) (hs:1<=s/\s<=3) (hs1:(1:Int)<=(s:Int)) (c:jO) (hc:c.length<=1000) (hz:∀l∈c,Tz l.2) (hn:∀l∈c,nodes l.2<=3000) (hnm:(vnC [] c).length<=1000) (ht:trM (Y9 code s hs1) c):G 38 [kG code,vi (s:Nat),cm c]=some (vb true,[]):=by
 obtain ⟨b,e,h⟩:=jcb hb s hs hs1 c hc hz hn hnm;rw [h.2 λk _=>ht _ (jfi hs.1 _ k)] at e;exact e
theorem jlI (s:Nat) (hs:1<=s/\s<=3) (hs1:(1:Int)<=(s:Int)) (c:jO) (hc:c.length<=1000) (hz:∀l∈c,Tz l.2) (hn:∀l∈c,nodes l.2<=3000) (hnm:(vnC [] c).length<=1000) (hk:∀y∈c,Bx y.2) (hsm:s=1\/(vnC [] c).length<=4):∃b,G 38 [kG code,vi (s:Nat),cm c]=some (vb b,[])/\(b=true->trM (Y9 code s hs1) c):=by
 obtain ⟨b,e,h⟩:=jcb hb s hs hs1 c hc hz hn hnm;refine ⟨b,e,λhb1 e' he=> ?_⟩;obtain ⟨k,hk1,hk2⟩:=jpL hs.1 (vnC [] c) e' he;exact jps hk hk2 (h.1 hb1 k (by rw [jkw hs.1 hs.2 hsm];exact hk1))
end
theorem jnh:∀ {c:jO} {l:List (List UInt8)},(∀y∈c,nodes y.2<=30)->(vnC l c).length<=l.length+30 * c.length
 | [],l,_=>by simp [vnC]
 | y::c,l,h=>by
  have h1:=jhM y.2 l;have h2:=h y (by simp);have h3:=jnh (c:=c) (l:=vn l y.2) λz hz=>h z (by simp [hz]);show (vnC (vn l y.2) c).length<=_;rw [List.length_cons];omega
theorem CN.vn {c:jO} (h:CN c):(vnC [] c).length<=240:=by
 have h1:=jnh (c:=c) (l:=[]) λy hy=>(h.2 y hy).2;have h2:=h.1;rw [List.length_nil] at h1;omega
theorem CN.nodes {c:jO} (h:CN c):∀l∈c,nodes l.2<=3000:=λl hl=>by have:=(h.2 l hl).2;omega
section
variable {code:List Int} (hb:By code)
include hb
omit hb in
theorem joL (s:Nat) (c:jO) (h:CN c):G 37 [vi (s:Nat),cm c]=some (vb (decide (s=1\/(vnC [] c).length<=4)),[]):=by
 have ld2:∀l:Lt,jZ 2 (.elt (jC l) 1)=some (tm l.2):=λl=>rfl;have ad:∀(l:Lt) (n:Nat),yJ (.elt (jC l) 0) n=some (.elt (jC l) n):=λl n=>by rw [yQ,Nat.zero_add]
 have hr:∀x:List (List A),hR 1 (A.top,[.sl 1 x]) 0=some x:=λx=>rfl;have hcl:=h.1;have key:=upto (n:=c.length) (P:=λi=>∀l:List (List UInt8),l.length<=3000 * i->jlW (vi (s:Nat)) (vi (i:Nat)) (.sl 3 (c.map jC)) (l.map cs)=some (vb (decide (s=1\/(vnC l (c.drop i)).length<=4)),[])) ?_ ?_ 0 (Nat.zero_le _) [] (Nat.zero_le _)
 ·simp only [Int.natCast_zero,List.drop_zero,List.map_nil] at key;rw [g37];simp only [jd,key]
 ·intro l _;have nlt:¬((c.length:Nat):Int) < ((c.length:Nat):Int):=by omega
  rw [List.drop_length,juA,show vnC l []=l from rfl];by_cases hs:s=1
  ·subst hs;have e1:((1:Nat):Int)=1:=rfl;simp only [jd,nlt,e1,true_or]
  ·have e1:¬((s:Nat):Int)=1:=by omega
   have e2:decide (((l.length:Nat):Int)<=4)=decide (s=1\/l.length<=4):=by congr 1;exact propext ⟨λh=>Or.inr (by omega),λh=>by omega⟩
   rw [<-e2];simp only [jd,nlt,e1]
 ·intro i hi ih l hl;have hlt:(i:Int) < ((c.length:Nat):Int):=by omega
  have h5:=jr hi (by show c.length<=9223372036854775807;omega)
  have x1:jq 3 (.sl 3 (c.map jC)) (vi (i:Nat))=some (.elt (jC c[i]) 0):=ja hi;have hm:=List.getElem_mem hi;have nn:=h.nodes _ hm;have e:=jf1 c[i].2 (h.tz _ hm) l (by omega);have ln:=jhM c[i].2 l;have ih:=ih (vn l c[i].2) (by omega);rw [jo hi,show vnC l (c[i]::c.drop (i+1))=vnC (vn l c[i].2) (c.drop (i+1)) from rfl,<-ih,juA];generalize c[i]=y at x1 e ⊢;simp only [jd,hlt,x1,ad,ld2,e,hr,h5]
theorem jj5 (ps:List jO) (hp:ps.length<=1000) (hps:∀c∈ps,CN c) (x:jO) (hx:CN x) (hsd:Sd ps x) (s:Nat) (hs:1<=s/\s<=3) (hs1:(1:Int)<=(s:Int)) :
  ∀i,i<=ps.length-> ∀b:Bool,(b=true-> ∀j,(h:j < ps.length)->j < i->trM (Y9 code s hs1) ps[j])->jlQ (kG code) (cls ps) (vi (s:Nat)) (vb b) (vi (i:Nat)) (.sl 3 (x.map jC))=Q0 (kG code) (cls ps) (vi ((s+1:Nat):Int)) (.sl 3 (x.map jC)):=by
 have cs1:jp .add false (vi (s:Nat)) (vi 1)=some (vi ((s+1:Nat):Int)):=jr (n:=s+1) (by omega) (by omega);generalize hZ:Q0 (kG code) (cls ps) (vi ((s+1:Nat):Int)) (.sl 3 (x.map jC))=Z;refine upto ?_ ?_
 ·intro b hbt;have nlt:¬((ps.length:Nat):Int) < ((ps.length:Nat):Int):=by omega
  rw [juo];cases b with
  | false=>simp only [jd,nlt,cs1,hZ]
  | true=>
   have e:=jhK hb s hs hs1 x (by have:=hx.1;omega) hx.tz hx.nodes (by have:=hx.vn;omega) (hsd _ λc hc=>by
    obtain ⟨j,hj,rfl⟩:=List.getElem_of_mem hc;exact hbt rfl j hj hj)
   simp only [jd,nlt,cs1,hZ,e]
 ·intro i hi ih b hbt;have hlt:(i:Int) < ((ps.length:Nat):Int):=by omega
  have h5:=jr hi (by show ps.length<=9223372036854775807;omega)
  have hm:=List.getElem_mem hi;have hc:=hps _ hm;have x1:jq 1 (cls ps) (vi (i:Nat))=some (.elt (Jx ps[i]) 0):=ja hi;have ld:jZ 1 (.elt (Jx ps[i]) 0)=some (cm ps[i]):=rfl;rw [juo];cases b with
  | false=>simp only [jd,hlt,cs1,hZ]
  | true=>
   have e1:=joL s ps[i] hc;by_cases hsm:s=1\/(vnC [] ps[i]).length<=4
   ·rw [decide_eq_true hsm] at e1;obtain ⟨b',e2,hb'⟩:=jlI hb s hs hs1 ps[i] (by have:=hc.1;omega) hc.tz hc.nodes (by have:=hc.vn;omega) (λy hy=>(hc.2 y hy).1) hsm;have ih:=ih b' (λhbb j hj hj2=>by
     by_cases hji:j=i
     ·subst hji;exact hb' hbb
     ·exact hbt rfl j hj (by omega))
    simp only [jd,hlt,x1,ld,e1,e2,h5,ih]
   ·rw [decide_eq_false hsm] at e1;have ih:=ih false (λh=>by cases h);simp only [jd,hlt,x1,ld,e1,h5,ih]
theorem jj6 (ps:List jO) (hp:ps.length<=1000) (hps:∀c∈ps,CN c) (x:jO) (hx:CN x) (hsd:Sd ps x):G 14 [kG code,cls ps,cm x]=some (vb true,[]):=by
 have key:∀s:Nat,1<=s->s<=3->Q0 (kG code) (cls ps) (vi (s:Nat)) (.sl 3 (x.map jC))=Q0 (kG code) (cls ps) (vi ((s+1:Nat):Int)) (.sl 3 (x.map jC)):=by
  intro s h1 h3;have hs1:(1:Int)<=(s:Int):=by omega
  have e:=jj5 hb ps hp hps x hx hsd s ⟨h1,h3⟩ hs1 0 (Nat.zero_le _) true (λ_ j _ h=>absurd h (Nat.not_lt_zero _));have hlt:((s:Nat):Int) < 4:=by omega
  simp only [Int.natCast_zero] at e;rw [<-e,jun];simp only [jd,hlt]
 have k1:=key 1 (by decide) (by decide);have k2:=key 2 (by decide) (by decide);have k3:=key 3 (by decide) (by decide);have n4:¬((4:Nat):Int) < 4:=by decide
 have hl:Q0 (kG code) (cls ps) (vi 1) (.sl 3 (x.map jC))=some (vb true,[]):=by
  refine (k1.trans (k2.trans k3)).trans ?_;show Q0 (kG code) (cls ps) (vi ((4:Nat):Int)) (.sl 3 (x.map jC))=_;rw [jun];simp only [jd,n4]
 rw [g14];simp only [jd,hl]
end
theorem jvz (code:List Int):G 6 [kG code]=some (vb (decide (65536 < ((code.length:Nat):Int))),[]):=by
 rw [g6];simp only [jd]
section
variable {code:List Int} (hb:By code)
include hb
theorem jjO (ps:List jO) (hp:ps.length<=100) (hps:∀c∈ps,CN c) (x:jO) (hx:CN x) (h:Sd ps x):G 14 [kG code,cls ps,cm x]=some (vb true,[]):=jj6 hb ps (by omega) hps x hx h
end
theorem jdS (code:List Int) (hp:(∀n∈code,0<=n/\n<=255)/\code.length<=9223372036854775807):G 4 [kG code]=some (vb true,[]):=by
 have e0:=jvz code;rw [g4];by_cases hbig:65536 < ((code.length:Nat):Int)
 ·rw [decide_eq_true hbig] at e0;simp only [jd,e0]
 rw [decide_eq_false hbig] at e0;have hb:By code:=⟨hp.1,by omega⟩;obtain ⟨c,d,hc,hd,e1⟩:=jal hb;obtain ⟨l,b,r1,r2,hl,hx⟩:=je3 c d hc.cz hd.cz;obtain ⟨e,he,e2⟩:=jeV hb;obtain ⟨k,k',b2,f1,f2,hk,hy⟩:=jkU e he.cz;have okb:jK (kG code)=true:=rfl;have loop2:=upto (n:=k.length) (P:=λi=>jsd (kG code) (cls k) (vi (i:Nat)) (.sl 3 (e.map jC))=some (vb true,[])) ?_ ?_ 0 (Nat.zero_le _);rotate_left
 ·have nlt:¬((k.length:Nat):Int) < ((k.length:Nat):Int):=by omega
  rw [jxS];simp only [jd,nlt]
 ·intro i hi ih;have hlt:(i:Int) < ((k.length:Nat):Int):=by omega
  have h5:=jr hi (by show k.length<=9223372036854775807;omega)
  have x1:jq 1 (cls k) (vi (i:Nat))=some (.elt (Jx k[i]) 0):=ja hi;obtain ⟨q1,q2,q3⟩:=hy _ (List.getElem_mem hi);generalize k[i]=x at *;have s1:G 14 [kG code,.sl 1 [[.sl 3 (e.map jC)]],cm x]=some (vb true,[]):=jjO hb [e] (by simp) (λc h=>by simp only [List.mem_singleton] at h;rw [h];exact q1) x q2 q3;rw [jxS];simp only [jd,hlt,x1,ld1,s1,h5,ih]
 have loop1:=upto (n:=l.length) (P:=λi=>jsc (kG code) (cls l) (vi (i:Nat)) (.sl 3 (c.map jC)) (.sl 3 (d.map jC))=some (vb true,[])) ?_ ?_ 0 (Nat.zero_le _);rotate_left
 ·have nlt:¬((l.length:Nat):Int) < ((l.length:Nat):Int):=by omega
  simp only [Int.natCast_zero] at loop2;rw [jxR];cases b2<;>simp only [jd,nlt,e2,f1,f2,loop2]
 ·intro i hi ih;have hlt:(i:Int) < ((l.length:Nat):Int):=by omega
  have h5:=jr hi (by show l.length<=9223372036854775807;omega)
  have x1:jq 1 (cls l) (vi (i:Nat))=some (.elt (Jx l[i]) 0):=ja hi;obtain ⟨⟨q1,q1'⟩,q2,q3⟩:=hx _ (List.getElem_mem hi);generalize l[i]=x at *;have s1:G 14 [kG code,.sl 1 [[.sl 3 (c.map jC)],[.sl 3 (d.map jC)]],cm x]=some (vb true,[]):=jjO hb [c,d] (by simp) (λy h=>by
   simp only [List.mem_cons,List.not_mem_nil,or_false] at h;rcases h with h|h
   ·rw [h];exact q1
   ·rw [h];exact q1') x q2 q3
  rw [jxR];simp only [jd,hlt,x1,ld1,s1,h5,ih]
 simp only [Int.natCast_zero] at loop1;have hll:decide (((l.length:Nat):Int)=((l.length:Nat):Int))=true:=decide_eq_true rfl;cases b<;>simp only [jd,e0,e1,r1,r2,loop1,hll]
def ng (l:Lt):Bool:= !l.1
def jaT (c:jO):Nat:=c.countP ng
theorem jaV (a b:jO):jaT (a++b)=jaT a+jaT b:=List.countP_append
theorem jBw (u:jO) (x:Lt):jaT (Jm cmpL u x)<=jaT u+jaT [x]:=by
 unfold Jm;split
 ·omega
 ·have e:=List.takeWhile_append_dropWhile (p:=λa=>decide (cmpL a x < 0)) (l:=u);have h:jaT u=jaT (u.takeWhile λa=>decide (cmpL a x < 0))+jaT (u.dropWhile λa=>decide (cmpL a x < 0)):=by rw [<-jaV,e]
  rw [jaV,h,<-List.singleton_append,jaV];omega
theorem jr4 (l:jO):jaT (zo cmpL l)<=jaT l:=by
 have:∀(l m:jO),jaT (l.foldl (Jm cmpL) m)<=jaT m+jaT l:=by
  intro l;induction l with
  | nil=>intro m;exact Nat.le_refl _
  | cons x l ih=>
   intro m;have h1:=ih (Jm cmpL m x);have h2:=jBw m x;have h3:jaT (x::l)=jaT [x]+jaT l:=jaV [x] l;rw [List.foldl_cons];omega
 have h:=this l [];have h0:jaT ([]:jO)=0:=rfl;unfold zo;omega
theorem jx1 (f:T->T) (l:jO):jaT (l.map λx=>(x.1,f x.2))=jaT l:=by
 unfold jaT;rw [List.countP_map];rfl
theorem jr5:∀(k:Nat) (c:jO),jaT (normF k c)<=jaT c
 | 0,_=>Nat.le_refl _
 | k+1,c=>by
  rw [normF];split
  ·exact Nat.le_refl _
  ·have h1:=jr5 k (renC 88 c);have h2:jaT (renC 88 c)<=jaT c:=by
    unfold renC;have:=jr4 (c.map λl=>(l.1,kg (ku 88 (j8 c)) l.2));rw [jx1] at this;exact this
   omega
theorem jxO:∀(k:Nat) (c:jO),(normF k c).length<=c.length
 | 0,_=>Nat.le_refl _
 | k+1,c=>by
  rw [normF];split
  ·exact Nat.le_refl _
  ·have h1:=jxO k (renC 88 c);have h2:(renC 88 c).length<=c.length:=by
    unfold renC;have:=K0 cmpL (c.map λl=>(l.1,kg (ku 88 (j8 c)) l.2));rw [List.length_map] at this;exact this
   omega
theorem jyt {u:ju} {l x:jO} (h:Yp u l=some x):jaT x<=jaT l/\x.length<=l.length:=by
 unfold Yp at h;rw [Option.bind_eq_some_iff] at h;obtain ⟨d,hd,h⟩:=h;split at h
 ·cases h;unfold JR at hd;split at hd
  ·cases hd;have h1:=jr5 10 (zo cmpL (l.map λx=>(x.1,sub u x.2)));have h2:=jr4 (l.map λx=>(x.1,sub u x.2));have h3:=jxO 10 (zo cmpL (l.map λx=>(x.1,sub u x.2)));have h4:=K0 cmpL (l.map λx=>(x.1,sub u x.2));rw [jx1] at h2;rw [List.length_map] at h4;exact ⟨Nat.le_trans h1 h2,Nat.le_trans h3 h4⟩
  ·cases hd
 ·cases h
theorem jyJ {c:jO} {m:Nat} (h:m < c.length):jaT c=jaT (c.eraseIdx m)+jaT [c[m]]:=by
 have e:c=c.take m++([c[m]]++c.drop (m+1)):=by
  rw [List.singleton_append,<-jo h,List.take_append_drop]
 rw [List.eraseIdx_eq_take_drop_succ,jaV]
 conv=>lhs;rw [e]
 rw [jaV,jaV];omega
theorem jr6 {c:jO} :jaT c=0↔ ∀l∈c,l.1=true:=by
 unfold jaT;rw [List.countP_eq_zero];constructor
 ·intro h l hl;have:=h l hl;unfold ng at this;simpa using this
 ·intro h l hl;have:=h l hl;unfold ng;simp [this]
def jbz:jO->Nat->Int
 | [],_=> -1
 | l::r,i=>if l.1=false then (i:Nat) else jbz r (i+1)
def jaW (c:jO):Int:=jbz c 0
theorem jaX:∀(c:jO) (i:Nat),(jbz c i = -1/\ ∀l∈c,l.1=true)\/ ∃m,∃h:m < c.length,jbz c i=((i+m:Nat):Int)/\c[m].1=false
 | [],_=>Or.inl ⟨rfl,λl h=>by cases h⟩
 | l::r,i=>by
  rw [jbz];by_cases hl:l.1=false
  ·rw [if_pos hl];exact Or.inr ⟨0,by simp,rfl,hl⟩
  ·rw [if_neg hl];have hl':l.1=true:=by cases h:l.1 with|true=>rfl|false=>exact absurd h hl
   rcases jaX r (i+1) with ⟨h1,h2⟩|⟨m,h,h1,h2⟩
   ·refine Or.inl ⟨h1,λx hx=> ?_⟩;rcases List.mem_cons.1 hx with rfl|hx
    ·exact hl'
    ·exact h2 x hx
   ·exact Or.inr ⟨m+1,by simpa using h,by rw [h1];congr 1;omega,by simpa using h2⟩
theorem jBQ {c d x:jO} (hd:∀l∈d,l.1=true) {u:ju} {m n:Nat} (hm:m < c.length) (hs:c[m].1=false) (hx:Yp u (c.eraseIdx m++(jW d).eraseIdx n)=some x):jaT x+1<=jaT c:=by
 have h1:=(jyt hx).1;have h2:=jyJ hm;have h3:jaT [c[m]]=1:=by
  show List.countP ng [c[m]]=1;unfold ng;simp [hs]
 have h4:jaT ((jW d).eraseIdx n)=0:=jr6.2 λl hl=>by
  have:=List.mem_of_mem_eraseIdx hl;unfold jW at this;obtain ⟨y,hy,rfl⟩:=List.mem_map.1 this;exact hd y hy
 rw [jaV] at h1;omega
def jaU (R:Nat->Option jO):Nat->Nat->Option jO
 | 0,_=>none
 | j+1,k=>match R k with|some x=>some x|none=>jaU R j (k+1)
theorem jkd {R:Nat->Option jO} :∀ {j k:Nat} {x:jO},jaU R j k=some x-> ∃n,R n=some x
 | 0,_,_,h=>by cases h
 | j+1,k,x,h=>by
  rw [jaU] at h;split at h
  ·rename_i y hy;cases h;exact ⟨k,hy⟩
  ·exact jkd h
theorem jkc {R:Nat->Option jO} (h:∀k,R k=none):∀j k,jaU R j k=none
 | 0,_=>rfl
 | j+1,k=>by rw [jaU,h k];exact jkc h j (k+1)
theorem jkM (c:jO) (hl:c.length<=1048576):G 62 [cm c]=some (vi (jaW c),[]):=by
 have ld:∀l:Lt,kJ (.elt (jC l) 0)=some (vb l.1):=λl=>rfl;have ad:∀(l:Lt) (n:Nat),yJ (.elt (jC l) 0) n=some (.elt (jC l) n):=λl n=>by rw [yQ,Nat.zero_add]
 have key:=upto (n:=c.length) (P:=λi=>jAy (vi (i:Nat)) (.sl 3 (c.map jC))=some (vi (jbz (c.drop i) i),[])) ?_ ?_ 0 (Nat.zero_le _)
 ·simp only [Int.natCast_zero,List.drop_zero] at key;rw [g62];simp only [jd,key];rfl
 ·have nlt:¬((c.length:Nat):Int) < ((c.length:Nat):Int):=by omega
  rw [jB4,List.drop_length,jbz];simp only [jd,nlt]
 ·intro i hi ih;have hlt:(i:Int) < ((c.length:Nat):Int):=by omega
  have h5:=jr hi (by show c.length<=9223372036854775807;omega)
  have x1:jq 3 (.sl 3 (c.map jC)) (vi (i:Nat))=some (.elt (jC c[i]) 0):=ja hi;rw [jB4,jo hi,jbz];generalize c[i]=l at *;cases hl:l.1 with
  | false=>
   rw [if_pos rfl];simp only [jd,hlt,x1,ad,ld,hl]
  | true=>
   rw [if_neg (by decide:¬(true=false))];simp only [jd,hlt,x1,ad,ld,hl,h5,ih]
theorem joW (l:Lt):G 58 [ltm l]=some (vb (!l.1),[]):=by
 rw [g58];simp only [jd]
theorem jke (c:jO) (hl:c.length<=1048576):G 60 [.sl 3 (c.map jC),.fn 58 []]=some (vi (jaW c),[]):=by
 have key:=upto (n:=c.length) (P:=λi=>jAo (.sl 3 (c.map jC)) (.fn 58 []) (vi (c.length:Nat)) (vi (i:Nat))=some (vi (jbz (c.drop i) i),[])) ?_ ?_ 0 (Nat.zero_le _)
 ·simp only [Int.natCast_zero,List.drop_zero] at key;rw [g60];simp only [jd,key];rfl
 ·have nlt:¬((c.length:Nat):Int) < ((c.length:Nat):Int):=by omega
  rw [jB2,List.drop_length,jbz];simp only [jd,nlt]
 ·intro i hi ih;have hlt:(i:Int) < ((c.length:Nat):Int):=by omega
  have h5:=jr hi (by show c.length<=9223372036854775807;omega)
  have x1:jq 3 (.sl 3 (c.map jC)) (vi (i:Nat))=some (.elt (jC c[i]) 0):=ja hi;have e:=joW c[i];have hp:K.pureF 58=true:=rfl;have cc:DX.run K (MM K) (.callc (.fn 58 []) [ltm c[i]] false)=some (vb (!c[i].1)):=by
   rw [yN hp,List.append_nil,e];rfl
  rw [jB2,jo hi,jbz];generalize c[i]=l at *;cases hl:l.1<;>rw [hl] at cc
  ·rw [if_pos rfl];simp only [jd,hlt,x1,zN,cc]
  ·rw [if_neg (by decide:¬(true=false))];simp only [jd,hlt,x1,zN,cc,h5,ih]
theorem jA6 (c e:jO) (hc:kj c=true) (he:kj e=true):∃r:Option jO,G 61 [cm c,vi (jaW c),cm e]=qy r/\G 64 [cm c,cm e]=qy r/\ ∀x,r=some x->(kj x=true/\Sd [c,e] x)/\((∀l∈e,l.1=true)->jaT x+1<=jaT c):=by
 have cc:=qJ hc;have ce:=qJ he;have l8:=ce.1;have n1:=jkM c (by have:=cc.1;omega);have hx:∀k:Nat,_:=λk=>jmB c e hc he (jaW c) (k:Nat);have hR:∀k:Nat,_:=λk=>(hx k).choose_spec;generalize hRR:(λk:Nat=>(hx k).choose)=R;have hR':∀k:Nat,G 41 [cm c,vi (jaW c),cm e,vi (k:Nat)]=qy (R k)/\G 69 [cm c,vi (jaW c),cm e,vi (k:Nat)]=qy (R k)/\ ∀x,R k=some x->(kj x=true/\Sd [c,e] x)/\ ∃(u:ju) (m n:Nat),jaW c=(m:Nat)/\m < c.length/\n < e.length/\Yp u (c.eraseIdx m++(jW e).eraseIdx n)=some x:=by
  intro k;rw [<-hRR];exact hR k
 clear hR hRR;refine ⟨jaU R e.length 0,?_,?_,λx h=> ?_⟩
 ·have key:∀(j k:Nat),j+k=e.length->jAt (vi (jaW c)) (vi (e.length:Nat)) (vi (k:Nat)) (.sl 3 (c.map jC)) (.sl 3 (e.map jC)) []=qy (jaU R j k):=by
   intro j;induction j with
   | zero=>
    intro k hk;have nlt:¬((k:Nat):Int) < ((e.length:Nat):Int):=by omega
    rw [jB3];simp only [jd,nlt];rfl
   | succ j ih=>
    intro k hk;have hlt:((k:Nat):Int) < ((e.length:Nat):Int):=by omega
    have h6:jp .add false (vi (k:Nat)) (vi 1)=some (vi ((k+1:Nat):Int)):=jr (n:=k+1) (by omega) (by omega);have e1:=(hR' k).1;have ih:=ih (k+1) (by omega);rw [jaU,jB3];cases hr:R k with
    | none=>
     rw [hr] at e1;have e1:G 41 [cm c,vi (jaW c),cm e,vi (k:Nat)]=some (.tup [cz,vb false],[]):=e1;show _=qy (jaU R j (k+1));rw [<-ih];simp only [jd,hlt,e1,h6]
    | some r=>
     rw [hr] at e1;have e1:G 41 [cm c,vi (jaW c),cm e,vi (k:Nat)]=some (.tup [cm r,vb true],[]):=e1;show _=some (A.tup [cm r,vb true],[]);simp only [jd,hlt,e1]
  have key:=key e.length 0 (by omega);obtain ⟨c',b',hr⟩:=YS (jaU R e.length 0);rw [hr] at key ⊢;simp only [Int.natCast_zero] at key;rw [g61];simp only [jd,key]
 ·rcases jaX c 0 with ⟨h1,h2⟩|⟨m,hm,h1,h2⟩
  ·have h1:jaW c = -1:=h1;have hn:∀k,R k=none:=λk=>by
    cases hr:R k with
    | none=>rfl
    | some x=>
     obtain ⟨_,u,m,n,h3,_⟩:=(hR' k).2.2 x hr;rw [h1] at h3;omega
   have ng0:¬(0:Int)<= -1:=by decide
   rw [jkc hn];show _=some (A.tup [cz,vb false],[]);rw [h1] at n1;have lp:jwV (vi (-1)) (vi 0) (.sl 3 (c.map jC)) (.sl 3 (e.map jC)) []=some (A.tup [cz,vb false],[]):=by
    rw [jBu];by_cases h0:(0:Int) < ((e.length:Nat):Int)
    ·simp only [jd,h0,ng0]
    ·simp only [jd,h0]
   rw [g64];simp only [jd,n1,lp]
  ·have h1:jaW c=(m:Nat):=by rw [show jaW c=jbz c 0 from rfl,h1];congr 1;omega
   have hge:(0:Int)<=((m:Nat):Int):=by omega
   rw [h1] at n1 hR';have key:∀(j k:Nat),j+k=e.length->jwV (vi (m:Nat)) (vi (k:Nat)) (.sl 3 (c.map jC)) (.sl 3 (e.map jC)) []=qy (jaU R j k):=by
    intro j;induction j with
    | zero=>
     intro k hk;have nlt:¬((k:Nat):Int) < ((e.length:Nat):Int):=by omega
     rw [jBu];simp only [jd,nlt];rfl
    | succ j ih=>
     intro k hk;have hlt:((k:Nat):Int) < ((e.length:Nat):Int):=by omega
     have h6:jp .add false (vi (k:Nat)) (vi 1)=some (vi ((k+1:Nat):Int)):=jr (n:=k+1) (by omega) (by omega);have e1:=(hR' k).2.1;have ih:=ih (k+1) (by omega);rw [jaU,jBu];cases hr:R k with
     | none=>
      rw [hr] at e1;have e1:G 69 [cm c,vi (m:Nat),cm e,vi (k:Nat)]=some (.tup [cz,vb false],[]):=e1;show _=qy (jaU R j (k+1));rw [<-ih];simp only [jd,hlt,hge,e1,h6]
     | some r=>
      rw [hr] at e1;have e1:G 69 [cm c,vi (m:Nat),cm e,vi (k:Nat)]=some (.tup [cm r,vb true],[]):=e1;show _=some (A.tup [cm r,vb true],[]);simp only [jd,hlt,hge,e1]
   have key:=key e.length 0 (by omega);obtain ⟨c',b',hr⟩:=YS (jaU R e.length 0);rw [hr] at key ⊢;simp only [Int.natCast_zero] at key;rw [g64];simp only [jd,n1,key]
 ·obtain ⟨n,hn⟩:=jkd h;obtain ⟨h1,u,m,n',h2,h3,h4,h5⟩:=(hR' n).2.2 x hn;refine ⟨h1,λhp=> ?_⟩;rcases jaX c 0 with ⟨g1,g2⟩|⟨m',hm',g1,g2⟩
  ·have g1:jaW c = -1:=g1;rw [g1] at h2;omega
  ·have g1:jaW c=((0+m':Nat):Int):=g1;rw [h2] at g1;have:m=m':=by omega
   subst this;exact jBQ hp h3 g2 h5
theorem jBv (c:jO) (hl:c.length<=1000) (hz:∀x∈c,Tz x.2):G 63 [cm c]=some (cm c,[]):=by
 have key:=upto (P:=λi=>jAz (vi (i:Nat)) (.sl 3 (c.map jC)) [] ((c.take i).map jC)=some (cm c,[])) (n:=c.length) ?_ ?_ 0 (Nat.zero_le _)
 ·simp only [Int.natCast_zero,List.take_zero,List.map_nil] at key;rw [g63];simp only [jd,key]
 ·have nlt:¬((c.length:Nat):Int) < ((c.length:Nat):Int):=by omega
  rw [jB5,List.take_length];simp only [jd,nlt]
 ·intro i hi ih;have hlt:(i:Int) < ((c.length:Nat):Int):=by omega
  have e1:=QI c[i].2 (hz _ (List.getElem_mem _));have ta:=K7 (f:=jC) hi;have tl:=take_len (f:=jC) (Nat.le_of_lt hi);have hf:jB (i+1) 48=true:=J0 (by omega);have ld:∀l:Lt,kJ (.elt (jC l) 0)=some (vb l.1):=λl=>rfl;have ad:∀(l:Lt) (n:Nat),yJ (.elt (jC l) 0) n=some (.elt (jC l) n):=λl n=>by rw [yQ,Nat.zero_add]
  have ld2:∀l:Lt,jZ 2 (.elt (jC l) 1)=some (tm l.2):=λl=>rfl;have ix:=ja (k:=3) (f:=jC) hi;generalize (c.take i).map jC=R at *;generalize c[i]=l at *;rw [jB5];simp only [jd,hlt,ix,ad,ld,ld2,e1];generalize hB:j7 _ _ _=B;have hB':B=some (ltm l):=by rw [<-hB];kernel_rfl
  rw [hB'];have hck:ck ((i:Int)+1)=some (vi ((i+1:Nat):Int)):=jG (by omega) (by omega);simp only [jd,tl,hf,ta,hck,ih]
theorem jr3 (l:Lt) (r:jO):jaT (l::r)=jaT r+(if l.1 then 0 else 1):=by
 unfold jaT;rw [List.countP_cons];unfold ng;cases l.1<;>rfl
theorem jBO (c:jO):jaT c<=c.length:=List.countP_le_length
theorem jCe (c:jO) (hl:c.length<=1000) (es:A):∀i,i<=c.length-> ∀m:Nat,m<=i->jv9 es (vi (m:Nat)) (.sl 3 (c.map jC)) (vi (c.length:Nat)) (vi (i:Nat)) (.sl 3 (c.map jC)) []=jv9 es (vi ((m+jaT (c.drop i):Nat):Int)) (.sl 3 (c.map jC)) (vi (c.length:Nat)) (vi (c.length:Nat)) (.sl 3 (c.map jC)) []:=by
 refine upto ?_ ?_
 ·intro m _;rw [List.drop_length];rfl
 ·intro i hi ih m hm;have hlt:(i:Int) < ((c.length:Nat):Int):=by omega
  have h5:=jr hi (by show c.length<=9223372036854775807;omega)
  have ix:=ja (k:=3) (f:=jC) hi;rw [jo hi,jr3];generalize c[i]=l at *
  conv=>lhs;rw [jAS]
  cases hp:l.1 with
  | true=>
   have e1:G 54 [vb true]=some (vi 1,[]):=by rw [g54];simp only [jd]
   have a1:ck ((m:Int)+0)=some (vi (m:Nat)):=by rw [Int.add_zero];exact jG (by omega) (by omega)
   have a2:ck (m:Int)=some (vi (m:Nat)):=jG (by omega) (by omega);have a3:ck (1 - 1)=some (vi 0):=jG (n:=1 - 1) (by decide) (by decide);have ih:=ih m (by omega);rw [if_pos rfl,Nat.add_zero,<-ih];simp only [jd,hlt,ix,zN,hp,e1,a1,a2,a3,h5]
  | false=>
   have e1:G 54 [vb false]=some (vi 0,[]):=by rw [g54];simp only [jd]
   have a1:ck ((m:Int)+1)=some (vi ((m+1:Nat):Int)):=jG (by omega) (by omega);have a3:ck (1 - 0)=some (vi 1):=jG (n:=1 - 0) (by decide) (by decide);have ih:=ih (m+1) (by omega);rw [if_neg Bool.false_ne_true,show m+(jaT (c.drop (i+1))+1)=m+1+jaT (c.drop (i+1)) by omega,<-ih];simp only [jd,hlt,ix,zN,hp,e1,a1,a3,h5]
theorem jCg (c:jO) (hl:c.length<=1000) (es:A):∀i,i<=c.length-> ∀m:Nat,m<=i->jp4 es (vi (m:Nat)) (vi (i:Nat)) (.sl 3 (c.map jC)) []=jp4 es (vi ((m+jaT (c.drop i):Nat):Int)) (vi (c.length:Nat)) (.sl 3 (c.map jC)) []:=by
 refine upto ?_ ?_
 ·intro m _;rw [List.drop_length];rfl
 ·intro i hi ih m hm;have hlt:(i:Int) < ((c.length:Nat):Int):=by omega
  have h5:=jr hi (by show c.length<=9223372036854775807;omega)
  have ix:=ja (k:=3) (f:=jC) hi;have ld:∀l:Lt,kJ (.elt (jC l) 0)=some (vb l.1):=λl=>rfl;have ad:∀(l:Lt) (n:Nat),yJ (.elt (jC l) 0) n=some (.elt (jC l) n):=λl n=>by rw [yQ,Nat.zero_add]
  rw [jo hi,jr3];generalize c[i]=l at *
  conv=>lhs;rw [jAT]
  cases hp:l.1 with
  | true=>
   have ih:=ih m (by omega);rw [if_pos rfl,Nat.add_zero,<-ih];simp only [jd,hlt,ix,ad,ld,hp,h5]
  | false=>
   have a1:ck ((m:Int)+1)=some (vi ((m+1:Nat):Int)):=jG (by omega) (by omega);have ih:=ih (m+1) (by omega);rw [if_neg Bool.false_ne_true,show m+(jaT (c.drop (i+1))+1)=m+1+jaT (c.drop (i+1)) by omega,<-ih];simp only [jd,hlt,ix,ad,ld,hp,a1,h5]
noncomputable def jbK (e:jO):Bool:= !kj e || decide (0<=jaW e)
theorem jyF {e:jO} (h:jbK e=false):kj e=true/\ ∀l∈e,l.1=true:=by
 unfold jbK at h;rw [Bool.or_eq_false_iff] at h;refine ⟨by simpa using h.1,?_⟩;rcases jaX e 0 with ⟨_,h2⟩|⟨m,hm,h1,_⟩
 ·exact h2
 ·have h1:jaW e=((0+m:Nat):Int):=h1;have:=h.2;rw [h1] at this;exact absurd this (by simp)
theorem joR (c:jO) (hl:c.length<=1048576):G 57 [.sl 3 (c.map jC),.fn 58 []]=some (vb (decide (0<=jaW c)),[]):=by
 have e:=jke c hl;rw [g57];simp only [jd,e]
theorem jBM (e:jO) (hz:Cz e):G 56 [cm e]=some (vb (jbK e),[]):=by
 have e1:=Kn e hz.1 hz.2;have e2:=joR e hz.1;unfold jbK;rw [g56];cases hn:kj e<;>rw [hn] at e1
 ·simp only [jd,e1];rfl
 ·simp only [jd,e1,e2];rfl
theorem jnW (l:List jO) (hl:l.length<=1048576) (hz:∀x∈l,Cz x):G 55 [cls l,.fn 56 []]=some (vb (l.any jbK),[]):=by
 have key:=upto (n:=l.length) (P:=λi=>∃k:Int,jgm (cls l) (.fn 56 []) (vi (l.length:Nat)) (vi (i:Nat))=some (vi k,[])/\decide (0<=k)=(l.drop i).any jbK) ?_ ?_ 0 (Nat.zero_le _)
 ·simp only [Int.natCast_zero,List.drop_zero] at key;obtain ⟨k,k1,k2⟩:=key;have e2:G 106 [cls l,.fn 56 []]=some (vi k,[]):=by
   rw [jze];simp only [jd,k1]
  rw [g55,<-k2];simp only [jd,e2]
 ·refine ⟨-1,?_,?_⟩
  ·rw [jp9];simp only [jd]
  ·rw [List.drop_length];rfl
 ·intro i hi ⟨k,ih1,ih2⟩;have hlt:(i:Int) < ((l.length:Nat):Int):=by omega
  have h5:=jr hi (by show l.length<=9223372036854775807;omega)
  have x1:jq 1 (cls l) (vi (i:Nat))=some (.elt (Jx l[i]) 0):=ja hi;have hzi:=hz _ (List.getElem_mem hi);rw [jp9,jo hi,List.any_cons];generalize l[i]=y at *;have e:=jBM y hzi;have hp:K.pureF 56=true:=rfl;have cc:DX.run K (MM K) (.callc (.fn 56 []) [cm y] false)=some (vb (jbK y)):=by
   rw [yN hp,List.append_nil,e];rfl
  cases hn:jbK y<;>rw [hn] at cc
  ·refine ⟨k,?_,?_⟩
   ·simp only [jd,hlt,x1,ld1,cc,h5,ih1]
   ·rw [ih2,Bool.false_or]
  ·refine ⟨(i:Nat),?_,?_⟩
   ·simp only [jd,hlt,x1,ld1,cc]
   ·rw [decide_eq_true (by omega)];rfl
theorem jCV (es:List jO) (hl:es.length<=1000) (hz:∀x∈es,Cz x) (c:A):∀i,i<=es.length->jwQ (cls es) (vi (es.length:Nat)) (vi (i:Nat)) c []=if (es.drop i).any jbK then some (.tup [cz,vb false],[]) else jwQ (cls es) (vi (es.length:Nat)) (vi (es.length:Nat)) c []:=by
 refine upto ?_ ?_
 ·rw [List.drop_length,List.any_nil,if_neg Bool.false_ne_true]
 ·intro i hi ih;have hlt:(i:Int) < ((es.length:Nat):Int):=by omega
  have h5:=jr hi (by show es.length<=9223372036854775807;omega)
  have x1:jq 1 (cls es) (vi (i:Nat))=some (.elt (Jx es[i]) 0):=ja hi;have hzi:=hz _ (List.getElem_mem hi);have e1:=Z5 es[i] hzi.1 hzi.2;have e2:=jkM es[i] hzi.1;rw [jo hi,List.any_cons];generalize es[i]=y at *
  conv=>lhs;rw [jBY]
  cases hn:kj y<;>rw [hn] at e1
  ·have hb:jbK y=true:=by unfold jbK;rw [hn];rfl
   rw [hb,Bool.true_or,if_pos rfl];simp only [jd,hlt,x1,ld1,e1]
  ·by_cases hg:0<=jaW y
   ·have hb:jbK y=true:=by unfold jbK;rw [hn,decide_eq_true hg];rfl
    rw [hb,Bool.true_or,if_pos rfl];simp only [jd,hlt,x1,ld1,e1,e2,hg]
   ·have hb:jbK y=false:=by unfold jbK;rw [hn,decide_eq_false hg];rfl
    rw [hb,Bool.false_or,<-ih];simp only [jd,hlt,x1,ld1,e1,e2,hg,h5]
theorem jyH (es:List jO) (hl:es.length<=1000) (hg:∀e∈es,kj e=true/\ ∀l∈e,l.1=true):∀(j k:Nat),j+k=es.length-> ∀x:jO,kj x=true-> ∃r:Option jO,
  jyP (cls es) (vi (es.length:Nat)) (vi (k:Nat)) (.sl 3 (x.map jC)) []=qy r/\jy7 (cls es) (vi (es.length:Nat)) (vi (k:Nat)) (.sl 3 (x.map jC)) []=qy r/\ ∀y,r=some y->kj y=true/\Sd (x::es.drop k) y/\jaT y+j<=jaT x:=by
 intro j;induction j with
 | zero=>
  intro k hk x hx;have nlt:¬((k:Nat):Int) < ((es.length:Nat):Int):=by omega
  refine ⟨some x,?_,?_,λy h=> ?_⟩
  ·show _=some (A.tup [cm x,vb true],[]);rw [jBs];simp only [jd,nlt]
  ·show _=some (A.tup [cm x,vb true],[]);rw [jBt];simp only [jd,nlt]
  ·cases h;exact ⟨hx,λm t=>t _ List.mem_cons_self,Nat.le_refl _⟩
 | succ j ih=>
  intro k hk x hx;have hi:k < es.length:=by omega
  have hlt:(k:Int) < ((es.length:Nat):Int):=by omega
  have h5:=jr hi (by show es.length<=9223372036854775807;omega)
  have x1:jq 1 (cls es) (vi (k:Nat))=some (.elt (Jx es[k]) 0):=ja hi;obtain ⟨hn,hpos⟩:=hg _ (List.getElem_mem hi);rw [jo hi];have e0:=jke x (by have:=(qJ hx).1;omega);obtain ⟨r,e1,e2,hr⟩:=jA6 x es[k] hx hn;generalize es[k]=e at *;cases r with
  | none=>
   have e1:G 61 [cm x,vi (jaW x),cm e]=some (.tup [cz,vb false],[]):=e1;have e2:G 64 [cm x,cm e]=some (.tup [cz,vb false],[]):=e2;refine ⟨none,?_,?_,λy h=>by cases h⟩
   ·show _=some (A.tup [cz,vb false],[]);rw [jBs];simp only [jd,hlt,x1,ld1,e0,e1]
   ·show _=some (A.tup [cz,vb false],[]);rw [jBt];simp only [jd,hlt,x1,ld1,e2]
  | some z=>
   have e1:G 61 [cm x,vi (jaW x),cm e]=some (.tup [cm z,vb true],[]):=e1;have e2:G 64 [cm x,cm e]=some (.tup [cm z,vb true],[]):=e2;obtain ⟨⟨hz,hs⟩,hneg⟩:=hr z rfl;have hneg:=hneg hpos;obtain ⟨r,i1,i2,i3⟩:=ih (k+1) (by omega) z hz;refine ⟨r,?_,?_,λy h=> ?_⟩
   ·rw [<-i1,jBs];simp only [jd,hlt,x1,ld1,e0,e1,h5]
   ·rw [<-i2,jBt];simp only [jd,hlt,x1,ld1,e2,h5]
   ·obtain ⟨y1,y2,y3⟩:=i3 y h;refine ⟨y1,λm t=>y2 m λc hc=> ?_,by omega⟩;rcases List.mem_cons.1 hc with rfl|hc
    ·refine hs m λd hd=>t d ?_;simp only [List.mem_cons,List.not_mem_nil,or_false] at hd ⊢;rcases hd with rfl|rfl
     ·exact Or.inl rfl
     ·exact Or.inr (Or.inl rfl)
    ·exact t c (List.mem_cons_of_mem _ (List.mem_cons_of_mem _ hc))
theorem jBp (c:jO) (es:List jO) (hc:Cz c) (hl:es.length<=1000) (hz:∀e∈es,Cz e):∃r:Option jO,
  G 22 [cm c,cls es]=qy r/\G 23 [cm c,cls es]=qy r/\ ∀x,r=some x->CN c/\(∀e∈es,CN e)/\CN x/\Sd (c::es) x/\jaT x=0:=by
 have n1:=Kn c hc.1 hc.2;have m1:=Z5 c hc.1 hc.2;cases h1:kj c<;>rw [h1] at n1 m1
 ·refine ⟨none,?_,?_,λx h=>by cases h⟩
  ·show _=some (A.tup [cz,vb false],[]);rw [g22];simp only [jd,n1]
  ·show _=some (A.tup [cz,vb false],[]);rw [g23];simp only [jd,m1]
 by_cases h4:(4:Int) < ((es.length:Nat):Int)
 ·refine ⟨none,?_,?_,λx h=>by cases h⟩
  ·show _=some (A.tup [cz,vb false],[]);rw [g22];simp only [jd,n1,h4]
  ·show _=some (A.tup [cz,vb false],[]);rw [g23];simp only [jd,m1,h4]
 have cc:=qJ h1;have hcl:=cc.1;have c1:=jCe c (by omega) (cls es) 0 (Nat.zero_le _) 0 (Nat.le_refl _);have c2:=jCg c (by omega) (cls es) 0 (Nat.zero_le _) 0 (Nat.le_refl _);simp only [Int.natCast_zero,List.drop_zero,Nat.zero_add] at c1 c2;have hnl:=jBO c;have nlt:¬((c.length:Nat):Int) < ((c.length:Nat):Int):=by omega
 by_cases hn:jaT c=es.length
 ·have b1:=jnW es (by omega) hz;have b2:=jCV es hl hz (.sl 3 (c.map jC)) 0 (Nat.zero_le _);simp only [Int.natCast_zero,List.drop_zero] at b2;cases hb:es.any jbK with
  | true=>
   rw [hb] at b1 b2;rw [if_pos rfl] at b2;refine ⟨none,?_,?_,λx h=>by cases h⟩
   ·show _=some (A.tup [cz,vb false],[]);rw [g22];simp only [jd,n1,h4];rw [c1,hn,jAS];simp only [jd,nlt,b1]
   ·show _=some (A.tup [cz,vb false],[]);rw [g23];simp only [jd,m1,h4];rw [c2,hn,jAT];simp only [jd,nlt,b2]
  | false=>
   rw [hb] at b1 b2;rw [if_neg Bool.false_ne_true] at b2;have hg:∀e∈es,kj e=true/\ ∀l∈e,l.1=true:=λe he=>jyF (by
    cases h:jbK e with
    | false=>rfl
    | true=>rw [List.any_eq_true.2 ⟨e,he,h⟩] at hb;cases hb)
   obtain ⟨r,e1,e2,hr⟩:=jyH es hl hg es.length 0 rfl c h1;simp only [Int.natCast_zero,List.drop_zero] at e1 e2 hr;have o1:=jeU c (by omega) cc.tz;have o2:=jBv c (by omega) cc.tz;have nle:¬((es.length:Nat):Int) < ((es.length:Nat):Int):=by omega
   refine ⟨r,?_,?_,λx h=> ?_⟩
   ·rw [<-e1,g22];simp only [jd,n1,h4];rw [c1,hn,jAS];simp only [jd,nlt,b1,o1]
   ·rw [<-e2,g23];simp only [jd,m1,h4];rw [c2,hn,jAT];simp only [jd,nlt,b2];rw [jBY];simp only [jd,nle,o2]
   ·obtain ⟨y1,y2,y3⟩:=hr x h;exact ⟨cc,λe he=>qJ (hg e he).1,qJ y1,y2,by omega⟩
 ·have hne:¬((jaT c:Nat):Int)=((es.length:Nat):Int):=by omega
  refine ⟨none,?_,?_,λx h=>by cases h⟩
  ·show _=some (A.tup [cz,vb false],[]);rw [g22];simp only [jd,n1,h4];rw [c1,jAS];simp only [jd,nlt,hne]
  ·show _=some (A.tup [cz,vb false],[]);rw [g23];simp only [jd,m1,h4];rw [c2,jAT];simp only [jd,nlt,hne]
def jx4 (o:Option (Nat × Nat)):Option Out:=match o with|some p=>some (.tup [vi (p.1:Nat),vi (p.2:Nat),vb true],[])|none=>some (.tup [vi 0,vi 0,vb false],[])
theorem jBB {c d x:jO} {u:ju} {m n:Nat} (hc:c.length=1) (hd:d.length=1) (hm:m < c.length) (hn:n < d.length) (hx:Yp u (c.eraseIdx m++(jW d).eraseIdx n)=some x):x = []:=by
 have h1:=(jyt hx).2;have ha:(jW d).length=d.length:=by unfold jW;rw [List.length_map]
 rw [List.length_append,List.length_eraseIdx_of_lt hm,List.length_eraseIdx_of_lt (by omega)] at h1;exact List.length_eq_zero_iff.1 (by omega)
theorem jBA (c d:jO) (hc:kj c=true) (hd:kj d=true) (lc:c.length=1) (ld:d.length=1):∃b:Bool,G 41 [cm c,vi 0,cm d,vi 0]=some (.tup [.agg [.sl 3 []],vb b],[])/\G 69 [cm c,vi 0,cm d,vi 0]=some (.tup [.agg [.sl 3 []],vb b],[])/\(b=true->Sd [c,d] []):=by
 obtain ⟨r,e1,e2,hr⟩:=jmB c d hc hd 0 0;cases r with
 | none=>exact ⟨false,e1,e2,λh=>by cases h⟩
 | some x=>
  obtain ⟨⟨_,hs⟩,u,m,n,_,hm,hn,hx⟩:=hr x rfl;have:=jBB lc ld hm hn hx;subst this;exact ⟨true,e1,e2,λ_=>hs⟩
theorem jBP (e:jO) (hz:Cz e):G 68 [cm e]=some (vb (!kj e),[]):=by
 have e1:=Kn e hz.1 hz.2;rw [g68];simp only [jd,e1]
theorem joV (l:List jO) (hl:l.length<=1048576) (hz:∀x∈l,Cz x):G 55 [cls l,.fn 68 []]=some (vb (l.any λe=> !kj e),[]):=by
 have key:=upto (n:=l.length) (P:=λi=>∃k:Int,jgm (cls l) (.fn 68 []) (vi (l.length:Nat)) (vi (i:Nat))=some (vi k,[])/\decide (0<=k)=(l.drop i).any λe=> !kj e) ?_ ?_ 0 (Nat.zero_le _)
 ·simp only [Int.natCast_zero,List.drop_zero] at key;obtain ⟨k,k1,k2⟩:=key;have e2:G 106 [cls l,.fn 68 []]=some (vi k,[]):=by
   rw [jze];simp only [jd,k1]
  rw [g55,<-k2];simp only [jd,e2]
 ·refine ⟨-1,?_,?_⟩
  ·rw [jp9];simp only [jd]
  ·rw [List.drop_length];rfl
 ·intro i hi ⟨k,ih1,ih2⟩;have hlt:(i:Int) < ((l.length:Nat):Int):=by omega
  have h5:=jr hi (by show l.length<=9223372036854775807;omega)
  have x1:jq 1 (cls l) (vi (i:Nat))=some (.elt (Jx l[i]) 0):=ja hi;have hzi:=hz _ (List.getElem_mem hi);rw [jp9,jo hi,List.any_cons];generalize l[i]=y at *;have e:=jBP y hzi;have hp:K.pureF 68=true:=rfl;have cc:DX.run K (MM K) (.callc (.fn 68 []) [cm y] false)=some (vb (!kj y)):=by
   rw [yN hp,List.append_nil,e];rfl
  cases hn:(!kj y)<;>rw [hn] at cc
  ·refine ⟨k,?_,?_⟩
   ·simp only [jd,hlt,x1,ld1,cc,h5,ih1]
   ·rw [ih2,Bool.false_or]
  ·refine ⟨(i:Nat),?_,?_⟩
   ·simp only [jd,hlt,x1,ld1,cc]
   ·rw [decide_eq_true (by omega)];rfl
theorem jCi (es:List jO) (hl:es.length<=1000) (hz:∀x∈es,Cz x):∀i,i<=es.length->jza (cls es) (vi (i:Nat))=if (es.drop i).any (λe=> !kj e) then some (.tup [vi 0,vi 0,vb false],[]) else jqU (cls es) (vi 0):=by
 refine upto ?_ ?_
 ·have nlt:¬((es.length:Nat):Int) < ((es.length:Nat):Int):=by omega
  rw [List.drop_length,List.any_nil,if_neg Bool.false_ne_true,jB0];simp only [jd,nlt]
 ·intro i hi ih;have hlt:(i:Int) < ((es.length:Nat):Int):=by omega
  have h5:=jr hi (by show es.length<=9223372036854775807;omega)
  have x1:jq 1 (cls es) (vi (i:Nat))=some (.elt (Jx es[i]) 0):=ja hi;have hzi:=hz _ (List.getElem_mem hi);have e1:=Z5 es[i] hzi.1 hzi.2;rw [jo hi,List.any_cons];generalize es[i]=y at *;rw [jB0];cases hn:kj y<;>rw [hn] at e1
  ·rw [show ((!false) || (es.drop (i+1)).any λe=> !kj e)=true from rfl,if_pos rfl];simp only [jd,hlt,x1,ld1,e1]
  ·rw [show ((!true) || (es.drop (i+1)).any λe=> !kj e)=(es.drop (i+1)).any λe=> !kj e from rfl,<-ih];simp only [jd,hlt,x1,ld1,e1,h5]
def jyO (es:List jO) (r:Option (Nat × Nat)):Prop:=∀p,r=some p->p.1 < p.2/\ ∃(h1:p.1 < es.length) (h2:p.2 < es.length),Sd [es[p.1],es[p.2]] []
theorem jyM (es:List jO) (hl:es.length<=1000) (hn:∀e∈es,kj e=true) (i:Nat) (hi:i < es.length) (X:Option (Nat × Nat)) (hX1:jwS (cls es) (cls es) (vi (es.length:Nat)) (vi ((i+1:Nat):Int))=jx4 X) (hX2:jqU (cls es) (vi ((i+1:Nat):Int))=jx4 X) (hg:jyO es X):∀(j k:Nat),j+k=es.length->i < k-> ∃r,jwT (cls es) (vi (i:Nat)) (vi (k:Nat)) (cls es) (vi (es.length:Nat)) (vi (i:Nat)) (.sl 3 (es[i].map jC))=jx4 r/\jwU (cls es) (vi (i:Nat)) (vi (k:Nat))=jx4 r/\jyO es r:=by
 have a5:=jr hi (by show es.length<=9223372036854775807;omega)
 intro j;induction j with
 | zero=>
  intro k hk _;have nlt:¬((k:Nat):Int) < ((es.length:Nat):Int):=by omega
  refine ⟨X,?_,?_,hg⟩
  ·rw [<-hX1,jwY];simp only [jd,nlt,a5]
  ·rw [<-hX2,jxA];simp only [jd,nlt,a5]
 | succ j ih=>
  intro k hk hik;have hk2:k < es.length:=by omega
  have hlt:(k:Int) < ((es.length:Nat):Int):=by omega
  have h5:=jr hk2 (by show es.length<=9223372036854775807;omega)
  have x1:jq 1 (cls es) (vi (k:Nat))=some (.elt (Jx es[k]) 0):=ja hk2;have x2:jq 1 (cls es) (vi (i:Nat))=some (.elt (Jx es[i]) 0):=ja hi;have ad:∀y:jO,yJ (.elt (Jx y) 0) 0=some (.elt (Jx y) 0):=λy=>by rw [yQ,Nat.zero_add]
  have ldp:∀y:jO,kJ (.elt (Jx y) 0)=some (.sl 3 (y.map jC)):=λy=>rfl;obtain ⟨r,i1,i2,i3⟩:=ih (k+1) (by omega) (by omega);have n1:=hn _ (List.getElem_mem hi);have n2:=hn _ (List.getElem_mem hk2);by_cases l1:es[i].length=1
  ·have l1':((es[i].length:Nat):Int)=1:=by omega
   by_cases l2:es[k].length=1
   ·have l2':((es[k].length:Nat):Int)=1:=by omega
    obtain ⟨b,e1,e2,hs⟩:=jBA es[i] es[k] n1 n2 l1 l2;cases b with
    | true=>
     refine ⟨some (i,k),?_,?_,λp hp=> ?_⟩
     ·show _=some (A.tup [vi (i:Nat),vi (k:Nat),vb true],[]);generalize es[i]=c at *;generalize es[k]=d at *;rw [jwY];simp only [jd,hlt,x1,ld1,ad,ldp,l1',l2',e1];exact if_pos rfl
     ·show _=some (A.tup [vi (i:Nat),vi (k:Nat),vb true],[]);generalize es[i]=c at *;generalize es[k]=d at *;rw [jxA];simp only [jd,hlt,x1,x2,ld1,ad,ldp,l1',l2',e2]
     ·cases hp;exact ⟨hik,hi,hk2,hs rfl⟩
    | false=>
     refine ⟨r,?_,?_,i3⟩
     ·rw [<-i1];generalize es[i]=c at *;generalize es[k]=d at *
      conv=>lhs;rw [jwY]
      simp only [jd,hlt,x1,ld1,ad,ldp,l1',l2',e1,h5]
     ·rw [<-i2];generalize es[i]=c at *;generalize es[k]=d at *
      conv=>lhs;rw [jxA]
      simp only [jd,hlt,x1,x2,ld1,ad,ldp,l1',l2',e2,h5]
   ·have l2':¬((es[k].length:Nat):Int)=1:=by omega
    refine ⟨r,?_,?_,i3⟩
    ·rw [<-i1];generalize es[i]=c at *;generalize es[k]=d at *
     conv=>lhs;rw [jwY]
     simp only [jd,hlt,x1,ld1,ad,ldp,l1',l2',h5]
    ·rw [<-i2];generalize es[i]=c at *;generalize es[k]=d at *
     conv=>lhs;rw [jxA]
     simp only [jd,hlt,x1,x2,ld1,ad,ldp,l1',l2',h5]
  ·have l1':¬((es[i].length:Nat):Int)=1:=by omega
   refine ⟨r,?_,?_,i3⟩
   ·rw [<-i1];generalize es[i]=c at *;generalize es[k]=d at *
    conv=>lhs;rw [jwY]
    simp only [jd,hlt,x1,ld1,ad,ldp,l1',h5]
   ·rw [<-i2];generalize es[i]=c at *;generalize es[k]=d at *
    conv=>lhs;rw [jxA]
    simp only [jd,hlt,x1,x2,ld1,ad,ldp,l1',h5]
theorem jyN (es:List jO) (hl:es.length<=1000) (hn:∀e∈es,kj e=true):∀(j i:Nat),j+i=es.length-> ∃r,jwS (cls es) (cls es) (vi (es.length:Nat)) (vi (i:Nat))=jx4 r/\jqU (cls es) (vi (i:Nat))=jx4 r/\jyO es r:=by
 intro j;induction j with
 | zero=>
  intro i hi;have nlt:¬((i:Nat):Int) < ((es.length:Nat):Int):=by omega
  refine ⟨none,?_,?_,λp h=>by cases h⟩
  ·show _=some (A.tup [vi 0,vi 0,vb false],[]);rw [jBZ];simp only [jd,nlt]
  ·show _=some (A.tup [vi 0,vi 0,vb false],[]);rw [jB1];simp only [jd,nlt]
 | succ j ih=>
  intro i hij;have hi:i < es.length:=by omega
  have hlt:(i:Int) < ((es.length:Nat):Int):=by omega
  have h5:=jr hi (by show es.length<=9223372036854775807;omega)
  have x2:jq 1 (cls es) (vi (i:Nat))=some (.elt (Jx es[i]) 0):=ja hi;obtain ⟨X,X1,X2,X3⟩:=ih (i+1) (by omega);obtain ⟨r,r1,r2,r3⟩:=jyM es hl hn i hi X X1 X2 X3 j (i+1) (by omega) (by omega);refine ⟨r,?_,?_,r3⟩
  ·rw [<-r1,jBZ];generalize es[i]=c at *;simp only [jd,hlt,x2,ld1,h5]
  ·rw [<-r2,jB1];simp only [jd,hlt,h5]
theorem jBR (es:List jO) (hl:es.length<=1000) (hz:∀e∈es,Cz e):∃r,G 25 [cls es]=jx4 r/\G 26 [cls es]=jx4 r/\jyO es r/\(∀p,r=some p-> ∀e∈es,CN e):=by
 by_cases h4:(30:Int) < ((es.length:Nat):Int)
 ·refine ⟨none,?_,?_,λp h=>(by cases h),λp h=>by cases h⟩
  ·show _=some (A.tup [vi 0,vi 0,vb false],[]);rw [g25];simp only [jd,h4]
  ·show _=some (A.tup [vi 0,vi 0,vb false],[]);rw [g26];simp only [jd,h4]
 have b1:=joV es (by omega) hz;have b2:=jCi es hl hz 0 (Nat.zero_le _);simp only [Int.natCast_zero,List.drop_zero] at b2;cases hb:es.any (λe=> !kj e) with
 | true=>
  rw [hb] at b1 b2;rw [if_pos rfl] at b2;refine ⟨none,?_,?_,λp h=>(by cases h),λp h=>by cases h⟩
  ·show _=some (A.tup [vi 0,vi 0,vb false],[]);rw [g25];simp only [jd,h4,b1]
  ·show _=some (A.tup [vi 0,vi 0,vb false],[]);rw [g26];simp only [jd,h4,b2]
 | false=>
  rw [hb] at b1 b2;rw [if_neg Bool.false_ne_true] at b2;have hn:∀e∈es,kj e=true:=λe he=>by
   cases h:kj e with
   | true=>rfl
   | false=>rw [List.any_eq_true.2 ⟨e,he,by rw [h];rfl⟩] at hb;cases hb
  obtain ⟨r,r1,r2,r3⟩:=jyN es hl hn es.length 0 rfl;simp only [Int.natCast_zero] at r1 r2;refine ⟨r,?_,?_,r3,λp _ e he=>qJ (hn e he)⟩
  ·rw [<-r1,g25];simp only [jd,h4,b1]
  ·rw [<-r2,<-b2,g26];simp only [jd,h4]
mutual
def rzt:T->Nat
 | .mk n us=>if jk n then 7 else n.length+us.length+jum us
def jum:List T->Nat
 | []=>0
 | t::ts=>rzt t+jum ts
end
theorem jne (f:List UInt8->List UInt8) (ts:List T):(Jp f ts).length=ts.length:=by rw [jjy,List.length_map]
mutual
theorem jBy {f:List UInt8->List UInt8} (hf:∀n,jk n=true->(f n).length<=7):∀t:T,rzt (kg f t)<=rzt t
 | .mk n us=>by
  rw [kg];cases hv:jk n with
  | true=>
   have:=hf n hv;rw [if_pos rfl,rzt,rzt,hv,if_pos rfl];split
   ·omega
   ·show (f n).length+0+0<=7;omega
  | false=>
   have:=jAY hf us;rw [if_neg Bool.false_ne_true,rzt,rzt,hv,if_neg Bool.false_ne_true,if_neg Bool.false_ne_true,jne];omega
theorem jAY {f:List UInt8->List UInt8} (hf:∀n,jk n=true->(f n).length<=7):∀ts:List T,jum (Jp f ts)<=jum ts
 | []=>Nat.le_refl _
 | t::ts=>by have:=jBy hf t;have:=jAY hf ts;simp only [Jp,jum];omega
end
mutual
theorem jyp {f:List UInt8->List UInt8} (hf:∀n,jk n=true->(f n).length<=7):∀t:T,tsz (kg f t)<=rzt t
 | .mk n us=>by
  rw [kg];cases hv:jk n with
  | true=>
   have:=hf n hv;rw [if_pos rfl,rzt,hv,if_pos rfl];show (f n).length+0+0<=7;omega
  | false=>
   have:=jr7 hf us;rw [if_neg Bool.false_ne_true,rzt,hv,if_neg Bool.false_ne_true,tsz,jne];omega
theorem jr7 {f:List UInt8->List UInt8} (hf:∀n,jk n=true->(f n).length<=7):∀ts:List T,yf (Jp f ts)<=jum ts
 | []=>Nat.le_refl _
 | t::ts=>by have:=jyp hf t;have:=jr7 hf ts;simp only [Jp,jum,yf];omega
end
theorem jBC {n:List UInt8} (h:jk n=true):1<=n.length:=by
 cases n with
 | nil=>exact absurd h (by decide)
 | cons a l=>simp
mutual
theorem jBz:∀t:T,rzt t<=4 * tsz t+3
 | .mk n us=>by
  rw [rzt,tsz];cases hv:jk n with
  | true=>have:=jBC hv;rw [if_pos rfl];omega
  | false=>have:=jAZ us;rw [if_neg Bool.false_ne_true];omega
theorem jAZ:∀ts:List T,jum ts<=4 * yf ts+3 * ts.length
 | []=>Nat.le_refl _
 | t::ts=>by have:=jBz t;have:=jAZ ts;simp only [jum,yf,List.length_cons];omega
end
def CB (c:jO):Prop:=c.length<=2/\ ∀l∈c,Tz l.2/\rzt l.2<=800000/\nodes l.2<=200000
theorem CB.of {c:jO} (h1:c.length<=2) (h2:∀l∈c,tsz l.2<=195000):CB c:=⟨h1,λl hl=>by
 have h:=h2 l hl;have:=jBz l.2;have:=Yc l.2;unfold Tz;exact ⟨by omega,by omega,by omega⟩⟩
theorem CB.len {c:jO} (h:CB c):(j8 c).length<=400000:=by
 have:∀(c:jO) (l:List (List UInt8)),(∀y∈c,nodes y.2<=200000)->(c.foldl (λl x=>Jn l x.2) l).length<=l.length+200000 * c.length:=by
  intro c;induction c with
  | nil=>intro l _;exact Nat.le_refl _
  | cons x c ih=>
   intro l hc;have h1:=ih (Jn l x.2) (λy hy=>hc y (List.mem_cons_of_mem _ hy));have h2:=jaA x.2 l;have h3:=hc x List.mem_cons_self;rw [List.foldl_cons,List.length_cons];omega
 have h1:=this c [] (λy hy=>(h.2 y hy).2.2);have h2:=h.1;have h3:(j8 c).length<=0+200000 * c.length:=h1;omega
theorem jr2 {ns:List (List UInt8)} (hn:ns.length<=900000) (n:List UInt8) (hv:jk n=true):(ku 88 ns n).length<=7:=by
 unfold ku;split
 ·rename_i i hi;have h1:=(List.findIdx?_eq_some_iff_getElem.1 hi).1;have h2:=(yw 5 i (by omega)).2;unfold yP;rw [List.length_cons];omega
 ·have:=jeL hv;omega
theorem CB.ren {c:jO} (h:CB c) {ns:List (List UInt8)} (hn:ns.length<=900000):∀x∈c.map (λl=>(l.1,kg (ku 88 ns) l.2)),Tz x.2/\rzt x.2<=800000/\nodes x.2<=200000:=by
 intro x hx;obtain ⟨l,hl,rfl⟩:=List.mem_map.1 hx;obtain ⟨h1,h2,h3⟩:=h.2 l hl;have a1:=jBy (jr2 hn) l.2;have a2:=jyp (jr2 hn) l.2;have a3:=jfQ (ku 88 ns) l.2;refine ⟨?_,?_,?_⟩
 ·show tsz (kg _ _)<=1048576;omega
 ·show rzt (kg _ _)<=_;omega
 ·show nodes (kg _ _)<=_;omega
theorem CB.renC {c:jO} (h:CB c):CB (renC 88 c):=by
 have:=K0 cmpL (c.map λl=>(l.1,kg (ku 88 (j8 c)) l.2));rw [List.length_map] at this;have h1:=h.1;exact ⟨by unfold Go.Proofs.YtdbgbieenhcldaaGreatDoor.renC;omega,λl hl=>h.ren (by have:=h.len;omega) l (JL.1 hl)⟩
theorem jks (c:jO) (h:CB c):G 80 [cm c]=some (strs (j8 c),[]):=by
 have hl:=h.1;have key:=upto (P:=λi=>∀l:List (List UInt8),l.length<=200000 * i->jh2 (vi (i:Nat)) (.sl 3 (c.map jC)) (l.map cs)=some (.sl 1 (((c.drop i).foldl (λl x=>Jn l x.2) l).map cs),[])) (n:=c.length) ?_ ?_ 0 (Nat.zero_le _)
 ·have key:=key [] (by simp);rw [List.drop_zero] at key;have key:jh2 (vi 0) (.sl 3 (c.map jC)) []=some (.sl 1 ((j8 c).map cs),[]):=key;rw [g80];simp only [jd,key]
 ·intro l _;rw [juS,List.drop_length];simp only [jd];rfl
 ·intro i hi ih l hll;have hlt:(i:Int) < ((c.length:Nat):Int):=by omega
  have h5:=jr hi (by show c.length<=9223372036854775807;omega)
  have ix:=ja (k:=3) (f:=jC) hi;have ad:yJ (.elt (jC c[i]) 0) 1=some (.elt (jC c[i]) 1):=rfl;have ld:jZ 2 (.elt (jC c[i]) 1)=some (tm c[i].2):=rfl;obtain ⟨z1,z2,hn⟩:=h.2 _ (List.getElem_mem hi);have q:=jk6 c[i].2 z1 l (by omega);have hol:=jaA c[i].2 l;have q2:=ih (Jn l c[i].2) (by omega);rw [juS,jo hi,List.foldl_cons];generalize Jn l c[i].2=l' at *;have hr:hR 1 (A.top,[.sl 1 (l'.map cs)]) 0=some (l'.map cs):=rfl;simp only [jd,hlt,ix,ad,ld,q,hr,h5,q2]
theorem joS (c:jO) (h:CB c):G 78 [cm c]=some (vb (qm c),[]):=by
 have hlen:=h.len;have e0:=jks c h;rw [jdC,g78];generalize j8 c=ns at *;have key:=upto (P:=λi=>jl5 (strs ns) (vi (i:Nat))=some (vb (Yd i (ns.drop i)),[])) (n:=ns.length) ?_ ?_ 0 (Nat.zero_le _)
 ·simp only [Int.natCast_zero,List.drop_zero] at key;simp only [jd,e0,key]
 ·rw [juQ,List.drop_length];simp only [jd,Yd]
 ·intro i hi ih;have hlt:(i:Int) < ((ns.length:Nat):Int):=by omega
  have h5:=jr hi (by show ns.length<=9223372036854775807;omega)
  have e1:=jdM i (by omega);have e2:=jx2 i (by omega);have ld:kJ (.elt (cs ns[i]) 0)=some (sv ns[i]):=rfl;rw [juQ,jo hi,Yd];by_cases hc:ns[i]=yP 88 i
  ·rw [decide_eq_true hc,Bool.true_and,<-ih];simp only [jd,hlt,ja hi,ld,e1,e2,hc,h5]
  ·rw [decide_eq_false hc,Bool.false_and];simp only [jd,hlt,ja hi,ld,e1,e2,hc]
theorem juf (p:UInt8) (ns:List (List UInt8)) (hn:ns.length<=900000):∀t:T,Tz t->G 127 [tm t,strs ns,sv [p]]=some (tm (kg (ku p ns) t),[]):=by
 refine T.ind λt ih ht=> ?_;have hz:=ht;unfold Tz at hz;rw [kO] at hz;have e0:=zt t.name (((kV t).1 ht.wf).1);rw [jzs,Kv];cases hv:jk t.name<;>rw [hv] at e0
 ·rw [if_neg Bool.false_ne_true];have key:=(upto (P:=λi=>jgq (strs ns) (sv [p]) (vi i) (sv t.name) (jY t.args) (sv []) (sv t.name) [] (((t.args.map (kg (ku p ns))).take i).map jz)=some (tm (.mk t.name (t.args.map (kg (ku p ns)))),[])) (n:=t.args.length) ?_ ?_ 0 (Nat.zero_le _))
  ·simp only [Int.natCast_zero,List.take_zero,List.map_nil] at key;simp only [jd,e0,key]
  ·rw [jqg,List.take_of_length_le (by rw [List.length_map];omega)]
   simp only [jd];rfl
  ·intro i hi ih';have hlt:(i:Int) < ((t.args.length:Nat):Int):=by omega
   have h5:=jr hi (by show t.args.length<=9223372036854775807;omega)
   have e2:=ih t.args[i] (List.getElem_mem _) (ht.args _ (List.getElem_mem _));have hf:jB (i+1) 40=true:=jlf (by omega);have hi2:i < (t.args.map (kg (ku p ns))).length:=by rw [List.length_map];exact hi
   have hl:(((t.args.map (kg (ku p ns))).take i).map jz).length=i:=by rw [List.length_map,List.length_take,List.length_map];omega
   have ha:jL (((t.args.map (kg (ku p ns))).take i).map jz) [[sv (kg (ku p ns) t.args[i]).name,jY (kg (ku p ns) t.args[i]).args]]=((t.args.map (kg (ku p ns))).take (i+1)).map jz:=by
    rw [show [sv (kg (ku p ns) t.args[i]).name,jY (kg (ku p ns) t.args[i]).args]=jz (kg (ku p ns) t.args[i]) from (kK _).symm,List.take_add_one,List.getElem?_eq_getElem hi2,List.map_append,List.getElem_map];rfl
   generalize ((t.args.map (kg (ku p ns))).take i).map jz=R at *;generalize kg (ku p ns) t.args[i]=u at *;rw [jqg];simp only [jd,hlt,ja hi,jl,e2,hl,hf,ha,h5,ih']
 ·rw [if_pos rfl];have key:=(upto (P:=λi=>(∀j,(h:j < i)-> ∀h':j < ns.length,ns[j]≠t.name)->jgp (strs ns) (sv [p]) (vi i) (sv t.name) (jY t.args) (sv []) []=some (tm (.mk (ku p ns t.name) []),[])) (n:=ns.length) ?_ ?_ 0 (Nat.zero_le _)) (λj h=>by omega)
  ·simp only [Int.natCast_zero] at key;simp only [jd,e0,key]
  ·intro hall;have:ku p ns t.name=t.name:=by
    unfold ku;have:ns.findIdx? (λx=>decide (x=t.name))=none:=by
     rw [List.findIdx?_eq_none_iff];intro x hx;obtain ⟨j,hj,rfl⟩:=List.mem_iff_getElem.1 hx;simpa using hall j hj hj
    rw [this]
   rw [jqf,this];simp only [jd];rfl
  ·intro i hi ih' hall;have hlt:(i:Int) < ((ns.length:Nat):Int):=by omega
   have h5:=jr hi (by show ns.length<=9223372036854775807;omega)
   have ld:kJ (.elt (cs ns[i]) 0)=some (sv ns[i]):=rfl;rw [jqf];by_cases he:ns[i]=t.name
   ·have e1:=jdM i (by omega);have e2:=jwj p i (by omega);have:ku p ns t.name=yP p i:=by
     unfold ku;have:ns.findIdx? (λx=>decide (x=t.name))=some i:=by
      rw [List.findIdx?_eq_some_iff_getElem];exact ⟨hi,by simp [he],λj hj=>by simpa using hall j hj (by omega)⟩
     rw [this]
    rw [this];simp only [jd,hlt,ja hi,ld,he,e1,e2];rfl
   ·have ih':=ih' λj hj hj'=>by
     by_cases h:j=i
     ·subst h;exact he
     ·exact hall j (by omega) hj'
    simp only [jd,hlt,ja hi,ld,he,h5,ih']
theorem joX (p:UInt8) (c:jO) (h:CB c) (ns:List (List UInt8)) (hl:ns.length<=900000) (hr:∀x∈c.map (λl=>(l.1,kg (ku p ns) l.2)),Tz x.2):G 79 [cm c,strs ns,sv [p]]=some (cm (zo cmpL (c.map λl=>(l.1,kg (ku p ns) l.2))),[]):=by
 have h8:=h.1;have e3:=YQ (c.map λl=>(l.1,kg (ku p ns) l.2)) (by rw [List.length_map];omega) (λx hx=>hr x hx);generalize hd:c.map (λl=>(l.1,kg (ku p ns) l.2))=d at *;have hdl:d.length=c.length:=by rw [<-hd,List.length_map]
 have key:=upto (P:=λi=>jl6 (strs ns) (sv [p]) (vi (i:Nat)) (.sl 3 (c.map jC)) ((d.take i).map jC) []=some (cm (zo cmpL d),[])) (n:=c.length) ?_ ?_ 0 (Nat.zero_le _)
 ·simp only [Int.natCast_zero,List.take_zero,List.map_nil] at key;rw [g79];simp only [jd,key]
 ·rw [juR,<-hdl,List.take_length];have hlt:¬((d.length:Nat):Int) < ((c.length:Nat):Int):=by omega
  simp only [jd,hlt,e3]
 ·intro i hi ih;have hi2:i < d.length:=by omega
  have hlt:(i:Int) < ((c.length:Nat):Int):=by omega
  have h5:=jr hi (by show c.length<=9223372036854775807;omega)
  have e1:=juf p ns hl c[i].2 (h.2 _ (List.getElem_mem _)).1;have hdi:d[i]=(c[i].1,kg (ku p ns) c[i].2):=by simp only [<-hd,List.getElem_map]
  have ta:=K7 (f:=jC) hi2;have tl:=take_len (f:=jC) (Nat.le_of_lt hi2);have hf:jB (i+1) 48=true:=J0 (by omega);have ld:∀l:Lt,kJ (.elt (jC l) 0)=some (vb l.1):=λl=>rfl;have ad:∀(l:Lt) (n:Nat),yJ (.elt (jC l) 0) n=some (.elt (jC l) n):=λl n=>by rw [yQ,Nat.zero_add]
  have ld2:∀l:Lt,jZ 2 (.elt (jC l) 1)=some (tm l.2):=λl=>rfl;rw [hdi] at ta;generalize (d.take i).map jC=R at *;generalize kg (ku p ns) c[i].2=u at *;rw [juR];simp only [jd,hlt,ja hi,ad,ld,ld2,e1];generalize hB:j7 _ _ _=B;have hB':B=some (ltm (c[i].1,u)):=by rw [<-hB];kernel_rfl
  rw [hB'];have hck:ck ((i:Int)+1)=some (vi ((i+1:Nat):Int)):=jG (by omega) (by omega);simp only [jd,tl,hf,ta,hck,ih]
theorem jkZ:∀(k i:Nat),k+i=10-> ∀c:jO,CB c-> ∃(c':jO) (b:Bool),CB c'/\jlU (vi (i:Nat)) (.sl 3 (c.map jC)) []=some (.tup [cm c',vb b],[])
 | 0,i,hk,c,h=>by
  have hi:((i:Nat):Int)=10:=by omega
  have e0:=KY c (by have:=h.1;omega) (λl hl=>(h.2 l hl).1)
  refine ⟨c,zs c,h,?_⟩;rw [juy,hi];simp only [jd,e0]
 | k+1,i,hk,c,h=>by
  have hlt:((i:Nat):Int) < 10:=by omega
  have e0:=KY c (by have:=h.1;omega) (λl hl=>(h.2 l hl).1)
  have e1:=joS c h;cases hn:qm c<;>rw [hn] at e1
  ·have hl:=h.len;have e2:=jks c h;have e4:=joX 88 c h (j8 c) (by omega) (λx hx=>(h.ren (by omega) x hx).1);have hck:ck ((i:Int)+1)=some (vi ((i+1:Nat):Int)):=jG (by omega) (by omega);obtain ⟨c',b,hc',ih⟩:=jkZ k (i+1) (by omega) (renC 88 c) h.renC;have e4:G 79 [cm c,strs (j8 c),sv [88]]=some (cm (renC 88 c),[]):=e4;refine ⟨c',b,hc',?_⟩;rw [juy];simp only [jd,hlt,e1,e2,e4,hck,ih]
  ·refine ⟨c,zs c,h,?_⟩;rw [juy];simp only [jd,hlt,e1,e0]
theorem jug (c:jO) (h:CB c) (ha:Asc cmpL c):∃(c':jO) (b:Bool),CB c'/\G 32 [cm c]=some (.tup [cm c',vb b],[]):=by
 have e1:=YQ c (by have:=h.1;omega) (λl hl=>(h.2 l hl).1)
 rw [jiW ha] at e1;obtain ⟨c',b,hc',e2⟩:=jkZ 10 0 rfl c h;simp only [Int.natCast_zero] at e2;refine ⟨c',b,hc',?_⟩;rw [g32];simp only [jd,e1,e2]
 try rfl
theorem jCb (ls:List Lt) (h1:ls.length<=2) (h2:∀l∈ls,tsz l.2<=195000):∃(e e':jO) (b:Bool),G 53 [.sl 3 (ls.map jC)]=some (cm e,[])/\G 32 [cm e]=some (.tup [cm e',vb b],[])/\Cz e':=by
 have e1:=YQ ls (by omega) (λl hl=>by have:=h2 l hl;unfold Tz;omega)
 have hm:=K0 cmpL ls;obtain ⟨e',b,hc,e2⟩:=jug (zo cmpL ls) (CB.of (by omega) λl hl=>h2 l (JL.1 hl)) (KZ yi ls).1;exact ⟨_,e',b,e1,e2,by have:=hc.1;omega,λl hl=>(hc.2 l hl).1⟩
section
variable {code:List Int} (hb:By code)
include hb
theorem jwW (d:jO) (hd:Cq d):∀(j i:Nat),j+i=d.length-> ∀out:List jO,out.length<=i->(∀x∈out,Cz x)-> ∀a s:Int,0<=a->a<=999900000 - 3000 * (j:Nat)-> ∃es:List jO,es.length<=d.length/\(∀e∈es,Cz e)/\
  jp3 (vi (i:Nat)) (kG code) (vi a) (vu s) (.sl 3 (d.map jC)) (out.map Jx) []=some (.tup [cm d,cls es],[]):=by
 have hdl:=hd.1;intro j;induction j with
 | zero=>
  intro i hi out ho hz a s _ _;have nlt:¬((i:Nat):Int) < ((d.length:Nat):Int):=by omega
  refine ⟨out,by omega,hz,?_⟩;rw [jwX];simp only [jd,nlt]
 | succ j ih=>
  intro i hij out ho hz a s h0 h1;have hi:i < d.length:=by omega
  have hlt:((i:Nat):Int) < ((d.length:Nat):Int):=by omega
  have h5:=jr hi (by show d.length<=9223372036854775807;omega)
  have ix:=ja (k:=3) (f:=jC) hi;have ld:∀l:Lt,kJ (.elt (jC l) 0)=some (vb l.1):=λl=>rfl;have ad:∀(l:Lt) (n:Nat),yJ (.elt (jC l) 0) n=some (.elt (jC l) n):=λl n=>by rw [yQ,Nat.zero_add]
  have ld2:∀l:Lt,jZ 2 (.elt (jC l) 1)=some (tm l.2):=λl=>rfl;have hzl:=hd.2 _ (List.getElem_mem hi);generalize d[i]=l at ix hzl;have f1:jB (out.length+1) 24=true:=jjb (by omega);have hck:ck ((i:Int)+1)=some (vi ((i+1:Nat):Int)):=jG (by omega) (by omega);cases hp:l.1 with
  | true=>
   obtain ⟨es,q1,q2,e⟩:=ih (i+1) (by omega) out (by omega) hz a s h0 (by omega);refine ⟨es,q1,q2,?_⟩;rw [jwX];simp only [jd,hlt,ix,ad,ld,hp,h5,e]
  | false=>
   obtain ⟨a1,s1,b1,p1,p2,e1⟩:=qp hb 16 (by decide) (by decide) a s h0 (by omega);cases b1 with
   | true=>
    obtain ⟨es,q1,q2,e⟩:=ih (i+1) (by omega) out (by omega) hz a1 s1 (by omega) (by omega);refine ⟨es,q1,q2,?_⟩;rw [jwX];simp only [jd,hlt,ix,ad,ld,hp,e1,h5,e,List.getElem?_cons_zero,List.getElem?_cons_succ]
   | false=>
    obtain ⟨a2,s2,u,v1,v2,v3,v4,e2⟩:=ZG hb a1 s1 (by omega) (by omega);have e3:=Zn u ⟨by omega,λq hq=>by have:=v4.2 q hq;omega⟩ l.2 (by omega);have hsz:=jrJ (u:=u) (Z:=192) (by decide) (λq hq=>(v4.2 q hq).2) l.2;obtain ⟨a4,s4,b2,w1,w2,e4⟩:=qp hb 3 (by decide) (by decide) a2 s2 (by omega) (by omega);cases b2 with
    | true=>
     obtain ⟨a5,s5,b3,x1,x2,e5⟩:=qp hb 8 (by decide) (by decide) a4 s4 (by omega) (by omega);obtain ⟨a6,s6,t,y1,y2,hv,e6⟩:=jpk hb a5 s5 (by omega) (by omega);have ht:tsz t<=150:=LV.tsz (l:=(true,t)) hv;obtain ⟨c,c',b,m1,m2,hc⟩:=jCb [(true,sub u l.2),(!b3,t)] (by simp) (λx hx=>by
      simp only [List.mem_cons,List.not_mem_nil,or_false] at hx;rcases hx with rfl|rfl
      ·show tsz (sub u l.2)<=_;omega
      ·show tsz t<=_;omega)
     have m1:G 53 [.sl 3 (jL [[vb true,sv (sub u l.2).name,jY (sub u l.2).args]] [[vb (!b3),sv t.name,jY t.args]])]=some (cm c,[]):=m1;obtain ⟨es,q1,q2,e⟩:=ih (i+1) (by omega) (out++[c']) (by rw [List.length_append,List.length_singleton];omega) (λx hx=>by
      rcases List.mem_append.1 hx with h|h
      ·exact hz x h
      ·rw [List.mem_singleton.1 h];exact hc) a6 s6 (by omega) (by omega)
     rw [<-jde] at e;refine ⟨es,q1,q2,?_⟩;rw [jwX];simp only [jd,hlt,ix,ad,ld,ld2,hp,e1,e2,e3,List.getElem?_cons_zero,List.getElem?_cons_succ];generalize hB:j7 _ _ _=B;have hB':B=some (.agg [vb true,sv (sub u l.2).name,jY (sub u l.2).args]):=by rw [<-hB];kernel_rfl
     rw [hB'];simp only [jd,e4,e5,e6,yx,m1,m2,f1,hck,e,List.getElem?_cons_zero,List.getElem?_cons_succ]
    | false=>
     obtain ⟨c,c',b,m1,m2,hc⟩:=jCb [(true,sub u l.2)] (by simp) (λx hx=>by
      simp only [List.mem_cons,List.not_mem_nil,or_false] at hx;rcases hx with rfl
      show tsz (sub u l.2)<=_;omega)
     have m1:G 53 [.sl 3 [[vb true,sv (sub u l.2).name,jY (sub u l.2).args]]]=some (cm c,[]):=m1;obtain ⟨es,q1,q2,e⟩:=ih (i+1) (by omega) (out++[c']) (by rw [List.length_append,List.length_singleton];omega) (λx hx=>by
      rcases List.mem_append.1 hx with h|h
      ·exact hz x h
      ·rw [List.mem_singleton.1 h];exact hc) a4 s4 (by omega) (by omega)
     rw [<-jde] at e;refine ⟨es,q1,q2,?_⟩;rw [jwX];simp only [jd,hlt,ix,ad,ld,ld2,hp,e1,e2,e3,List.getElem?_cons_zero,List.getElem?_cons_succ];generalize hB:j7 _ _ _=B;have hB':B=some (.agg [vb true,sv (sub u l.2).name,jY (sub u l.2).args]):=by rw [<-hB];kernel_rfl
     rw [hB'];simp only [jd,e4,m1,m2,f1,hck,e,List.getElem?_cons_zero,List.getElem?_cons_succ]
theorem jt5:∃(d:jO) (es:List jO),Cq d/\es.length<=12/\(∀e∈es,Cz e)/\G 21 [kG code]=some (.tup [cm d,cls es],[]):=by
 obtain ⟨a1,s1,d,q1,q2,hd,e1⟩:=qR hb 0 0 (by decide) (by decide);obtain ⟨es,r1,r2,e⟩:=jwW hb d hd d.length 0 rfl [] (Nat.le_refl _) (λx h=>by cases h) a1 s1 q1 (by have:=hd.1;omega);simp only [Int.natCast_zero,List.map_nil] at e;have okb:jK (kG code)=true:=rfl;refine ⟨d,es,hd,by have:=hd.1;omega,r2,?_⟩;rw [g21];simp only [jd,okb,e1,e,List.getElem?_cons_zero,List.getElem?_cons_succ]
theorem jyL:∀(n:Nat),n<=4-> ∀out:List jO,out.length+2 * n<=20->(∀x∈out,Cz x)-> ∀a s:Int,0<=a->a<=999900000 - 8000 * (n:Nat)-> ∃es:List jO,es.length<=30/\(∀e∈es,Cz e)/\
  jwR (vi (n:Nat)) (kG code) (vi a) (vu s) (out.map Jx)=some (cls es,[]):=by
 intro n;induction n with
 | zero=>
  intro _ out ho hz a s h0 h1;have ngt:¬(0:Int) < ((0:Nat):Int):=by decide
  obtain ⟨a1,s1,b1,p1,p2,e1⟩:=qp hb 16 (by decide) (by decide) a s h0 (by omega);have f1:jB (out.length+1) 24=true:=jjb (by omega);cases b1 with
  | true=>
   obtain ⟨a2,s2,c,r1,r2,hc,e2⟩:=jeS hb a1 s1 (by omega) (by omega);refine ⟨out++[c],by rw [List.length_append,List.length_singleton];omega,λx hx=>by
    rcases List.mem_append.1 hx with h|h
    ·exact hz x h
    ·rw [List.mem_singleton.1 h];exact hc.cz,?_⟩
   show _=some (A.sl 1 ((out++[c]).map Jx),[]);rw [<-jde,jAX];simp only [jd,ngt,e1,e2,f1,List.getElem?_cons_zero,List.getElem?_cons_succ]
  | false=>
   refine ⟨out,by omega,hz,?_⟩;rw [jAX];simp only [jd,ngt,e1,List.getElem?_cons_zero,List.getElem?_cons_succ]
 | succ n ih=>
  intro hn out ho hz a s h0 h1;have hgt:(0:Int) < ((n+1:Nat):Int):=by omega
  have c5:ck (((n+1:Nat):Int) - 1)=some (vi (n:Nat)):=by rw [show ((n+1:Nat):Int) - 1=(n:Nat) by omega];exact jG (by omega) (by omega)
  have f1:jB (out.length+1) 24=true:=jjb (by omega);obtain ⟨a1,s1,l,p1,p2,hv,e1⟩:=jdU hb a s h0 (by omega);have m1:=YQ [l] (by simp) (λx hx=>by rw [List.mem_singleton.1 hx];exact hv.tz);have hm:=K0 cmpL [l];rw [List.length_singleton] at hm;obtain ⟨b,m2,hcn⟩:=jfv (jx0 (c:=zo cmpL [l]) (by omega) (λx hx=>by rw [List.mem_singleton.1 (JL.1 hx)];exact hv)) (KZ yi [l]).1;generalize zo cmpL [l]=c at *;generalize normC c=c' at *;have m1:G 53 [.sl 3 [[vb l.1,sv l.2.name,jY l.2.args]]]=some (cm c,[]):=m1;obtain ⟨a2,s2,b2,r1,r2,e2⟩:=qp hb 3 (by decide) (by decide) a1 s1 (by omega) (by omega);cases b2 with
  | true=>
   obtain ⟨a3,s3,c2,t1,t2,hc2,e3⟩:=jjl hb c' hcn.cq a2 s2 (by omega) (by omega);have f2:jB ((jL (out.map Jx) [[A.sl 3 (c'.map jC)]]).length+1) 24=true:=by rw [jde,List.length_map,List.length_append,List.length_singleton];exact jjb (by omega)
   obtain ⟨es,q1,q2,e⟩:=ih (by omega) ((out++[c'])++[c2]) (by simp only [List.length_append,List.length_singleton];omega) (λx hx=>by
    rcases List.mem_append.1 hx with h|h
    ·rcases List.mem_append.1 h with h|h
     ·exact hz x h
     ·rw [List.mem_singleton.1 h];exact hcn.cq.cz
    ·rw [List.mem_singleton.1 h];exact hc2.cz) a3 s3 (by omega) (by omega)
   rw [<-jde,<-jde] at e;refine ⟨es,q1,q2,?_⟩;rw [jAX];simp only [jd,hgt,e1,jth,m1,m2,f1,e2,e3,f2,c5,e,List.getElem?_cons_zero,List.getElem?_cons_succ]
  | false=>
   obtain ⟨es,q1,q2,e⟩:=ih (by omega) (out++[c']) (by simp only [List.length_append,List.length_singleton];omega) (λx hx=>by
    rcases List.mem_append.1 hx with h|h
    ·exact hz x h
    ·rw [List.mem_singleton.1 h];exact hcn.cq.cz) a2 s2 (by omega) (by omega)
   rw [<-jde] at e;refine ⟨es,q1,q2,?_⟩;rw [jAX];simp only [jd,hgt,e1,jth,m1,m2,f1,e2,c5,e,List.getElem?_cons_zero,List.getElem?_cons_succ]
theorem jt9:∃es:List jO,es.length<=30/\(∀e∈es,Cz e)/\G 24 [kG code]=some (cls es,[]):=by
 obtain ⟨a1,s1,x,q1,q2,x0,x1,e1⟩:=zO hb 5 (by decide) (by decide) 0 0 (by decide) (by decide);obtain ⟨n,rfl⟩:∃n:Nat,x=(n:Nat):=⟨x.toNat,by omega⟩;obtain ⟨es,r1,r2,e⟩:=jyL hb n (by omega) [] (by rw [List.length_nil];omega) (λx h=>by cases h) a1 s1 q1 (by omega);simp only [List.map_nil] at e;have okb:jK (kG code)=true:=rfl;refine ⟨es,r1,r2,?_⟩;rw [g24];simp only [jd,okb,e1,e,List.getElem?_cons_zero,List.getElem?_cons_succ]
end
theorem jCs:CN []:=⟨by decide,λl h=>by cases h⟩
theorem jA8 (code:List Int) (hp:(∀n∈code,0<=n/\n<=255)/\code.length<=9223372036854775807):G 5 [kG code]=some (vb true,[]):=by
 have e0:=jvz code;rw [g5];by_cases hbig:65536 < ((code.length:Nat):Int)
 ·rw [decide_eq_true hbig] at e0;simp only [jd,e0]
 rw [decide_eq_false hbig] at e0;have hb:By code:=⟨hp.1,by omega⟩;obtain ⟨d,es,hd,hes,hz,e1⟩:=jt5 hb;obtain ⟨r,r1,r2,hr⟩:=jBp d es hd.cz (by omega) hz;obtain ⟨us,hus,huz,e2⟩:=jt9 hb;obtain ⟨p,u1,u2,hu,hun⟩:=jBR us (by omega) huz;have tail:∀x:jO,x.length<=1000->(∀l∈x,l.1=true)->jyT (kG code) (vi 0) (.sl 3 (x.map jC))=some (vb true,[]):=by
  intro x hx hpos;have loop:=upto (n:=x.length) (P:=λi=>jyT (kG code) (vi (i:Nat)) (.sl 3 (x.map jC))=some (vb true,[])) ?_ ?_ 0 (Nat.zero_le _)
  ·simpa only [Int.natCast_zero] using loop
  ·have nlt:¬((x.length:Nat):Int) < ((x.length:Nat):Int):=by omega
   rw [jCv];cases p with
   | none=>
    have u1:G 25 [cls us]=some (.tup [vi 0,vi 0,vb false],[]):=u1;have u2:G 26 [cls us]=some (.tup [vi 0,vi 0,vb false],[]):=u2;simp only [jd,nlt,e2,u1,u2]
   | some q=>
    obtain ⟨i,k⟩:=q;have u1:G 25 [cls us]=some (.tup [vi (i:Nat),vi (k:Nat),vb true],[]):=u1;have u2:G 26 [cls us]=some (.tup [vi (i:Nat),vi (k:Nat),vb true],[]):=u2;obtain ⟨hik,hi,hk,hs⟩:=hu _ rfl;have hik:i < k:=hik;have hi:i < us.length:=hi;have hk:k < us.length:=hk;have hs:Sd [us[i],us[k]] []:=hs;have hlt:(i:Int) < (k:Int):=by omega
    have c1:=hun _ rfl _ (List.getElem_mem hi);have c2:=hun _ rfl _ (List.getElem_mem hk);have x1:jq 1 (cls us) (vi (i:Nat))=some (.elt (Jx us[i]) 0):=ja hi;have x2:jq 1 (cls us) (vi (k:Nat))=some (.elt (Jx us[k]) 0):=ja hk;generalize us[i]=a at *;generalize us[k]=b at *;have s1:G 14 [kG code,.sl 1 [[.sl 3 (a.map jC)],[.sl 3 (b.map jC)]],.agg [.sl 3 []]]=some (vb true,[]):=jjO hb [a,b] (by simp) (λy h=>by
     simp only [List.mem_cons,List.not_mem_nil,or_false] at h;rcases h with h|h
     ·rw [h];exact c1
     ·rw [h];exact c2) [] jCs hs
    simp only [jd,nlt,e2,u1,u2,hlt,x1,x2,ld1,s1]
  ·intro i hi ih;have hlt:(i:Int) < ((x.length:Nat):Int):=by omega
   have h5:=jr hi (by show x.length<=9223372036854775807;omega)
   have ix:=ja (k:=3) (f:=jC) hi;have ld:∀l:Lt,kJ (.elt (jC l) 0)=some (vb l.1):=λl=>rfl;have ad:∀(l:Lt) (n:Nat),yJ (.elt (jC l) 0) n=some (.elt (jC l) n):=λl n=>by rw [yQ,Nat.zero_add]
   have hpl:=hpos _ (List.getElem_mem hi);generalize x[i]=l at *;rw [jCv];simp only [jd,hlt,ix,ad,ld,hpl,h5,ih]
 cases r with
 | none=>
  have r1:G 22 [cm d,cls es]=some (.tup [cz,vb false],[]):=r1;have r2:G 23 [cm d,cls es]=some (.tup [cz,vb false],[]):=r2;have t0:=tail [] (by decide) (λl h=>by cases h);have t0:jyT (kG code) (vi 0) (.sl 3 [])=some (vb true,[]):=t0;simp only [jd,e0,e1,r1,r2,t0]
 | some x=>
  have r1:G 22 [cm d,cls es]=some (.tup [cm x,vb true],[]):=r1;have r2:G 23 [cm d,cls es]=some (.tup [cm x,vb true],[]):=r2;obtain ⟨h1,h2,h3,h4,h5⟩:=hr x rfl;have t0:=tail x (by have:=h3.1;omega) (jr6.1 h5);have s1:=jjO hb (d::es) (by rw [List.length_cons];omega) (λy h=>by
   rcases List.mem_cons.1 h with h|h
   ·rw [h];exact h1
   ·exact h2 y h) x h3 h4
  have s1:G 14 [kG code,.sl 1 (jL [[.sl 3 (d.map jC)]] (es.map Jx)),cm x]=some (vb true,[]):=s1;have f1:jB (1+es.length) 24=true:=jjb (by omega);simp only [jd,e0,e1,r1,r2,t0,s1,f1]
end Go.Proofs.YtdbgbieenhcldaaGreatDoor
