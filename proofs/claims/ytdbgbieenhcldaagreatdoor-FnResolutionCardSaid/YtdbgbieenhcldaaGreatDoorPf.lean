/- Pf -/
import Derived.Test.YtdbgbieenhcldaaGreatDoorPe
import Derived.Test.YtdbgbieenhcldaaGreatDoorPb
import Derived.Test.YtdbgbieenhcldaaGreatDoorPd
namespace Go.Proofs.YtdbgbieenhcldaaGreatDoor
open Go Go.RowKit Go.Proofs.YtdbgbieenhcldaaGreatDoor.Abs
set_option linter.unusedSimpArgs false
set_option linter.unusedVariables false
set_option maxHeartbeats 1000000
theorem jhf (l:List Lt) (hl:l.length<=1000) (hz:∀x∈l,Tz x.2) (i:Nat) (hi:i < l.length) (u:List Lt) (hu:u.length<=1000) (hzu:∀x∈u,Tz x.2):∀k,k<=u.length->(∀j,(h:j < k)-> ∀h':j < u.length,cmpL u[j] l[i] < 0)->
  jcz (vi (i:Nat)) (vi (k:Nat)) (l.map jC) (u.map jC) []=YF (vi ((i+1:Nat):Int)) (l.map jC) ((Jm cmpL u l[i]).map jC) []:=by
 have xi:Ke l.length (vi (i:Nat))=some i:=zi hi;have ri:=jaI hi;have rp:yE (l.map jC) i 0=some (vb l[i].1):=by unfold yE;simp [hi,jC]
 have rn:z7 (l.map jC) i 1 2=some (tm l[i].2):=by unfold z7;simp [hi,jC]
 have e2:=QI l[i].2 (hz _ (List.getElem_mem _));have hck:ck ((i:Int)+1)=some (vi ((i+1:Nat):Int)):=jG (by omega) (by omega);refine upto ?_ ?_
 ·intro hall;obtain ⟨t1,t2⟩:=jnd (p:=λa=>decide (cmpL a l[i] < 0)) (Nat.le_refl u.length) (λj h h'=>decide_eq_true (hall j h h')) (Or.inr rfl);obtain ⟨k1,k2,k3,k4,k5,k6,k7,k8,k9⟩:=jcE u (by omega) u.length (Nat.le_refl _) l[i];have hins:Jm cmpL u l[i]=u.take u.length++l[i]::u.drop u.length:=by
   unfold Jm;rw [t1,t2,List.drop_length,if_neg (by simp)]
  have nlt:¬((u.length:Nat):Int) < ((u.length:Nat):Int):=by omega
  rw [hins,jmJ];simp only [jd,nlt,xi,ri,rp,rn,e2];generalize hB:j7 _ _ _=B;have hB':B=some (ltm l[i]):=by rw [<-hB];kernel_rfl
  rw [hB'];simp only [jd,k1,k2,k4,k5];rw [if_pos k3,if_pos k7,k6,if_pos k8,hck,Option.bind_some,k9]
 ·intro k hk ih hall;have hlt:((k:Nat):Int) < ((u.length:Nat):Int):=by omega
  have x1:Ke u.length (vi (k:Nat))=some k:=zi hk;have r1:=jaI hk;have e1:=KH u[k] l[i] (hzu _ (List.getElem_mem _)) (hz _ (List.getElem_mem _));rw [jmJ];by_cases hc:cmpL u[k] l[i] < 0
  ·have ih:=ih λj h h'=>by
    by_cases hj:j=k
    ·subst hj;exact hc
    ·exact hall j (by omega) h'
   have hk1:ck ((k:Int)+1)=some (vi ((k+1:Nat):Int)):=jG (by omega) (by omega);generalize cmpL u[k] l[i]=d at *;simp only [jd,hlt,x1,r1,xi,ri,e1,hc,hk1];exact ih
  ·obtain ⟨t1,t2⟩:=jnd (p:=λa=>decide (cmpL a l[i] < 0)) (Nat.le_of_lt hk) (λj h h'=>decide_eq_true (hall j h h')) (Or.inl ⟨hk,decide_eq_false hc⟩);have hins:Jm cmpL u l[i]=if cmpL u[k] l[i]=0 then u else u.take k++l[i]::u.drop k:=by
    unfold Jm;rw [t1,t2,jo hk];by_cases h0:cmpL u[k] l[i]=0
    ·rw [if_pos h0];exact if_pos (decide_eq_true h0)
    ·rw [if_neg h0];exact if_neg (λe=>h0 (of_decide_eq_true e))
   rw [hins];by_cases h0:cmpL u[k] l[i]=0
   ·rw [if_pos h0];rw [h0] at e1;simp only [jd,hlt,x1,r1,xi,ri,e1,hck]
   ·obtain ⟨k1,k2,k3,k4,k5,k6,k7,k8,k9⟩:=jcE u (by omega) k (Nat.le_of_lt hk) l[i];rw [if_neg h0];generalize cmpL u[k] l[i]=d at *;simp only [jd,hlt,x1,r1,xi,ri,e1,hc,h0,rp,rn,e2];generalize hB:j7 _ _ _=B;have hB':B=some (ltm l[i]):=by rw [<-hB];kernel_rfl
    rw [hB'];simp only [jd,k1,k2,k4,k5];rw [if_pos k3,if_pos k7,k6,if_pos k8,hck,Option.bind_some,k9]
theorem jk7 (l:List Lt) (hl:l.length<=900) (hz:∀x∈l,Tz x.2):jo0 (l.map jC)=some (.top,[.sl 3 ((zo cmpL l).map jC)]):=by
 have key:=upto (P:=λi=>∀u:List Lt,Asc cmpL u->u.length<=i->(∀x∈u,Tz x.2)->YF (vi (i:Nat)) (l.map jC) (u.map jC) []=some (.top,[.sl 3 (((l.drop i).foldl (Jm cmpL) u).map jC)])) (n:=l.length) ?_ ?_ 0 (Nat.zero_le _) [] List.Pairwise.nil (Nat.le_refl _) (λx h=>by cases h)
 ·rw [List.drop_zero] at key;simp only [Int.natCast_zero,List.map_nil] at key;rw [jxl,key];rfl
 ·intro u _ _ _;have nlt:¬((l.length:Nat):Int) < ((l.length:Nat):Int):=by omega
  rw [jmI,List.drop_length];simp only [jd,nlt];rfl
 ·intro i hi ih u ha hu hzu;have hlt:(i:Int) < ((l.length:Nat):Int):=by omega
  have:=jhf l (by omega) hz i hi u (by omega) hzu 0 (Nat.zero_le _) (λj h=>absurd h (Nat.not_lt_zero _));simp only [Int.natCast_zero] at this;have h2:=ih (Jm cmpL u l[i]) (jav yi ha l[i]).1 (by have:=jdx cmpL u l[i];omega) λx hx=>by
   rcases (jiE ha l[i]).1 hx with h|h
   ·exact hzu x h
   ·rw [h];exact hz _ (List.getElem_mem _)
  rw [jmI,jo hi,List.foldl_cons];simp only [jd,hlt,this,h2]
def Cq (c:jO):Prop:=c.length<=12/\ ∀l∈c,tsz l.2<=1000
theorem Cq.cz {c:jO} (h:Cq c):Cz c:=⟨by have:=h.1;omega,λl hl=>by have:=h.2 l hl;unfold Tz;omega⟩
theorem jv0 {c:jO} (h:CN c):∀l∈c,tsz l.2<=300:=λl hl=>by have:=(h.2 l hl).1.tsz;have:=(h.2 l hl).2;omega
theorem CN.cq {c:jO} (h:CN c):Cq c:=⟨by have:=h.1;omega,λl hl=>by have:=jv0 h l hl;omega⟩
def RwD (code:List Int) (q:Nat) (a:Int) (o:Option Out):Prop:=∃a' s' c,a<=a'/\a'<=a+(q:Nat)/\(List.length c<=5/\Asc cmpL c/\ ∀l∈c,LV l)/\o=some (.top,[kG code,vi a',vu s',.sl 3 (List.map jC c)])
def CqD (code:List Int) (q:Nat) (a:Int) (o:Option Out):Prop:=∃a' s' c,a<=a'/\a'<=a+(q:Nat)/\Cq c/\o=some (.top,[kG code,vi a',vu s',cm c])
def CnD (code:List Int) (q:Nat) (a:Int) (o:Option Out):Prop:=∃a' s' c,a<=a'/\a'<=a+(q:Nat)/\CN c/\o=some (.top,[kG code,vi a',vu s',cm c])
theorem jx0 {c:jO} (h1:c.length<=5) (h2:∀l∈c,LV l):CN c:=⟨by omega,λl hl=>⟨(h2 l hl).1,by have:=(h2 l hl).2;omega⟩⟩
theorem ZY (a x0 x1 x2:A) (xs:List (List A)) (l:List A):hR 3 (a,x0::x1::x2:: .sl 3 xs::l) 3=some xs:=by simp [hR]
theorem jfv {c:jO} (h:CN c) (ha:Asc cmpL c):∃b:Bool,G 32 [cm c]=some (.tup [cm (normC c),vb b],[])/\CN (normC c):=⟨_,jbR c h ha,h.normC⟩
section
variable {code:List Int} (hb:By code)
include hb
theorem jdj (a s:Int) (h0:0<=a) (h1:a<=999950000):RwD code 500 a (jgf (kG code) (vi a) (vu s)):=by
 obtain ⟨a1,s1,ls,q1,q2,hl,hv,e1⟩:=jbU hb 4 (by decide) a s h0 (by omega);have e1:je5 (vi 4) (kG code) (vi a) (vu s)=_:=e1;have e2:=jk7 ls (by omega) (λx hx=>(hv x hx).tz);have hm:=K0 cmpL ls;refine ⟨a1,s1,zo cmpL ls,q1,q2,⟨by omega,(KZ yi ls).1,λl h=>hv l (JL.1 h)⟩,?_⟩;rw [jvF];simp only [jd,e1,ZY,e2,List.getElem?_cons_zero,List.getElem?_cons_succ]
theorem jd9 (a s:Int) (h0:0<=a) (h1:a<=999950000):CnD code 500 a (jo3 (kG code) (vi a) (vu s)):=by
 obtain ⟨a1,s1,c,q1,q2,⟨hl,ha,hv⟩,e1⟩:=jdj hb a s h0 h1;obtain ⟨b,e2,hcn⟩:=jfv (jx0 hl hv) ha;refine ⟨a1,s1,normC c,q1,q2,hcn,?_⟩;rw [jxq];simp only [jd,e1,ZY,e2,List.getElem?_cons_zero,List.getElem?_cons_succ]
theorem jdd (a s:Int) (h0:0<=a) (h1:a<=999950000):∃a' s' l,a<=a'/\a'<=a+1300/\tsz (Prod.snd l)<=1000/\jgg (kG code) (vi a) (vu s)=some (.top,[kG code,vi a',vu s',ltm l]):=by
 obtain ⟨a1,s1,l,q1,q2,hv,e1⟩:=jdU hb a s h0 (by omega);obtain ⟨a2,s2,x,r1,r2,x0,x1,e2⟩:=zO hb 16 (by decide) (by decide) a1 s1 (by omega) (by omega);have hz:=hv.tsz;rw [jvG];by_cases y0:x=0
 ·subst y0;obtain ⟨a3,s3,t3,u1,u2,u3,e3⟩:=jkx hb a2 s2 (by omega) (by omega);refine ⟨a3,s3,(l.1,t3),by omega,by omega,u3,?_⟩;simp only [jd,e1,e2,e3,List.getElem?_cons_zero,List.getElem?_cons_succ,jth]
 by_cases y1:x=1
 ·subst y1;obtain ⟨a3,s3,t3,u1,u2,u3,e3⟩:=YZ hb a2 s2 (by omega) (by omega);have hargs:l.2.args.length<=1000:=by have:=kO l.2;omega
  have hf:jB (l.2.args.length+1) 40=true:=jlf (by omega);have hsz:∀us:List T,yf (us++[t3])=yf us+tsz t3:=by
   intro us;induction us with
   | nil=>simp [yf]
   | cons u us ih=>simp only [List.cons_append,yf];omega
  have hq:=kO l.2;refine ⟨a3,s3,(l.1,.mk l.2.name (l.2.args++[t3])),by omega,by omega,by show tsz (.mk _ _)<=1000;rw [qt,hsz,List.length_append,List.length_singleton];omega,?_⟩;simp only [jd,e1,e2,e3,hf,List.length_map,List.getElem?_cons_zero,List.getElem?_cons_succ,jth,yx];show _=some (A.top,[kG code,vi a3,vu s3,A.agg [vb l.1,sv l.2.name,.sl 2 ((l.2.args++[t3]).map jz)]]);rw [List.map_append,List.map_cons,kK t3];rfl
 ·refine ⟨a2,s2,l,by omega,by omega,by omega,?_⟩;simp only [jd,e1,e2,y0,y1,List.getElem?_cons_zero,List.getElem?_cons_succ,jth]
theorem jk9:∀(k i:Nat),i+k=9-> ∀(c:jO),c.length=i->(∀l∈c,tsz l.2<=1000)-> ∀a s:Int,0<=a->a<=999980000 - 10 * (k:Nat)->CqD code (2 * k+2) a (YG (vi (i:Nat)) (kG code) (vi a) (vu s) (c.map jC) []):=by
 intro k;induction k with
 | zero=>
  intro i hi c hc hz a s h0 h1;obtain ⟨a1,s1,x,q1,q2,x0,x1,e1⟩:=zO hb 2 (by decide) (by decide) a s h0 (by omega);have c1:ck (8+x)=some (vi (8+x)):=jG (by omega) (by omega);have nlt:¬((i:Nat):Int) < 8+x:=by omega
  refine ⟨a1,s1,c,q1,by omega,⟨by omega,hz⟩,?_⟩;rw [jhe];simp only [jd,e1,c1,nlt,List.getElem?_cons_zero,List.getElem?_cons_succ]
 | succ k ih=>
  intro i hi c hc hz a s h0 h1;obtain ⟨a1,s1,x,q1,q2,x0,x1,e1⟩:=zO hb 2 (by decide) (by decide) a s h0 (by omega);have c1:ck (8+x)=some (vi (8+x)):=jG (by omega) (by omega);by_cases hlt:((i:Nat):Int) < 8+x
  ·have n1:=jdM i (by omega);have hd:=(yw 6 i (by omega)).2;have a2:jp .add false (sv [112]) (sv (Lib.decDigits i))=some (sv ([112]++Lib.decDigits i)):=by rw [K2,if_pos (by simp only [List.length_cons,List.length_nil];omega)]
   obtain ⟨a3,s3,w,hw,r1,r2,e3⟩:=jcG hb [[88],[89]] (by decide) (by decide) (by decide) a1 s1 (by omega) (by omega);have e3:yV (kG code) (vi a1) (vu s1) [[sv [88]],[sv [89]]]=some (.top,[kG code,vi a3,vu s3,sv w]):=e3;have f1:jB (c.length+1) 48=true:=J0 (by omega);have c5:ck ((i:Int)+1)=some (vi ((i+1:Nat):Int)):=jG (by omega) (by omega);obtain ⟨a4,s4,c',v1,v2,v3,e4⟩:=ih (i+1) (by omega) (c++[(true,.mk ([112]++Lib.decDigits i) [.mk w []])]) (by rw [List.length_append,List.length_singleton];omega) (λl h=>by
    rcases List.mem_append.1 h with h|h
    ·exact hz l h
    ·rw [List.mem_singleton.1 h];show tsz (.mk _ _)<=1000;rw [qt];simp only [List.length_append,List.length_cons,List.length_nil,yf,qt];omega) a3 s3 (by omega) (by omega)
   refine ⟨a4,s4,c',by omega,by omega,v3,?_⟩;rw [<-Zf] at e4;have e4:YG (vi ((i+1:Nat):Int)) (kG code) (vi a3) (vu s3) (jL (c.map jC) [[vb true,sv ([112]++Lib.decDigits i),.sl 2 [[sv w,.sl 2 []]]]]) []=_:=e4;rw [jhe];generalize [112]++Lib.decDigits i=nm at *;simp only [jd,e1,c1,hlt,n1,a2,e3,f1,c5,e4,List.getElem?_cons_zero,List.getElem?_cons_succ]
  ·refine ⟨a1,s1,c,q1,by omega,⟨by omega,hz⟩,?_⟩;rw [jhe];simp only [jd,e1,c1,hlt,List.getElem?_cons_zero,List.getElem?_cons_succ]
theorem jeS (a s:Int) (h0:0<=a) (h1:a<=999940000):CqD code 2000 a (jo1 (kG code) (vi a) (vu s)):=by
 obtain ⟨a1,s1,c,q1,q2,⟨hl,ha,hv⟩,e1⟩:=jdj hb a s h0 (by omega);obtain ⟨a2,s2,x,r1,r2,x0,x1,e2⟩:=zO hb 20 (by decide) (by decide) a1 s1 (by omega) (by omega);have hz:∀l∈c,tsz l.2<=1000:=λl h=>by have:=(hv l h).tsz;omega
 have hq:Cq c:=⟨by omega,hz⟩;have f1:jB (c.length+1) 48=true:=J0 (by omega);rw [jxo];by_cases y0:x=0
 ·subst y0;obtain ⟨a3,s3,l,u1,u2,u3,e3⟩:=jdd hb a2 s2 (by omega) (by omega);refine ⟨a3,s3,c++[l],by omega,by omega,⟨by rw [List.length_append,List.length_singleton];omega,λy h=>by
   rcases List.mem_append.1 h with h|h
   ·exact hz y h
   ·rw [List.mem_singleton.1 h];exact u3⟩,?_⟩
  have e3:jgg (kG code) (vi a2) (vu s2)=some (.top,[kG code,vi a3,vu s3,.agg [vb l.1,sv l.2.name,jY l.2.args]]):=e3;show _=some (A.top,[kG code,vi a3,vu s3,.agg [.sl 3 ((c++[l]).map jC)]]);rw [<-Zf];simp only [jd,e1,e2,e3,ZY,f1,List.getElem?_cons_zero,List.getElem?_cons_succ]
 by_cases y1:x=1
 ·subst y1;by_cases hg:(1:Int) < ((c.length:Nat):Int)
  ·obtain ⟨l0,l1,r,rfl⟩:∃l0 l1 r,c=l0::l1::r:=by
    match c,hg with
    | l0::l1::r,_=>exact ⟨l0,l1,r,rfl⟩
    | [],h=>simp at h
    | [x],h=>simp at h
   refine ⟨a2,s2,l1::l0::r,by omega,by omega,⟨by simp only [List.length_cons] at hl ⊢;omega,λy h=>hz y (by
    simp only [List.mem_cons] at h ⊢;rcases h with h|h|h
    ·exact Or.inr (Or.inl h)
    ·exact Or.inl h
    ·exact Or.inr (Or.inr h))⟩,?_⟩
   have i0:Ke ((l0::l1::r).map jC).length (vi 0)=some 0:=joc (f:=jC) (xs:=l0::l1::r) (i:=0) (by simp);have i1:Ke ((l0::l1::r).map jC).length (vi 1)=some 1:=joc (f:=jC) (xs:=l0::l1::r) (i:=1) (by simp);have j1:Ke ((l1::l1::r).map jC).length (vi 1)=some 1:=joc (f:=jC) (xs:=l1::l1::r) (i:=1) (by simp);have r0:z7 ((l0::l1::r).map jC) 0 0 3=some (.agg [vb l0.1,sv l0.2.name,jY l0.2.args]):=rfl;have r1:z7 ((l0::l1::r).map jC) 1 0 3=some (.agg [vb l1.1,sv l1.2.name,jY l1.2.args]):=rfl;have g0:je2 ((l0::l1::r).map jC) 0=some (jC l0):=rfl;have s0:J2 ((l0::l1::r).map jC) 0 (Kh (jC l0) 0 [vb l1.1,sv l1.2.name,jY l1.2.args])=(l1::l1::r).map jC:=rfl;have g1:je2 ((l1::l1::r).map jC) 1=some (jC l1):=rfl;have s1':J2 ((l1::l1::r).map jC) 1 (Kh (jC l1) 0 [vb l0.1,sv l0.2.name,jY l0.2.args])=(l1::l0::r).map jC:=rfl;have hg:(1:Int) < ((((l0::l1::r).map jC).length:Nat):Int):=by rw [List.length_map];exact hg
   have n0:jp .eql false (vi 1) (vi 0)=some (vb false):=rfl;show _=some (A.top,[kG code,vi a2,vu s2,.agg [.sl 3 ((l1::l0::r).map jC)]]);rw [<-s1'];generalize (l0::l1::r).map jC=X at *;generalize (l1::l1::r).map jC=Y at *;simp only [jd,e1,e2,y0,ZY,hg,i0,r0,i1,r1,g0,s0,j1,g1,List.getElem?_cons_zero,List.getElem?_cons_succ]
  ·refine ⟨a2,s2,c,by omega,by omega,hq,?_⟩;simp only [jd,e1,e2,y0,hg,ZY,List.getElem?_cons_zero,List.getElem?_cons_succ]
 by_cases y2:x=2
 ·subst y2;obtain ⟨a3,s3,c',u1,u2,u3,e3⟩:=jk9 hb 9 0 (by decide) [] rfl (λl h=>by cases h) a2 s2 (by omega) (by omega);have e3:YG (vi 0) (kG code) (vi a2) (vu s2) [] []=_:=e3;refine ⟨a3,s3,c',by omega,by omega,u3,?_⟩;simp only [jd,e1,e2,y0,y1,e3,ZY,List.getElem?_cons_zero,List.getElem?_cons_succ]
 by_cases y3:x=3
 ·subst y3;by_cases hg:(0:Int) < ((c.length:Nat):Int)
  ·have hi:c.length - 1 < c.length:=by omega
   have c1:ck (((c.length:Nat):Int) - 1)=some (vi ((c.length - 1:Nat):Int)):=by rw [show ((c.length:Nat):Int) - 1=((c.length - 1:Nat):Int) by omega];exact jG (by omega) (by omega)
   have i1:Ke c.length (vi ((c.length - 1:Nat):Int))=some (c.length - 1):=zi hi;have r1:=jaI hi;have hzl:=hz _ (List.getElem_mem hi);generalize c[c.length - 1]=l at r1 hzl;have r1:z7 (c.map jC) (c.length - 1) 0 3=some (.agg [vb l.1,sv l.2.name,jY l.2.args]):=r1;refine ⟨a2,s2,c++[l],by omega,by omega,⟨by rw [List.length_append,List.length_singleton];omega,λy h=>by
    rcases List.mem_append.1 h with h|h
    ·exact hz y h
    ·rw [List.mem_singleton.1 h];exact hzl⟩,?_⟩
   show _=some (A.top,[kG code,vi a2,vu s2,.agg [.sl 3 ((c++[l]).map jC)]]);rw [<-Zf];simp only [jd,e1,e2,y0,y1,y2,ZY,hg,c1,i1,r1,f1,List.getElem?_cons_zero,List.getElem?_cons_succ]
  ·refine ⟨a2,s2,c,by omega,by omega,hq,?_⟩;simp only [jd,e1,e2,y0,y1,y2,hg,ZY,List.getElem?_cons_zero,List.getElem?_cons_succ]
 ·refine ⟨a2,s2,c,by omega,by omega,hq,?_⟩;simp only [jd,e1,e2,y0,y1,y2,y3,ZY,List.getElem?_cons_zero,List.getElem?_cons_succ]
theorem qR (a s:Int) (h0:0<=a) (h1:a<=999930000):CqD code 2001 a (jhR (kG code) (vi a) (vu s)):=by
 obtain ⟨a1,s1,b,q1,q2,e1⟩:=qp hb 16 (by decide) (by decide) a s h0 (by omega);rw [jxg];cases b with
 | true=>
  obtain ⟨a2,s2,c,r1,r2,r3,e2⟩:=jeS hb a1 s1 (by omega) (by omega);refine ⟨a2,s2,c,by omega,by omega,r3,?_⟩;simp only [jd,e1,e2,List.getElem?_cons_zero,List.getElem?_cons_succ]
 | false=>
  obtain ⟨a2,s2,c,r1,r2,r3,e2⟩:=jd9 hb a1 s1 (by omega) (by omega);refine ⟨a2,s2,c,by omega,by omega,r3.cq,?_⟩;simp only [jd,e1,e2,List.getElem?_cons_zero,List.getElem?_cons_succ]
omit hb in
theorem made {ls:List Lt} (hl:ls.length<=20) (hz:∀l∈ls,tsz l.2<=1000) (p:Bool) {u:List (List UInt8 × T)} (hu:u.length<=4/\Sz 192 u) {t:T} (ht:tsz t<=1000):∃e:jO,
  G 50 [sb u,tm t]=some (tm (sub u t),[])/\G 53 [.sl 3 ((ls++[(p,sub u t)]).map jC)]=some (cm e,[])/\G 31 [cm e]=some (vb (zs e),[])/\(zs e=true-> ∃b:Bool,G 32 [cm e]=some (.tup [cm (normC e),vb b],[])/\CN (normC e)):=by
 have e1:=Zn u ⟨by omega,λq hq=>by have:=hu.2.2 q hq;omega⟩ t (by omega)
 have hsz:=jrJ (u:=u) (Z:=192) (by decide) (λq hq=>(hu.2.2 q hq).2) t;have hz':∀l∈ls++[(p,sub u t)],Tz l.2:=λl h=>by
  rcases List.mem_append.1 h with h|h
  ·have:=hz l h;unfold Tz;omega
  ·rw [List.mem_singleton.1 h];show tsz (sub u t)<=1048576;omega
 have e2:=YQ (ls++[(p,sub u t)]) (by rw [List.length_append,List.length_singleton];omega) hz'
 have hm:=K0 cmpL (ls++[(p,sub u t)]);rw [List.length_append,List.length_singleton] at hm;have e3:=KY (zo cmpL (ls++[(p,sub u t)])) (by omega) (λl h=>hz' l (JL.1 h));exact ⟨_,e1,e2,e3,λhv=>jfv (zP hv).1 (zP hv).2.1⟩
theorem jjl (d:jO) (hd:Cq d) (a s:Int) (h0:0<=a) (h1:a<=999920000):CqD code 5000 a (joY (.sl 3 (d.map jC)) (kG code) (vi a) (vu s)):=by
 have hd1:=hd.1;rw [jxh];by_cases hn:((d.length:Nat):Int)=0
 ·obtain ⟨a2,s2,c,r1,r2,r3,e2⟩:=qR hb a s h0 (by omega);refine ⟨a2,s2,c,by omega,by omega,r3,?_⟩;simp only [jd,hn,e2,List.getElem?_cons_zero,List.getElem?_cons_succ]
 obtain ⟨a1,s1,b,q1,q2,e1⟩:=qp hb 6 (by decide) (by decide) a s h0 (by omega);cases b with
 | true=>
  obtain ⟨a2,s2,c,r1,r2,r3,e2⟩:=qR hb a1 s1 (by omega) (by omega);refine ⟨a2,s2,c,by omega,by omega,r3,?_⟩;simp only [jd,hn,e1,e2,List.getElem?_cons_zero,List.getElem?_cons_succ]
 | false=>
  obtain ⟨a2,s2,x,r1,r2,x0,x1,e2⟩:=zO hb ((d.length:Nat):Int) (by omega) (by omega) a1 s1 (by omega) (by omega);obtain ⟨i,rfl⟩:∃i:Nat,x=(i:Nat):=⟨x.toNat,by omega⟩;have hi:i < d.length:=by omega
  have y1:jq 3 (.sl 3 (d.map jC)) (vi (i:Nat))=some (.elt (jC d[i]) 0):=ja hi;have hzl:=hd.2 _ (List.getElem_mem hi);generalize d[i]=l at y1 hzl;have ld3:jZ 3 (.elt (jC l) 0)=some (.agg [vb l.1,sv l.2.name,jY l.2.args]):=rfl;obtain ⟨a3,s3,ls,u1,u2,u3,u4,e3⟩:=jbU hb 2 (by decide) a2 s2 (by omega) (by omega);have e3:je5 (vi 2) (kG code) (vi a2) (vu s2)=_:=e3;obtain ⟨a4,s4,u,v1,v2,v3,v4,e4⟩:=ZG hb a3 s3 (by omega) (by omega);obtain ⟨e,m1,m2,m3,m4⟩:=made (ls:=ls) (by omega) (λl h=>by have:=(u4 l h).tsz;omega) (!l.1) ⟨v3,v4⟩ hzl;have f1:jB (ls.length+1) 48=true:=J0 (by omega);rw [<-Zf] at m2;have m2:G 53 [.sl 3 (jL (ls.map jC) [[vb (!l.1),sv (sub u l.2).name,jY (sub u l.2).args]])]=some (cm e,[]):=m2;have bld:∀B,B=some (A.agg [vb (!l.1),sv (sub u l.2).name,jY (sub u l.2).args])->B=some (A.agg [vb (!l.1),sv (sub u l.2).name,jY (sub u l.2).args]):=λB h=>h;cases hv:zs e with
  | false=>
   rw [hv] at m3;obtain ⟨a5,s5,c,w1,w2,w3,e5⟩:=jd9 hb a4 s4 (by omega) (by omega);refine ⟨a5,s5,c,by omega,by omega,w3.cq,?_⟩;simp only [jd,hn,e1,e2,y1,ld3,e3,ZY,e4,m1,List.getElem?_cons_zero,List.getElem?_cons_succ];generalize hB:j7 _ _ _=B;have hB':B=some (.agg [vb (!l.1),sv (sub u l.2).name,jY (sub u l.2).args]):=by rw [<-hB];kernel_rfl
   rw [hB'];simp only [jd,f1,m2,m3,e5,List.getElem?_cons_zero,List.getElem?_cons_succ]
  | true=>
   rw [hv] at m3;obtain ⟨b,m4,hcn⟩:=m4 hv;refine ⟨a4,s4,normC e,by omega,by omega,hcn.cq,?_⟩;simp only [jd,hn,e1,e2,y1,ld3,e3,ZY,e4,m1,List.getElem?_cons_zero,List.getElem?_cons_succ];generalize hB:j7 _ _ _=B;have hB':B=some (.agg [vb (!l.1),sv (sub u l.2).name,jY (sub u l.2).args]):=by rw [<-hB];kernel_rfl
   rw [hB'];simp only [jd,f1,m2,m3,m4,List.getElem?_cons_zero,List.getElem?_cons_succ]
theorem jal:∃c d,Cq c/\Cq d/\G 15 [kG code]=some (.tup [cm c,cm d],[]):=by
 obtain ⟨a1,s1,c,q1,q2,hc,e1⟩:=qR hb 0 0 (by decide) (by decide);obtain ⟨a2,s2,d,r1,r2,hd,e2⟩:=jjl hb c hc a1 s1 (by omega) (by omega);have okb:jK (kG code)=true:=rfl;refine ⟨c,d,hc,hd,?_⟩;rw [g15];simp only [jd,okb,e1,e2,List.getElem?_cons_zero,List.getElem?_cons_succ]
omit hb in
theorem jnM (x y:Int):G 94 [vi x,vi y]=some (vi (if y < x then x else y),[]):=by
 rw [g94];by_cases h:y < x
 ·rw [if_pos h];simp only [jd,h]
 ·rw [if_neg h];simp only [jd,h]
theorem Y0 (n:Int) (hn:0<=n/\n<=50) (a s:Int) (h0:0<=a) (h1:a<=999990000):∃k a2 s2 x y,G 94 [vi n,vi 1]=some (vi k,[])/\jp .add false (vi k) (vi 1)=some (vi (k+1))/\ ∃a1 s1,qh (vi (k+1)) (kG code) (vi a) (vu s)=some (.top,[kG code,vi a1,vu s1,vi x])/\qh (vi (k+1)) (kG code) (vi a1) (vu s1)=some (.top,[kG code,vi a2,vu s2,vi y]):=by
 have hk:(1:Int)<=(if 1 < n then n else 1)/\(if 1 < n then n else (1:Int))<=50:=by split<;>omega
 have e:=jnM n 1;generalize (if 1 < n then n else (1:Int))=k at *;obtain ⟨a1,s1,x,q1,q2,_,_,e1⟩:=zO hb (k+1) (by omega) (by omega) a s h0 (by omega);obtain ⟨a2,s2,y,r1,r2,_,_,e2⟩:=zO hb (k+1) (by omega) (by omega) a1 s1 (by omega) (by omega);exact ⟨k,a2,s2,x,y,e,by rw [JZ,jG (by omega) (by omega)],a1,s1,e1,e2⟩
theorem jeV:∃c,Cq c/\G 18 [kG code]=some (cm c,[]):=by
 obtain ⟨a1,s1,d,q1,q2,hd,e1⟩:=qR hb 0 0 (by decide) (by decide);have okb:jK (kG code)=true:=rfl;have hd1:=hd.1
 suffices h:∃c x y,Cq c/\G 45 [kG code]=some (.tup [cm c,vi x,vi y],[]) by
  obtain ⟨c,x,y,hc,e⟩:=h;refine ⟨c,hc,?_⟩;rw [g18];simp only [jd,e]
 by_cases hg:(0:Int) < ((d.length:Nat):Int)
 ·obtain ⟨a2,s2,b,r1,r2,e2⟩:=qp hb 2 (by decide) (by decide) a1 s1 (by omega) (by omega);cases b with
  | false=>
   obtain ⟨k,a4,s4,x,y,p1,p2,a3,s3,p3,p4⟩:=Y0 hb ((d.length:Nat):Int) (by omega) a2 s2 (by omega) (by omega);refine ⟨d,x,y,hd,?_⟩;rw [g45];simp only [jd,okb,e1,hg,e2,p1,p2,p3,p4,List.getElem?_cons_zero,List.getElem?_cons_succ]
  | true=>
   obtain ⟨a3,s3,x,r1,r2,x0,x1,e3⟩:=zO hb ((d.length:Nat):Int) (by omega) (by omega) a2 s2 (by omega) (by omega);obtain ⟨i,rfl⟩:∃i:Nat,x=(i:Nat):=⟨x.toNat,by omega⟩;have hi:i < d.length:=by omega
   have y1:jq 3 (.sl 3 (d.map jC)) (vi (i:Nat))=some (.elt (jC d[i]) 0):=ja hi;have hzl:=hd.2 _ (List.getElem_mem hi);generalize d[i]=l at y1 hzl;have ld3:jZ 3 (.elt (jC l) 0)=some (.agg [vb l.1,sv l.2.name,jY l.2.args]):=rfl;obtain ⟨a4,s4,u,v1,v2,v3,v4,e4⟩:=ZG hb a3 s3 (by omega) (by omega);obtain ⟨e,m1,m2,m3,m4⟩:=made (ls:=d) (by omega) hd.2 l.1 ⟨v3,v4⟩ hzl;have f0:jB d.length 48=true:=J0 (by omega);have f1:jB (d.length+1) 48=true:=J0 (by omega);rw [<-Zf] at m2;have m2:G 53 [.sl 3 (jL (d.map jC) [[vb l.1,sv (sub u l.2).name,jY (sub u l.2).args]])]=some (cm e,[]):=m2;cases hv:zs e with
   | false=>
    rw [hv] at m3;obtain ⟨k,a6,s6,x,y,p1,p2,a5,s5,p3,p4⟩:=Y0 hb ((d.length:Nat):Int) (by omega) a4 s4 (by omega) (by omega);refine ⟨d,x,y,hd,?_⟩;rw [g45];simp only [jd,okb,e1,hg,e2,e3,y1,ld3,f0,e4,m1,List.getElem?_cons_zero,List.getElem?_cons_succ];generalize hB:j7 _ _ _=B;have hB':B=some (.agg [vb l.1,sv (sub u l.2).name,jY (sub u l.2).args]):=by rw [<-hB];kernel_rfl
    rw [hB'];simp only [jd,f1,m2,m3,p1,p2,p3,p4,List.getElem?_cons_zero,List.getElem?_cons_succ]
   | true=>
    rw [hv] at m3;obtain ⟨b,m4,hcn⟩:=m4 hv;have hl8:=hcn.1;obtain ⟨k,a6,s6,x,y,p1,p2,a5,s5,p3,p4⟩:=Y0 hb (((normC e).length:Nat):Int) (by omega) a4 s4 (by omega) (by omega);refine ⟨normC e,x,y,hcn.cq,?_⟩;rw [g45];simp only [jd,okb,e1,hg,e2,e3,y1,ld3,f0,e4,m1,List.getElem?_cons_zero,List.getElem?_cons_succ];generalize hB:j7 _ _ _=B;have hB':B=some (.agg [vb l.1,sv (sub u l.2).name,jY (sub u l.2).args]):=by rw [<-hB];kernel_rfl
    rw [hB'];simp only [jd,f1,m2,m3,m4,p1,p2,p3,p4,List.getElem?_cons_zero,List.getElem?_cons_succ]
 ·obtain ⟨k,a4,s4,x,y,p1,p2,a3,s3,p3,p4⟩:=Y0 hb ((d.length:Nat):Int) (by omega) a1 s1 (by omega) (by omega);refine ⟨d,x,y,hd,?_⟩;rw [g45];simp only [jd,okb,e1,hg,p1,p2,p3,p4,List.getElem?_cons_zero,List.getElem?_cons_succ]
end
noncomputable def Y9 (code:List Int) (s:Int) (hs:1<=s):Mdl:=⟨zM code s,λn vs=>decide (jd1 code (126::n) vs % 2=1),λv=>0<=v/\v < s,jbf s hs⟩
section
variable {code:List Int} (hb:By code)
include hb
theorem jlJ (s:Int) (hs:1<=s/\s<=10) (E:Env) (hEl:E.length<=4000000) (hE:∀x,0<=kL E x/\kL E x < s) (t:T) (ht:Tz t):G 84 [kG code,vi s,ev E,tm t]=some (vb (yk (Y9 code s hs.1) (kL E) t),[]):=by
 have hz:=ht;unfold Tz at hz;rw [kO] at hz;have hv:∀v∈t.args.map (val (zM code s) (kL E)),0<=v/\v<=10:=by
  intro v hv;obtain ⟨u,_,rfl⟩:=List.mem_map.1 hv;have:=jeK (good:=λv=>0<=v/\v < s) (M:=zM code s) (jbf s hs.1) hE u;omega
 have key:=upto (P:=λi=>jh3 (kG code) (vi s) (vi (i:Nat)) (.sl 1 (E.map λp=>cs p.1)) (.sl 1 (E.map λp=>ci p.2)) (sv t.name) (jY t.args) (((t.args.take i).map (val (zM code s) (kL E))).map ci)=some (vb (yk (Y9 code s hs.1) (kL E) t),[])) (n:=t.args.length) ?_ ?_ 0 (Nat.zero_le _)
 ·rw [g84];exact key
 ·obtain ⟨m0,me⟩:=jmN hb (126::t.name) (by rw [List.length_cons];omega) _ hv (by rw [List.length_map];omega)
  have r:=jhu (x:=jd1 code (126::t.name) (t.args.map (val (zM code s) (kL E)))) (n:=2) m0 (by decide);have sa:jp .add false (sv [126]) (sv t.name)=some (sv (126::t.name)):=by rw [K2,if_pos (by simp;omega)];rfl
  have lt0:¬((t.args.length:Nat):Int) < ((t.args.length:Nat):Int):=by omega
  have hlen:(t.args.map (val (zM code s) (kL E))).length=t.args.length:=List.length_map ..;rw [List.take_length,juT];by_cases hn:t.name = [61]
  ·by_cases h2:t.args.length=2
   ·have ha:=jgS h2;have hh:yk (Y9 code s hs.1) (kL E) t=decide (val (zM code s) (kL E) (jcs t)=val (zM code s) (kL E) (jcu t)):=by
     unfold yk;rw [if_pos ⟨hn,h2⟩];rfl
    rw [hh];have hm:(t.args.map (val (zM code s) (kL E))).map ci = [[vi (val (zM code s) (kL E) (jcs t))],[vi (val (zM code s) (kL E) (jcu t))]]:=by rw [ha];rfl
    rw [hm];generalize val (zM code s) (kL E) (jcs t)=x at *;generalize val (zM code s) (kL E) (jcu t)=y at *;have p0:Ke 2 (vi 0)=some 0:=rfl;have p1:Ke 2 (vi 1)=some 1:=rfl;have q0:yE [[vi x],[vi y]] 0 0=some (vi x):=rfl;have q1:yE [[vi x],[vi y]] 1 0=some (vi y):=rfl;have hl2:([[vi x],[vi y]]:List (List A)).length=2:=rfl;have h22:((2:Nat):Int)=2:=rfl;generalize hR: [[vi x],[vi y]]=R at *;simp only [jd,lt0,hn,hl2,h22,p0,p1,q0,q1]
   ·have hh:yk (Y9 code s hs.1) (kL E) t=decide (jd1 code (126::t.name) (t.args.map (val (zM code s) (kL E))) % 2=1):=by
     unfold yk;rw [if_neg (λh=>h2 h.2)];rfl
    have h2':¬((t.args.length:Nat):Int)=2:=by omega
    rw [hh];generalize t.args.map (val (zM code s) (kL E))=vs at *;have hl:((vs.length:Nat):Int)=((t.args.length:Nat):Int):=by rw [hlen]
    rw [hn] at sa me r;simp only [jd,lt0,hn,hl,h2',sa,me,r]
  ·have hh:yk (Y9 code s hs.1) (kL E) t=decide (jd1 code (126::t.name) (t.args.map (val (zM code s) (kL E))) % 2=1):=by
    unfold yk;rw [if_neg (λh=>hn h.1)];rfl
   rw [hh];generalize t.args.map (val (zM code s) (kL E))=vs at *;simp only [jd,lt0,hn,sa,me,r]
 ·intro i hi ihi;have hlt:(i:Int) < ((t.args.length:Nat):Int):=by omega
  have h5:=jr hi (by show t.args.length<=9223372036854775807;omega)
  have e1:=joM hb s hs E hEl hE t.args[i] (ht.args _ (List.getElem_mem hi));have f:jB (i+1) 8=true:=jty (by omega);have hmin:min i t.args.length=i:=by omega
  rw [List.take_succ_eq_append_getElem hi,List.map_append,List.map_append,show ([t.args[i]].map (val (zM code s) (kL E))).map ci = [[vi (val (zM code s) (kL E) t.args[i])]] from rfl] at ihi;rw [juT];generalize val (zM code s) (kL E) t.args[i]=v at *;have ihi:jh3 (kG code) (vi s) (vi ((i+1:Nat):Int)) (.sl 1 (E.map λp=>cs p.1)) (.sl 1 (E.map λp=>ci p.2)) (sv t.name) (jY t.args) (jL (((t.args.take i).map (val (zM code s) (kL E))).map ci) [[vi v]])=_:=ihi;have hlen:(((t.args.take i).map (val (zM code s) (kL E))).map ci).length=i:=by simp [hmin]
  generalize ((t.args.take i).map (val (zM code s) (kL E))).map ci=R at *;have f2:jB (R.length+1) 8=true:=by rw [hlen];exact f
  simp only [jd,hlt,ja hi,jl,e1,h5,f2,ihi]
end
def vnC (l:List (List UInt8)) (c:jO):List (List UInt8):=c.foldl (λl x=>vn l x.2) l
theorem jwM {t:T} (hk:z6 t=true) {l:List (List UInt8)} (hl:l.Nodup):(vn l t).Nodup/\(∀x∈l,x∈vn l t)/\ ∀x∈jS t,x∈vn l t:=by
 obtain ⟨a,_,b,c⟩:=jrX (S:=l++jS t) t hk (λx hx=>List.mem_append_right _ hx) l hl (λx hx=>List.mem_append_left _ hx);exact ⟨a,b,c⟩
theorem jnj:∀ {ts:List T} {l:List (List UInt8)},(∀t∈ts,z6 t=true)->l.Nodup->(vnL l ts).Nodup/\(∀x∈l,x∈vnL l ts)/\ ∀t∈ts,∀x∈jS t,x∈vnL l ts
 | [],l,_,hl=>⟨hl,λx h=>h,λt h=>by cases h⟩
 | t::ts,l,hk,hl=>by
  obtain ⟨a,b,c⟩:=jwM (hk t (List.mem_cons_self ..)) hl;obtain ⟨a',b',c'⟩:=jnj (ts:=ts) (λu hu=>hk u (List.mem_cons_of_mem _ hu)) a;refine ⟨a',λx hx=>b' x (b x hx),λu hu x hx=> ?_⟩;rcases List.mem_cons.1 hu with rfl|hu
  ·exact b' x (c x hx)
  ·exact c' u hu x hx
theorem jxe {t:T} (h:Bx t):upN t.name=false:=h.elim (λh=>by rw [h.1];decide) λh=>ZC h.1
theorem jt4 {t:T} (h:Bx t) (l:List (List UInt8)):vn l t=vnL l t.args:=by rw [jnk,jxe h,Bool.and_false,if_neg Bool.false_ne_true]
theorem jni:∀ {c:jO} {l:List (List UInt8)},(∀y∈c,Bx y.2)->l.Nodup->(∀x∈l,x∈vnC l c)/\ ∀y∈c,∀t∈y.2.args,∀x∈jS t,x∈vnC l c
 | [],l,_,hl=>⟨λx h=>h,λy h=>by cases h⟩
 | y::c,l,hk,hl=>by
  have hy:=hk y (List.mem_cons_self ..);obtain ⟨a,b,d⟩:=jnj (ts:=y.2.args) hy.args hl;rw [<-jt4 hy] at a b d;obtain ⟨a',b'⟩:=jni (c:=c) (l:=vn l y.2) (λz hz=>hk z (List.mem_cons_of_mem _ hz)) a;refine ⟨λx hx=>a' x (b x hx),λz hz t ht x hx=> ?_⟩;rcases List.mem_cons.1 hz with rfl|hz
  ·exact a' x (d t ht x hx)
  ·exact b' z hz t ht x hx
theorem jps {m:Mdl} {e e':List UInt8->Int} {c:jO} (hk:∀y∈c,Bx y.2) (h:∀x∈vnC [] c,e x=e' x) (hc:clV m e c):clV m e' c:=by
 obtain ⟨y,hy,hv⟩:=hc;refine ⟨y,hy,?_⟩;rw [<-hv];refine Z1 rfl (List.map_congr_left λt ht=> ?_);exact jf6 t ((hk y hy).args t ht) λx hx=>(h x ((jni (l:=[]) hk List.nodup_nil).2 y hy t ht x hx)).symm
def jci (s:Nat):Nat->Nat->Nat
 | 0,a=>a
 | k+1,a=>if a < 200 then jci s k (a * s) else a
theorem jme {s:Nat} (hs:s<=3):∀(k a:Nat),a<=600->jci s k a<=600
 | 0,a,h=>h
 | k+1,a,h=>by
  rw [jci];split
  ·refine jme hs k _ ?_;have:a * s<=a * 3:=Nat.mul_le_mul_left _ hs;omega
  ·exact h
theorem jh8:∀k:Nat,jci 1 k 1=1
 | 0=>rfl
 | k+1=>by rw [jci,if_pos (by decide),Nat.mul_one,jh8 k]
theorem jkw {s k:Nat} (h1:1<=s) (hs:s<=3) (hk:s=1\/k<=4):jci s k 1=s ^ k:=by
 rcases hk with rfl|hk
 ·rw [jh8,Nat.one_pow]
 ·have:∀s,s < 4-> ∀k,k < 5->jci s k 1=s ^ k:=by decide
  exact this s (by omega) k (by omega)
section
variable {code:List Int} (hb:By code)
include hb
theorem jhJ (s:Nat) (hs:1<=s/\s<=3) (hs1:(1:Int)<=(s:Int)) (c:jO) (hc:c.length<=1000) (hz:∀l∈c,Tz l.2) (al:A) (k:Nat) (hk:k<=1000) (names:List (List UInt8)) (E:Env) (hEl:E.length<=4000000) (hE:∀x,0<=kL E x/\kL E x < (s:Int)) :
  ∀i,i<=c.length-> ∀b:Bool,jhY (kG code) (vi (s:Nat)) al (vi (k:Nat)) (vb b) (vi (i:Nat)) (.sl 3 (c.map jC)) (names.map cs) (E.map λp=>cs p.1) (E.map λp=>ci p.2) =
   if b || (c.drop i).any (λl=>decide (yk (Y9 code s hs1) (kL E) l.2=l.1)) then jc6 (kG code) (vi (s:Nat)) al (vi ((k+1:Nat):Int)) (.sl 3 (c.map jC)) (names.map cs) else some (vb false,[]):=by
 have ck1:jp .add false (vi (k:Nat)) (vi 1)=some (vi ((k+1:Nat):Int)):=jr (n:=k+1) (by omega) (by omega);have ld2:∀l:Lt,jZ 2 (.elt (jC l) 1)=some (tm l.2):=λl=>rfl;have ld0:∀l:Lt,kJ (.elt (jC l) 0)=some (vb l.1):=λl=>rfl;have ad:∀(l:Lt) (n:Nat),yJ (.elt (jC l) 0) n=some (.elt (jC l) n):=λl n=>by rw [yQ,Nat.zero_add]
 generalize hZ:jc6 (kG code) (vi (s:Nat)) al (vi ((k+1:Nat):Int)) (.sl 3 (c.map jC)) (names.map cs)=Z;refine upto ?_ ?_
 ·intro b;have nlt:¬((c.length:Nat):Int) < ((c.length:Nat):Int):=by omega
  rw [List.drop_length,List.any_nil,Bool.or_false,juD];cases b<;>simp only [jd,nlt,ck1,hZ]
 ·intro i hi ih b;have hlt:(i:Int) < ((c.length:Nat):Int):=by omega
  have h5:=jr hi (by show c.length<=9223372036854775807;omega)
  have x1:jq 3 (.sl 3 (c.map jC)) (vi (i:Nat))=some (.elt (jC c[i]) 0):=ja hi;have e:=jlJ hb (s:Nat) (by omega) E hEl hE c[i].2 (hz _ (List.getElem_mem hi));rw [jo hi,List.any_cons,juD];generalize c[i]=l at x1 e ⊢;cases b with
  | true=>simp only [jd,hlt,ck1,hZ,Bool.true_or]
  | false=>
   have ih:=ih (decide (yk (Y9 code s hs1) (kL E) l.2=l.1));rw [Bool.false_or];generalize yk (Y9 code s hs1) (kL E) l.2=h at e ih ⊢;rw [<-ih];simp only [jd,hlt,x1,ad,ld2,ld0,e,h5]
omit hb in
theorem jlb (s:Nat) (c:jO) (hc:c.length<=1000) (hz:∀l∈c,Tz l.2) (hn:∀l∈c,nodes l.2<=3000):∀i,i<=c.length-> ∀l:List (List UInt8),l.length<=3000 * i->jlX (kG code) (vi (s:Nat)) (vi (i:Nat)) (.sl 3 (c.map jC)) (l.map cs)=jhX (kG code) (vi (s:Nat)) (vi 1) (vi 0) (.sl 3 (c.map jC)) ((vnC l (c.drop i)).map cs):=by
 have ld2:∀l:Lt,jZ 2 (.elt (jC l) 1)=some (tm l.2):=λl=>rfl;have ad:∀(l:Lt) (n:Nat),yJ (.elt (jC l) 0) n=some (.elt (jC l) n):=λl n=>by rw [yQ,Nat.zero_add]
 have hr:∀x:List (List A),hR 1 (A.top,[.sl 1 x]) 0=some x:=λx=>rfl;refine upto ?_ ?_
 ·intro l hl;have nlt:¬((c.length:Nat):Int) < ((c.length:Nat):Int):=by omega
  rw [List.drop_length,juB];simp only [jd,nlt,vnC,List.foldl_nil]
 ·intro i hi ih l hl;have hlt:(i:Int) < ((c.length:Nat):Int):=by omega
  have h5:=jr hi (by show c.length<=9223372036854775807;omega)
  have x1:jq 3 (.sl 3 (c.map jC)) (vi (i:Nat))=some (.elt (jC c[i]) 0):=ja hi;have hm:=List.getElem_mem hi;have nn:=hn _ hm;have e:=jf1 c[i].2 (hz _ hm) l (by omega);have ln:=jhM c[i].2 l;have ih:=ih (vn l c[i].2) (by omega);rw [jo hi,show vnC l (c[i]::c.drop (i+1))=vnC (vn l c[i].2) (c.drop (i+1)) from rfl,<-ih,juB];generalize c[i]=y at x1 e ⊢;simp only [jd,hlt,x1,ad,ld2,e,hr,h5]
omit hb in
theorem joQ (s:Nat) (hs:1<=s/\s<=3) (C:A) (names:List (List UInt8)) (hn:names.length<=3000000):∀i,i<=names.length-> ∀a:Nat,a<=600->jhX (kG code) (vi (s:Nat)) (vi (a:Nat)) (vi (i:Nat)) C (names.map cs)=jc6 (kG code) (vi (s:Nat)) (vi ((jci s (names.length - i) a:Nat):Int)) (vi 0) C (names.map cs):=by
 refine upto ?_ ?_
 ·intro a ha;have nlt:¬((names.length:Nat):Int) < ((names.length:Nat):Int):=by omega
  rw [Nat.sub_self,jci,jqJ];simp only [jd,nlt]
 ·intro i hi ih a ha;have hlt:(i:Int) < ((names.length:Nat):Int):=by omega
  have h5:=jr hi (by show names.length<=9223372036854775807;omega)
  rw [show names.length - i=(names.length - (i+1))+1 by omega,jci];by_cases h2:a < 200
  ·have h2':(a:Int) < 200:=by omega
   have hm:a * s<=600:=by have:a * s<=a * 3:=Nat.mul_le_mul_left _ hs.2;omega
   have c1:ck ((a:Int) * ((s:Nat):Int))=some (vi ((a * s:Nat):Int)):=by rw [<-Int.natCast_mul,jG (by omega) (by omega)]
   have ih:=ih (a * s) hm;rw [if_pos h2,<-ih,jqJ];simp only [jd,hlt,h2',c1,h5]
  ·have h2':¬(a:Int) < 200:=by omega
   rw [if_neg h2,jqJ];simp only [jd,hlt,h2']
theorem jcb (s:Nat) (hs:1<=s/\s<=3) (hs1:(1:Int)<=(s:Int)) (c:jO) (hc:c.length<=1000) (hz:∀l∈c,Tz l.2) (hn:∀l∈c,nodes l.2<=3000) (hnm:(vnC [] c).length<=1000) :
  ∃b,G 38 [kG code,vi (s:Nat),cm c]=some (vb b,[])/\(b=true↔ ∀k,k < jci s (vnC [] c).length 1->clV (Y9 code s hs1) (kL (jbb s (vnC [] c) k)) c):=by
 have e0:=jlb (code:=code) s c hc hz hn 0 (Nat.zero_le _) [] (Nat.zero_le _);have hall:=jme hs.2 (vnC [] c).length 1 (by decide);have e1:=joQ (code:=code) s hs (.sl 3 (c.map jC)) (vnC [] c) (by omega) 0 (Nat.zero_le _) 1 (by decide);rw [Nat.sub_zero] at e1;simp only [Int.natCast_zero,Int.natCast_one,List.drop_zero,List.map_nil] at e0 e1;generalize vnC [] c=names at *;generalize jci s names.length 1=n at *;have key:∀k,k<=n-> ∃b,jc6 (kG code) (vi (s:Nat)) (vi (n:Nat)) (vi (k:Nat)) (.sl 3 (c.map jC)) (names.map cs)=some (vb b,[])/\(b=true↔ ∀k',k<=k'->k' < n->clV (Y9 code s hs1) (kL (jbb s names k')) c):=by
  refine upto ?_ ?_
  ·refine ⟨true,?_,by simp;intro k' h1 h2;omega⟩
   have nlt:¬((n:Nat):Int) < ((n:Nat):Int):=by omega
   rw [jqK];simp only [jd,nlt]
  ·rintro k hk ⟨b,e,hbb⟩;have hlt:(k:Int) < ((n:Nat):Int):=by omega
   have en:=jj4 (code:=code) s hs (vi (n:Nat)) (vi (k:Nat)) (.sl 3 (c.map jC)) names hnm names.length 0 k [] (by omega) rfl (by omega);have el:=jhJ hb s hs hs1 c hc hz (vi (n:Nat)) k (by omega) names (jbb s names k) (by rw [jpM];omega) (jfi hs.1 names k) 0 (Nat.zero_le _) false;simp only [Int.natCast_zero] at el;rw [List.drop_zero,List.nil_append,show names.zip ((dec s names.length k).map λv=>((v:Nat):Int))=jbb s names k from rfl,el,Bool.false_or,List.drop_zero,e] at en;have hcl:c.any (λl=>decide (yk (Y9 code s hs1) (kL (jbb s names k)) l.2=l.1))=true↔clV (Y9 code s hs1) (kL (jbb s names k)) c:=by
    rw [List.any_eq_true];unfold clV;simp only [decide_eq_true_eq]
   simp only [Int.natCast_zero,List.map_nil] at en;by_cases ha:c.any (λl=>decide (yk (Y9 code s hs1) (kL (jbb s names k)) l.2=l.1))=true
   ·rw [if_pos ha] at en;refine ⟨b,by rw [jqK];simp only [jd,hlt,en],hbb.trans ⟨λh k' h1 h2=> ?_,λh k' h1 h2=>h k' (by omega) h2⟩⟩;by_cases hkk:k'=k
    ·rw [hkk];exact hcl.1 ha
    ·exact h k' (by omega) h2
   ·rw [if_neg ha] at en;refine ⟨false,by rw [jqK];simp only [jd,hlt,en],⟨λh=>(by cases h),λh=>absurd (hcl.2 (h k (Nat.le_refl _) hk)) ha⟩⟩
 obtain ⟨b,e,hbb⟩:=key 0 (Nat.zero_le _);simp only [Int.natCast_zero] at e;refine ⟨b,?_,hbb.trans ⟨λh k hk=>h k (Nat.zero_le _) hk,λh k _ hk=>h k hk⟩⟩;rw [g38];simp only [jd,e0,e1,e]
theorem jhK (s:Nat) (hs:1<=s/\s<=3) (hs1:(1:Int)<=(s:Int)) (c:jO) (hc:c.length<=1000) (hz:∀l∈c,Tz l.2) (hn:∀l∈c,nodes l.2<=3000) (hnm:(vnC [] c).length<=1000) (ht:trM (Y9 code s hs1) c):G 38 [kG code,vi (s:Nat),cm c]=some (vb true,[]):=by
 obtain ⟨b,e,h⟩:=jcb hb s hs hs1 c hc hz hn hnm;rw [h.2 λk _=>ht _ (jfi hs.1 _ k)] at e;exact e
theorem jlI (s:Nat) (hs:1<=s/\s<=3) (hs1:(1:Int)<=(s:Int)) (c:jO) (hc:c.length<=1000) (hz:∀l∈c,Tz l.2) (hn:∀l∈c,nodes l.2<=3000) (hnm:(vnC [] c).length<=1000) (hk:∀y∈c,Bx y.2) (hsm:s=1\/(vnC [] c).length<=4):∃b,G 38 [kG code,vi (s:Nat),cm c]=some (vb b,[])/\(b=true->trM (Y9 code s hs1) c):=by
 obtain ⟨b,e,h⟩:=jcb hb s hs hs1 c hc hz hn hnm;refine ⟨b,e,λhb1 e' he=> ?_⟩;obtain ⟨k,hk1,hk2⟩:=jpL hs.1 (vnC [] c) e' he;exact jps hk hk2 (h.1 hb1 k (by rw [jkw hs.1 hs.2 hsm];exact hk1))
end
theorem jnh:∀ {c:jO} {l:List (List UInt8)},(∀y∈c,nodes y.2<=30)->(vnC l c).length<=l.length+30 * c.length
 | [],l,_=>by simp [vnC]
 | y::c,l,h=>by
  have h1:=jhM y.2 l;have h2:=h y (by simp);have h3:=jnh (c:=c) (l:=vn l y.2) λz hz=>h z (by simp [hz]);show (vnC (vn l y.2) c).length<=_;rw [List.length_cons];omega
theorem CN.vn {c:jO} (h:CN c):(vnC [] c).length<=240:=by
 have h1:=jnh (c:=c) (l:=[]) λy hy=>(h.2 y hy).2;have h2:=h.1;rw [List.length_nil] at h1;omega
theorem CN.nodes {c:jO} (h:CN c):∀l∈c,nodes l.2<=3000:=λl hl=>by have:=(h.2 l hl).2;omega
section
variable {code:List Int} (hb:By code)
include hb
omit hb in
theorem joL (s:Nat) (c:jO) (h:CN c):G 37 [vi (s:Nat),cm c]=some (vb (decide (s=1\/(vnC [] c).length<=4)),[]):=by
 have ld2:∀l:Lt,jZ 2 (.elt (jC l) 1)=some (tm l.2):=λl=>rfl;have ad:∀(l:Lt) (n:Nat),yJ (.elt (jC l) 0) n=some (.elt (jC l) n):=λl n=>by rw [yQ,Nat.zero_add]
 have hr:∀x:List (List A),hR 1 (A.top,[.sl 1 x]) 0=some x:=λx=>rfl;have hcl:=h.1;have key:=upto (n:=c.length) (P:=λi=>∀l:List (List UInt8),l.length<=3000 * i->jlW (vi (s:Nat)) (vi (i:Nat)) (.sl 3 (c.map jC)) (l.map cs)=some (vb (decide (s=1\/(vnC l (c.drop i)).length<=4)),[])) ?_ ?_ 0 (Nat.zero_le _) [] (Nat.zero_le _)
 ·simp only [Int.natCast_zero,List.drop_zero,List.map_nil] at key;rw [g37];simp only [jd,key]
 ·intro l _;have nlt:¬((c.length:Nat):Int) < ((c.length:Nat):Int):=by omega
  rw [List.drop_length,juA,show vnC l []=l from rfl];by_cases hs:s=1
  ·subst hs;have e1:((1:Nat):Int)=1:=rfl;simp only [jd,nlt,e1,true_or]
  ·have e1:¬((s:Nat):Int)=1:=by omega
   have e2:decide (((l.length:Nat):Int)<=4)=decide (s=1\/l.length<=4):=by congr 1;exact propext ⟨λh=>Or.inr (by omega),λh=>by omega⟩
   rw [<-e2];simp only [jd,nlt,e1]
 ·intro i hi ih l hl;have hlt:(i:Int) < ((c.length:Nat):Int):=by omega
  have h5:=jr hi (by show c.length<=9223372036854775807;omega)
  have x1:jq 3 (.sl 3 (c.map jC)) (vi (i:Nat))=some (.elt (jC c[i]) 0):=ja hi;have hm:=List.getElem_mem hi;have nn:=h.nodes _ hm;have e:=jf1 c[i].2 (h.tz _ hm) l (by omega);have ln:=jhM c[i].2 l;have ih:=ih (vn l c[i].2) (by omega);rw [jo hi,show vnC l (c[i]::c.drop (i+1))=vnC (vn l c[i].2) (c.drop (i+1)) from rfl,<-ih,juA];generalize c[i]=y at x1 e ⊢;simp only [jd,hlt,x1,ad,ld2,e,hr,h5]
theorem jj5 (ps:List jO) (hp:ps.length<=1000) (hps:∀c∈ps,CN c) (x:jO) (hx:CN x) (hsd:Sd ps x) (s:Nat) (hs:1<=s/\s<=3) (hs1:(1:Int)<=(s:Int)) :
  ∀i,i<=ps.length-> ∀b:Bool,(b=true-> ∀j,(h:j < ps.length)->j < i->trM (Y9 code s hs1) ps[j])->jlQ (kG code) (cls ps) (vi (s:Nat)) (vb b) (vi (i:Nat)) (.sl 3 (x.map jC))=Q0 (kG code) (cls ps) (vi ((s+1:Nat):Int)) (.sl 3 (x.map jC)):=by
 have cs1:jp .add false (vi (s:Nat)) (vi 1)=some (vi ((s+1:Nat):Int)):=jr (n:=s+1) (by omega) (by omega);generalize hZ:Q0 (kG code) (cls ps) (vi ((s+1:Nat):Int)) (.sl 3 (x.map jC))=Z;refine upto ?_ ?_
 ·intro b hbt;have nlt:¬((ps.length:Nat):Int) < ((ps.length:Nat):Int):=by omega
  rw [juo];cases b with
  | false=>simp only [jd,nlt,cs1,hZ]
  | true=>
   have e:=jhK hb s hs hs1 x (by have:=hx.1;omega) hx.tz hx.nodes (by have:=hx.vn;omega) (hsd _ λc hc=>by
    obtain ⟨j,hj,rfl⟩:=List.getElem_of_mem hc;exact hbt rfl j hj hj)
   simp only [jd,nlt,cs1,hZ,e]
 ·intro i hi ih b hbt;have hlt:(i:Int) < ((ps.length:Nat):Int):=by omega
  have h5:=jr hi (by show ps.length<=9223372036854775807;omega)
  have hm:=List.getElem_mem hi;have hc:=hps _ hm;have x1:jq 1 (cls ps) (vi (i:Nat))=some (.elt (Jx ps[i]) 0):=ja hi;have ld:jZ 1 (.elt (Jx ps[i]) 0)=some (cm ps[i]):=rfl;rw [juo];cases b with
  | false=>simp only [jd,hlt,cs1,hZ]
  | true=>
   have e1:=joL s ps[i] hc;by_cases hsm:s=1\/(vnC [] ps[i]).length<=4
   ·rw [decide_eq_true hsm] at e1;obtain ⟨b',e2,hb'⟩:=jlI hb s hs hs1 ps[i] (by have:=hc.1;omega) hc.tz hc.nodes (by have:=hc.vn;omega) (λy hy=>(hc.2 y hy).1) hsm;have ih:=ih b' (λhbb j hj hj2=>by
     by_cases hji:j=i
     ·subst hji;exact hb' hbb
     ·exact hbt rfl j hj (by omega))
    simp only [jd,hlt,x1,ld,e1,e2,h5,ih]
   ·rw [decide_eq_false hsm] at e1;have ih:=ih false (λh=>by cases h);simp only [jd,hlt,x1,ld,e1,h5,ih]
theorem jj6 (ps:List jO) (hp:ps.length<=1000) (hps:∀c∈ps,CN c) (x:jO) (hx:CN x) (hsd:Sd ps x):G 14 [kG code,cls ps,cm x]=some (vb true,[]):=by
 have key:∀s:Nat,1<=s->s<=3->Q0 (kG code) (cls ps) (vi (s:Nat)) (.sl 3 (x.map jC))=Q0 (kG code) (cls ps) (vi ((s+1:Nat):Int)) (.sl 3 (x.map jC)):=by
  intro s h1 h3;have hs1:(1:Int)<=(s:Int):=by omega
  have e:=jj5 hb ps hp hps x hx hsd s ⟨h1,h3⟩ hs1 0 (Nat.zero_le _) true (λ_ j _ h=>absurd h (Nat.not_lt_zero _));have hlt:((s:Nat):Int) < 4:=by omega
  simp only [Int.natCast_zero] at e;rw [<-e,jun];simp only [jd,hlt]
 have k1:=key 1 (by decide) (by decide);have k2:=key 2 (by decide) (by decide);have k3:=key 3 (by decide) (by decide);have n4:¬((4:Nat):Int) < 4:=by decide
 have hl:Q0 (kG code) (cls ps) (vi 1) (.sl 3 (x.map jC))=some (vb true,[]):=by
  refine (k1.trans (k2.trans k3)).trans ?_;show Q0 (kG code) (cls ps) (vi ((4:Nat):Int)) (.sl 3 (x.map jC))=_;rw [jun];simp only [jd,n4]
 rw [g14];simp only [jd,hl]
end
theorem jvz (code:List Int):G 6 [kG code]=some (vb (decide (65536 < ((code.length:Nat):Int))),[]):=by
 rw [g6];simp only [jd]
section
variable {code:List Int} (hb:By code)
include hb
theorem jjO (ps:List jO) (hp:ps.length<=100) (hps:∀c∈ps,CN c) (x:jO) (hx:CN x) (h:Sd ps x):G 14 [kG code,cls ps,cm x]=some (vb true,[]):=jj6 hb ps (by omega) hps x hx h
end
theorem jdS (code:List Int) (hp:(∀n∈code,0<=n/\n<=255)/\code.length<=9223372036854775807):G 4 [kG code]=some (vb true,[]):=by
 have e0:=jvz code;rw [g4];by_cases hbig:65536 < ((code.length:Nat):Int)
 ·rw [decide_eq_true hbig] at e0;simp only [jd,e0]
 rw [decide_eq_false hbig] at e0;have hb:By code:=⟨hp.1,by omega⟩;obtain ⟨c,d,hc,hd,e1⟩:=jal hb;obtain ⟨l,b,r1,r2,hl,hx⟩:=je3 c d hc.cz hd.cz;obtain ⟨e,he,e2⟩:=jeV hb;obtain ⟨k,k',b2,f1,f2,hk,hy⟩:=jkU e he.cz;have okb:jK (kG code)=true:=rfl;have loop2:=upto (n:=k.length) (P:=λi=>jsd (kG code) (cls k) (vi (i:Nat)) (.sl 3 (e.map jC))=some (vb true,[])) ?_ ?_ 0 (Nat.zero_le _);rotate_left
 ·have nlt:¬((k.length:Nat):Int) < ((k.length:Nat):Int):=by omega
  rw [jxS];simp only [jd,nlt]
 ·intro i hi ih;have hlt:(i:Int) < ((k.length:Nat):Int):=by omega
  have h5:=jr hi (by show k.length<=9223372036854775807;omega)
  have x1:jq 1 (cls k) (vi (i:Nat))=some (.elt (Jx k[i]) 0):=ja hi;obtain ⟨q1,q2,q3⟩:=hy _ (List.getElem_mem hi);generalize k[i]=x at *;have s1:G 14 [kG code,.sl 1 [[.sl 3 (e.map jC)]],cm x]=some (vb true,[]):=jjO hb [e] (by simp) (λc h=>by simp only [List.mem_singleton] at h;rw [h];exact q1) x q2 q3;rw [jxS];simp only [jd,hlt,x1,ld1,s1,h5,ih]
 have loop1:=upto (n:=l.length) (P:=λi=>jsc (kG code) (cls l) (vi (i:Nat)) (.sl 3 (c.map jC)) (.sl 3 (d.map jC))=some (vb true,[])) ?_ ?_ 0 (Nat.zero_le _);rotate_left
 ·have nlt:¬((l.length:Nat):Int) < ((l.length:Nat):Int):=by omega
  simp only [Int.natCast_zero] at loop2;rw [jxR];cases b2<;>simp only [jd,nlt,e2,f1,f2,loop2]
 ·intro i hi ih;have hlt:(i:Int) < ((l.length:Nat):Int):=by omega
  have h5:=jr hi (by show l.length<=9223372036854775807;omega)
  have x1:jq 1 (cls l) (vi (i:Nat))=some (.elt (Jx l[i]) 0):=ja hi;obtain ⟨⟨q1,q1'⟩,q2,q3⟩:=hx _ (List.getElem_mem hi);generalize l[i]=x at *;have s1:G 14 [kG code,.sl 1 [[.sl 3 (c.map jC)],[.sl 3 (d.map jC)]],cm x]=some (vb true,[]):=jjO hb [c,d] (by simp) (λy h=>by
   simp only [List.mem_cons,List.not_mem_nil,or_false] at h;rcases h with h|h
   ·rw [h];exact q1
   ·rw [h];exact q1') x q2 q3
  rw [jxR];simp only [jd,hlt,x1,ld1,s1,h5,ih]
 simp only [Int.natCast_zero] at loop1;have hll:decide (((l.length:Nat):Int)=((l.length:Nat):Int))=true:=decide_eq_true rfl;cases b<;>simp only [jd,e0,e1,r1,r2,loop1,hll]
end Go.Proofs.YtdbgbieenhcldaaGreatDoor
