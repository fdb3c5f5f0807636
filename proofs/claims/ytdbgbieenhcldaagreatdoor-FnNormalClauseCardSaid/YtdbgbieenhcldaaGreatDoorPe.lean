/- Pe -/
import Derived.Test.YtdbgbieenhcldaaGreatDoorPd
import Derived.Test.YtdbgbieenhcldaaGreatDoorPb
namespace Go.Proofs.YtdbgbieenhcldaaGreatDoor
open Go Go.RowKit Go.Proofs.YtdbgbieenhcldaaGreatDoor.Abs
set_option linter.unusedSimpArgs false
set_option linter.unusedVariables false
set_option maxHeartbeats 1000000
theorem jfQ (l:List Lt) (hl:l.length<=1000) (hz:∀x∈l,Tz x.2) (i:Nat) (hi:i < l.length) (u:List Lt) (hu:u.length<=1000) (hzu:∀x∈u,Tz x.2):∀k,k<=u.length->(∀j,(h:j < k)-> ∀h':j < u.length,cmpL u[j] l[i] < 0)->
  jbu (vi (i:Nat)) (vi (k:Nat)) (l.map jC) (u.map jC) []=Zx (vi ((i+1:Nat):Int)) (l.map jC) ((qx cmpL u l[i]).map jC) []:=by
 have xi:Z7 l.length (vi (i:Nat))=some i:=yb hi;have ri:=QC hi;have rp:KM (l.map jC) i 0=some (vb l[i].1):=by unfold KM;simp [hi,jC]
 have rn:yh (l.map jC) i 1 2=some (tm l[i].2):=by unfold yh;simp [hi,jC]
 have e2:=jf9 l[i].2 (hz _ (List.getElem_mem _));have hck:ck ((i:Int)+1)=some (vi ((i+1:Nat):Int)):=jH (by omega) (by omega);refine upto ?_ ?_
 ·intro hall;obtain ⟨t1,t2⟩:=jl0 (p:=λa=>decide (cmpL a l[i] < 0)) (Nat.le_refl u.length) (λj h h'=>decide_eq_true (hall j h h')) (Or.inr rfl);obtain ⟨k1,k2,k3,k4,k5,k6,k7,k8,k9⟩:=jbz u (by omega) u.length (Nat.le_refl _) l[i];have hins:qx cmpL u l[i]=u.take u.length++l[i]::u.drop u.length:=by
   unfold qx;rw [t1,t2,List.drop_length,if_neg (by simp)]
  have nlt:¬((u.length:Nat):Int) < ((u.length:Nat):Int):=by omega
  rw [hins,jlv];simp only [jf,nlt,xi,ri,rp,rn,e2];generalize hB:kT _ _ _=B;have hB':B=some (ltm l[i]):=by rw [<-hB];kernel_rfl
  rw [hB'];simp only [jf,k1,k2,k4,k5];rw [if_pos k3,if_pos k7,k6,if_pos k8,hck,Option.bind_some,k9]
 ·intro k hk ih hall;have hlt:((k:Nat):Int) < ((u.length:Nat):Int):=by omega
  have x1:Z7 u.length (vi (k:Nat))=some k:=yb hk;have r1:=QC hk;have e1:=JI u[k] l[i] (hzu _ (List.getElem_mem _)) (hz _ (List.getElem_mem _));rw [jlv];by_cases hc:cmpL u[k] l[i] < 0
  ·have ih:=ih λj h h'=>by
    by_cases hj:j=k
    ·subst hj;exact hc
    ·exact hall j (by omega) h'
   have hk1:ck ((k:Int)+1)=some (vi ((k+1:Nat):Int)):=jH (by omega) (by omega);generalize cmpL u[k] l[i]=d at *;simp only [jf,hlt,x1,r1,xi,ri,e1,hc,hk1];exact ih
  ·obtain ⟨t1,t2⟩:=jl0 (p:=λa=>decide (cmpL a l[i] < 0)) (Nat.le_of_lt hk) (λj h h'=>decide_eq_true (hall j h h')) (Or.inl ⟨hk,decide_eq_false hc⟩);have hins:qx cmpL u l[i]=if cmpL u[k] l[i]=0 then u else u.take k++l[i]::u.drop k:=by
    unfold qx;rw [t1,t2,jl hk];by_cases h0:cmpL u[k] l[i]=0
    ·rw [if_pos h0];exact if_pos (decide_eq_true h0)
    ·rw [if_neg h0];exact if_neg (λe=>h0 (of_decide_eq_true e))
   rw [hins];by_cases h0:cmpL u[k] l[i]=0
   ·rw [if_pos h0];rw [h0] at e1;simp only [jf,hlt,x1,r1,xi,ri,e1,hck]
   ·obtain ⟨k1,k2,k3,k4,k5,k6,k7,k8,k9⟩:=jbz u (by omega) k (Nat.le_of_lt hk) l[i];rw [if_neg h0];generalize cmpL u[k] l[i]=d at *;simp only [jf,hlt,x1,r1,xi,ri,e1,hc,h0,rp,rn,e2];generalize hB:kT _ _ _=B;have hB':B=some (ltm l[i]):=by rw [<-hB];kernel_rfl
    rw [hB'];simp only [jf,k1,k2,k4,k5];rw [if_pos k3,if_pos k7,k6,if_pos k8,hck,Option.bind_some,k9]
theorem jjV (l:List Lt) (hl:l.length<=900) (hz:∀x∈l,Tz x.2):jnX (l.map jC)=some (.top,[.sl 3 ((zl cmpL l).map jC)]):=by
 have key:=upto (P:=λi=>∀u:List Lt,Asc cmpL u->u.length<=i->(∀x∈u,Tz x.2)->Zx (vi (i:Nat)) (l.map jC) (u.map jC) []=some (.top,[.sl 3 (((l.drop i).foldl (qx cmpL) u).map jC)])) (n:=l.length) ?_ ?_ 0 (Nat.zero_le _) [] List.Pairwise.nil (Nat.le_refl _) (λx h=>by cases h)
 ·rw [List.drop_zero] at key;simp only [Int.natCast_zero,List.map_nil] at key;rw [jvn,key];rfl
 ·intro u _ _ _;have nlt:¬((l.length:Nat):Int) < ((l.length:Nat):Int):=by omega
  rw [jlu,List.drop_length];simp only [jf,nlt];rfl
 ·intro i hi ih u ha hu hzu;have hlt:(i:Int) < ((l.length:Nat):Int):=by omega
  have:=jfQ l (by omega) hz i hi u (by omega) hzu 0 (Nat.zero_le _) (λj h=>absurd h (Nat.not_lt_zero _));simp only [Int.natCast_zero] at this;have h2:=ih (qx cmpL u l[i]) (Qm kK ha l[i]).1 (by have:=jcp cmpL u l[i];omega) λx hx=>by
   rcases (jhp ha l[i]).1 hx with h|h
   ·exact hzu x h
   ·rw [h];exact hz _ (List.getElem_mem _)
  rw [jlu,jl hi,List.foldl_cons];simp only [jf,hlt,this,h2]
def Cq (c:jK):Prop:=c.length<=12/\ ∀l∈c,tsz l.2<=1000
theorem Cq.cz {c:jK} (h:Cq c):Cz c:=⟨by have:=h.1;omega,λl hl=>by have:=h.2 l hl;unfold Tz;omega⟩
theorem jtX {c:jK} (h:CN c):∀l∈c,tsz l.2<=300:=λl hl=>by have:=(h.2 l hl).1.tsz;have:=(h.2 l hl).2;omega
theorem CN.cq {c:jK} (h:CN c):Cq c:=⟨by have:=h.1;omega,λl hl=>by have:=jtX h l hl;omega⟩
def RwD (code:List Int) (q:Nat) (a:Int) (o:Option Out):Prop:=∃a' s' c,a<=a'/\a'<=a+(q:Nat)/\(List.length c<=5/\Asc cmpL c/\ ∀l∈c,LV l)/\o=some (.top,[ke code,vi a',vu s',.sl 3 (List.map jC c)])
def CqD (code:List Int) (q:Nat) (a:Int) (o:Option Out):Prop:=∃a' s' c,a<=a'/\a'<=a+(q:Nat)/\Cq c/\o=some (.top,[ke code,vi a',vu s',cm c])
def CqN (code:List Int) (q:Nat) (a:Int) (o:Option Out):Prop:=∃a' s' c,a<=a'/\a'<=a+(q:Nat)/\(List.length c<=12/\ ∀l∈c,tsz (Prod.snd l)<=1000/\Zc (Prod.snd l)=true)/\o=some (.top,[ke code,vi a',vu s',cm c])
theorem CqN.cq {code:List Int} {q:Nat} {a:Int} {o:Option Out} (h:CqN code q a o):CqD code q a o:=by
 obtain ⟨a',s',c,h1,h2,h3,h4⟩:=h;exact ⟨a',s',c,h1,h2,⟨h3.1,λl hl=>(h3.2 l hl).1⟩,h4⟩
def CnD (code:List Int) (q:Nat) (a:Int) (o:Option Out):Prop:=∃a' s' c,a<=a'/\a'<=a+(q:Nat)/\CN c/\o=some (.top,[ke code,vi a',vu s',cm c])
theorem jaN (a x0 x1 x2:A) (xs:List (List A)) (l:List A):hR 3 (a,x0::x1::x2:: .sl 3 xs::l) 3=some xs:=by simp [hR]
theorem jmE {c:jK} (h:CN c) (ha:Asc cmpL c):∃b:Bool,G 32 [cm c]=some (.tup [cm (normC c),vb b],[])/\CN (normC c):=⟨_,jaR c h ha,h.normC⟩
section
variable {code:List Int} (hb:By code)
include hb
theorem jjs (a s:Int) (h0:0<=a) (h1:a<=999950000):RwD code 500 a (ji6 (ke code) (vi a) (vu s)):=by
 obtain ⟨a1,s1,ls,q1,q2,hl,hv,e1⟩:=jhI hb 4 (by decide) a s h0 (by omega);have e1:jkG (vi 4) (ke code) (vi a) (vu s)=_:=e1;have e2:=jjV ls (by omega) (λx hx=>(hv x hx).tz);have hm:=jab cmpL ls;refine ⟨a1,s1,zl cmpL ls,q1,q2,⟨by omega,(zS kK ls).1,λl h=>hv l (yA.1 h)⟩,?_⟩;rw [jtD];simp only [jf,e1,jaN,e2,List.getElem?_cons_zero,List.getElem?_cons_succ]
theorem jb3 (a s:Int) (h0:0<=a) (h1:a<=999950000):∃a' s' l,a<=a'/\a'<=a+1300/\(tsz (Prod.snd l)<=1000/\Zc (Prod.snd l)=true)/\je0 (ke code) (vi a) (vu s)=some (.top,[ke code,vi a',vu s',ltm l]):=by
 obtain ⟨a1,s1,l,q1,q2,hv,e1⟩:=jcL hb a s h0 (by omega);obtain ⟨a2,s2,x,r1,r2,x0,x1,e2⟩:=zW hb 16 (by decide) (by decide) a1 s1 (by omega) (by omega);have hz:=hv.tsz;rw [jtE];by_cases y0:x=0
 ·subst y0;obtain ⟨a3,s3,t3,u1,u2,u3,e3⟩:=jjg hb a2 s2 (by omega) (by omega);refine ⟨a3,s3,(l.1,t3),by omega,by omega,u3,?_⟩;simp only [jf,e1,e2,e3,List.getElem?_cons_zero,List.getElem?_cons_succ,jrx]
 by_cases y1:x=1
 ·subst y1;obtain ⟨a3,s3,t3,u1,u2,u3,e3⟩:=QN hb a2 s2 (by omega) (by omega);have hargs:l.2.args.length<=1000:=by have:=j4 l.2;omega
  have hf:jO (l.2.args.length+1) 40=true:=jj6 (by omega);have hsz:∀us:List T,zB (us++[t3])=zB us+tsz t3:=by
   intro us;induction us with
   | nil=>simp [zB]
   | cons u us ih=>simp only [List.cons_append,zB];omega
  have hq:=j4 l.2;refine ⟨a3,s3,(l.1,.mk l.2.name (l.2.args++[t3])),by omega,by omega,⟨by show tsz (.mk _ _)<=1000;rw [yN,hsz,List.length_append,List.length_singleton];omega,jhW (nmN hv.2.2) (by rw [jcX,nmA hv.2.2,qK,u3.2];rfl)⟩,?_⟩;simp only [jf,e1,e2,e3,hf,List.length_map,List.getElem?_cons_zero,List.getElem?_cons_succ,jrx,yf];show _=some (A.top,[ke code,vi a3,vu s3,A.agg [vb l.1,sv l.2.name,.sl 2 ((l.2.args++[t3]).map jy)]]);rw [List.map_append,List.map_cons,kg t3];rfl
 ·refine ⟨a2,s2,l,by omega,by omega,⟨by omega,hv.2.2⟩,?_⟩;simp only [jf,e1,e2,y0,y1,List.getElem?_cons_zero,List.getElem?_cons_succ,jrx]
theorem jjY:∀(k i:Nat),i+k=9-> ∀(c:jK),c.length=i->(∀l∈c,tsz l.2<=1000/\Zc l.2=true)-> ∀a s:Int,0<=a->a<=999980000 - 10 * (k:Nat)->CqN code (2 * k+2) a (Zy (vi (i:Nat)) (ke code) (vi a) (vu s) (c.map jC) []):=by
 intro k;induction k with
 | zero=>
  intro i hi c hc hz a s h0 h1;obtain ⟨a1,s1,x,q1,q2,x0,x1,e1⟩:=zW hb 2 (by decide) (by decide) a s h0 (by omega);have c1:ck (8+x)=some (vi (8+x)):=jH (by omega) (by omega);have nlt:¬((i:Nat):Int) < 8+x:=by omega
  refine ⟨a1,s1,c,q1,by omega,⟨by omega,hz⟩,?_⟩;rw [jfP];simp only [jf,e1,c1,nlt,List.getElem?_cons_zero,List.getElem?_cons_succ]
 | succ k ih=>
  intro i hi c hc hz a s h0 h1;obtain ⟨a1,s1,x,q1,q2,x0,x1,e1⟩:=zW hb 2 (by decide) (by decide) a s h0 (by omega);have c1:ck (8+x)=some (vi (8+x)):=jH (by omega) (by omega);by_cases hlt:((i:Nat):Int) < 8+x
  ·have n1:=jcG i (by omega);have hd:=(zP 6 i (by omega)).2;have a2:js .add false (sv [112]) (sv (Lib.decDigits i))=some (sv ([112]++Lib.decDigits i)):=by rw [Ka,if_pos (by simp only [List.length_cons,List.length_nil];omega)]
   obtain ⟨a3,s3,w,hw,r1,r2,e3⟩:=jbC hb [[88],[89]] (by decide) (by decide) (by decide) a1 s1 (by omega) (by omega);have e3:ym (ke code) (vi a1) (vu s1) [[sv [88]],[sv [89]]]=some (.top,[ke code,vi a3,vu s3,sv w]):=e3;have f1:jO (c.length+1) 48=true:=jc7 (by omega);have c5:ck ((i:Int)+1)=some (vi ((i+1:Nat):Int)):=jH (by omega) (by omega);obtain ⟨a4,s4,c',v1,v2,v3,e4⟩:=ih (i+1) (by omega) (c++[(true,.mk ([112]++Lib.decDigits i) [.mk w []])]) (by rw [List.length_append,List.length_singleton];omega) (λl h=>by
    rcases List.mem_append.1 h with h|h
    ·exact hz l h
    ·rw [List.mem_singleton.1 h];refine ⟨?_,nm1 rfl (nm0 hw.2)⟩;show tsz (.mk _ _)<=1000;rw [yN];simp only [List.length_append,List.length_cons,List.length_nil,zB,yN];omega) a3 s3 (by omega) (by omega)
   refine ⟨a4,s4,c',by omega,by omega,v3,?_⟩;rw [<-YZ] at e4;have e4:Zy (vi ((i+1:Nat):Int)) (ke code) (vi a3) (vu s3) (kM (c.map jC) [[vb true,sv ([112]++Lib.decDigits i),.sl 2 [[sv w,.sl 2 []]]]]) []=_:=e4;rw [jfP];generalize [112]++Lib.decDigits i=nm at *;simp only [jf,e1,c1,hlt,n1,a2,e3,f1,c5,e4,List.getElem?_cons_zero,List.getElem?_cons_succ]
  ·refine ⟨a1,s1,c,q1,by omega,⟨by omega,hz⟩,?_⟩;rw [jfP];simp only [jf,e1,c1,hlt,List.getElem?_cons_zero,List.getElem?_cons_succ]
theorem jdN (a s:Int) (h0:0<=a) (h1:a<=999940000):CqN code 2000 a (jnY (ke code) (vi a) (vu s)):=by
 obtain ⟨a1,s1,c,q1,q2,⟨hl,ha,hv⟩,e1⟩:=jjs hb a s h0 (by omega);obtain ⟨a2,s2,x,r1,r2,x0,x1,e2⟩:=zW hb 20 (by decide) (by decide) a1 s1 (by omega) (by omega);have hz:∀l∈c,tsz l.2<=1000/\Zc l.2=true:=λl h=>⟨by have:=(hv l h).tsz;omega,(hv l h).2.2⟩;have hq:List.length c<=12/\ ∀l∈c,tsz (Prod.snd l)<=1000/\Zc (Prod.snd l)=true:=⟨by omega,hz⟩;have f1:jO (c.length+1) 48=true:=jc7 (by omega);rw [jvq];by_cases y0:x=0
 ·subst y0;obtain ⟨a3,s3,l,u1,u2,u3,e3⟩:=jb3 hb a2 s2 (by omega) (by omega);refine ⟨a3,s3,c++[l],by omega,by omega,⟨by rw [List.length_append,List.length_singleton];omega,λy h=>by
   rcases List.mem_append.1 h with h|h
   ·exact hz y h
   ·rw [List.mem_singleton.1 h];exact u3⟩,?_⟩
  have e3:je0 (ke code) (vi a2) (vu s2)=some (.top,[ke code,vi a3,vu s3,.agg [vb l.1,sv l.2.name,kr l.2.args]]):=e3;show _=some (A.top,[ke code,vi a3,vu s3,.agg [.sl 3 ((c++[l]).map jC)]]);rw [<-YZ];simp only [jf,e1,e2,e3,jaN,f1,List.getElem?_cons_zero,List.getElem?_cons_succ]
 by_cases y1:x=1
 ·subst y1;by_cases hg:(1:Int) < ((c.length:Nat):Int)
  ·obtain ⟨l0,l1,r,rfl⟩:∃l0 l1 r,c=l0::l1::r:=by
    match c,hg with
    | l0::l1::r,_=>exact ⟨l0,l1,r,rfl⟩
    | [],h=>simp at h
    | [x],h=>simp at h
   refine ⟨a2,s2,l1::l0::r,by omega,by omega,⟨by simp only [List.length_cons] at hl ⊢;omega,λy h=>hz y (by
    simp only [List.mem_cons] at h ⊢;rcases h with h|h|h
    ·exact Or.inr (Or.inl h)
    ·exact Or.inl h
    ·exact Or.inr (Or.inr h))⟩,?_⟩
   have i0:Z7 ((l0::l1::r).map jC).length (vi 0)=some 0:=jpJ (f:=jC) (xs:=l0::l1::r) (i:=0) (by simp);have i1:Z7 ((l0::l1::r).map jC).length (vi 1)=some 1:=jpJ (f:=jC) (xs:=l0::l1::r) (i:=1) (by simp);have j1:Z7 ((l1::l1::r).map jC).length (vi 1)=some 1:=jpJ (f:=jC) (xs:=l1::l1::r) (i:=1) (by simp);have r0:yh ((l0::l1::r).map jC) 0 0 3=some (.agg [vb l0.1,sv l0.2.name,kr l0.2.args]):=rfl;have r1:yh ((l0::l1::r).map jC) 1 0 3=some (.agg [vb l1.1,sv l1.2.name,kr l1.2.args]):=rfl;have g0:jgf ((l0::l1::r).map jC) 0=some (jC l0):=rfl;have s0:JM ((l0::l1::r).map jC) 0 (JY (jC l0) 0 [vb l1.1,sv l1.2.name,kr l1.2.args])=(l1::l1::r).map jC:=rfl;have g1:jgf ((l1::l1::r).map jC) 1=some (jC l1):=rfl;have s1':JM ((l1::l1::r).map jC) 1 (JY (jC l1) 0 [vb l0.1,sv l0.2.name,kr l0.2.args])=(l1::l0::r).map jC:=rfl;have hg:(1:Int) < ((((l0::l1::r).map jC).length:Nat):Int):=by rw [List.length_map];exact hg
   have n0:js .eql false (vi 1) (vi 0)=some (vb false):=rfl;show _=some (A.top,[ke code,vi a2,vu s2,.agg [.sl 3 ((l1::l0::r).map jC)]]);rw [<-s1'];generalize (l0::l1::r).map jC=X at *;generalize (l1::l1::r).map jC=Y at *;simp only [jf,e1,e2,y0,jaN,hg,i0,r0,i1,r1,g0,s0,j1,g1,List.getElem?_cons_zero,List.getElem?_cons_succ]
  ·refine ⟨a2,s2,c,by omega,by omega,hq,?_⟩;simp only [jf,e1,e2,y0,hg,jaN,List.getElem?_cons_zero,List.getElem?_cons_succ]
 by_cases y2:x=2
 ·subst y2;obtain ⟨a3,s3,c',u1,u2,u3,e3⟩:=jjY hb 9 0 (by decide) [] rfl (λl h=>by cases h) a2 s2 (by omega) (by omega);have e3:Zy (vi 0) (ke code) (vi a2) (vu s2) [] []=_:=e3;refine ⟨a3,s3,c',by omega,by omega,u3,?_⟩;simp only [jf,e1,e2,y0,y1,e3,jaN,List.getElem?_cons_zero,List.getElem?_cons_succ]
 by_cases y3:x=3
 ·subst y3;by_cases hg:(0:Int) < ((c.length:Nat):Int)
  ·have hi:c.length - 1 < c.length:=by omega
   have c1:ck (((c.length:Nat):Int) - 1)=some (vi ((c.length - 1:Nat):Int)):=by rw [show ((c.length:Nat):Int) - 1=((c.length - 1:Nat):Int) by omega];exact jH (by omega) (by omega)
   have i1:Z7 c.length (vi ((c.length - 1:Nat):Int))=some (c.length - 1):=yb hi;have r1:=QC hi;have hzl:=hz _ (List.getElem_mem hi);generalize c[c.length - 1]=l at r1 hzl;have r1:yh (c.map jC) (c.length - 1) 0 3=some (.agg [vb l.1,sv l.2.name,kr l.2.args]):=r1;refine ⟨a2,s2,c++[l],by omega,by omega,⟨by rw [List.length_append,List.length_singleton];omega,λy h=>by
    rcases List.mem_append.1 h with h|h
    ·exact hz y h
    ·rw [List.mem_singleton.1 h];exact hzl⟩,?_⟩
   show _=some (A.top,[ke code,vi a2,vu s2,.agg [.sl 3 ((c++[l]).map jC)]]);rw [<-YZ];simp only [jf,e1,e2,y0,y1,y2,jaN,hg,c1,i1,r1,f1,List.getElem?_cons_zero,List.getElem?_cons_succ]
  ·refine ⟨a2,s2,c,by omega,by omega,hq,?_⟩;simp only [jf,e1,e2,y0,y1,y2,hg,jaN,List.getElem?_cons_zero,List.getElem?_cons_succ]
 ·refine ⟨a2,s2,c,by omega,by omega,hq,?_⟩;simp only [jf,e1,e2,y0,y1,y2,y3,jaN,List.getElem?_cons_zero,List.getElem?_cons_succ]
omit hb in
theorem made {ls:List Lt} (hl:ls.length<=20) (hz:∀l∈ls,tsz l.2<=1000) (p:Bool) {u:List (List UInt8 × T)} (hu:u.length<=4/\Sz 192 u) {t:T} (ht:tsz t<=1000):∃e:jK,
  G 50 [sb u,tm t]=some (tm (sub u t),[])/\G 53 [.sl 3 ((ls++[(p,sub u t)]).map jC)]=some (cm e,[])/\G 31 [cm e]=some (vb (kC e),[])/\(kC e=true-> ∃b:Bool,G 32 [cm e]=some (.tup [cm (normC e),vb b],[])/\CN (normC e)):=by
 have e1:=jjT u ⟨by omega,λq hq=>by have:=hu.2.2 q hq;omega⟩ t (by omega)
 have hsz:=jqg (u:=u) (Z:=192) (by decide) (λq hq=>(hu.2.2 q hq).2) t;have hz':∀l∈ls++[(p,sub u t)],Tz l.2:=λl h=>by
  rcases List.mem_append.1 h with h|h
  ·have:=hz l h;unfold Tz;omega
  ·rw [List.mem_singleton.1 h];show tsz (sub u t)<=1048576;omega
 have e2:=Q8 (ls++[(p,sub u t)]) (by rw [List.length_append,List.length_singleton];omega) hz'
 have hm:=jab cmpL (ls++[(p,sub u t)]);rw [List.length_append,List.length_singleton] at hm;have e3:=J7 (zl cmpL (ls++[(p,sub u t)])) (by omega) (λl h=>hz' l (yA.1 h));exact ⟨_,e1,e2,e3,λhv=>jmE (km hv).1 (km hv).2.1⟩
end
noncomputable def ZS (code:List Int) (s:Int) (hs:1<=s):Mdl:=⟨zh code s,λn vs=>decide (jcU code (126::n) vs % 2=1),λv=>0<=v/\v < s,jac s hs⟩
section
variable {code:List Int} (hb:By code)
include hb
theorem jkz (s:Int) (hs:1<=s/\s<=10) (E:Env) (hEl:E.length<=4000000) (hE:∀x,0<=j7 E x/\j7 E x < s) (t:T) (ht:Tz t):G 84 [ke code,vi s,ev E,tm t]=some (vb (yg (ZS code s hs.1) (j7 E) t),[]):=by
 have hz:=ht;unfold Tz at hz;rw [j4] at hz;have hv:∀v∈t.args.map (val (zh code s) (j7 E)),0<=v/\v<=10:=by
  intro v hv;obtain ⟨u,_,rfl⟩:=List.mem_map.1 hv;have:=jiX (good:=λv=>0<=v/\v < s) (M:=zh code s) (jac s hs.1) hE u;omega
 have key:=upto (P:=λi=>jgJ (ke code) (vi s) (vi (i:Nat)) (.sl 1 (E.map λp=>cs p.1)) (.sl 1 (E.map λp=>ci p.2)) (sv t.name) (kr t.args) (((t.args.take i).map (val (zh code s) (j7 E))).map ci)=some (vb (yg (ZS code s hs.1) (j7 E) t),[])) (n:=t.args.length) ?_ ?_ 0 (Nat.zero_le _)
 ·rw [g84];exact key
 ·obtain ⟨m0,me⟩:=jlA hb (126::t.name) (by rw [List.length_cons];omega) _ hv (by rw [List.length_map];omega)
  have r:=jgc (x:=jcU code (126::t.name) (t.args.map (val (zh code s) (j7 E)))) (n:=2) m0 (by decide);have sa:js .add false (sv [126]) (sv t.name)=some (sv (126::t.name)):=by rw [Ka,if_pos (by simp;omega)];rfl
  have lt0:¬((t.args.length:Nat):Int) < ((t.args.length:Nat):Int):=by omega
  have hlen:(t.args.map (val (zh code s) (j7 E))).length=t.args.length:=List.length_map ..;rw [List.take_length,js3];by_cases hn:t.name = [61]
  ·by_cases h2:t.args.length=2
   ·have ha:=jfu h2;have hh:yg (ZS code s hs.1) (j7 E) t=decide (val (zh code s) (j7 E) (jbk t)=val (zh code s) (j7 E) (jbn t)):=by
     unfold yg;rw [if_pos ⟨hn,h2⟩];rfl
    rw [hh];have hm:(t.args.map (val (zh code s) (j7 E))).map ci = [[vi (val (zh code s) (j7 E) (jbk t))],[vi (val (zh code s) (j7 E) (jbn t))]]:=by rw [ha];rfl
    rw [hm];generalize val (zh code s) (j7 E) (jbk t)=x at *;generalize val (zh code s) (j7 E) (jbn t)=y at *;have p0:Z7 2 (vi 0)=some 0:=rfl;have p1:Z7 2 (vi 1)=some 1:=rfl;have q0:KM [[vi x],[vi y]] 0 0=some (vi x):=rfl;have q1:KM [[vi x],[vi y]] 1 0=some (vi y):=rfl;have hl2:([[vi x],[vi y]]:List (List A)).length=2:=rfl;have h22:((2:Nat):Int)=2:=rfl;generalize hR: [[vi x],[vi y]]=R at *;simp only [jf,lt0,hn,hl2,h22,p0,p1,q0,q1]
   ·have hh:yg (ZS code s hs.1) (j7 E) t=decide (jcU code (126::t.name) (t.args.map (val (zh code s) (j7 E))) % 2=1):=by
     unfold yg;rw [if_neg (λh=>h2 h.2)];rfl
    have h2':¬((t.args.length:Nat):Int)=2:=by omega
    rw [hh];generalize t.args.map (val (zh code s) (j7 E))=vs at *;have hl:((vs.length:Nat):Int)=((t.args.length:Nat):Int):=by rw [hlen]
    rw [hn] at sa me r;simp only [jf,lt0,hn,hl,h2',sa,me,r]
  ·have hh:yg (ZS code s hs.1) (j7 E) t=decide (jcU code (126::t.name) (t.args.map (val (zh code s) (j7 E))) % 2=1):=by
    unfold yg;rw [if_neg (λh=>hn h.1)];rfl
   rw [hh];generalize t.args.map (val (zh code s) (j7 E))=vs at *;simp only [jf,lt0,hn,sa,me,r]
 ·intro i hi ihi;have hlt:(i:Int) < ((t.args.length:Nat):Int):=by omega
  have h5:=jv hi (by show t.args.length<=9223372036854775807;omega)
  have e1:=jnI hb s hs E hEl hE t.args[i] (ht.args _ (List.getElem_mem hi));have f:jO (i+1) 8=true:=jrQ (by omega);have hmin:min i t.args.length=i:=by omega
  rw [List.take_succ_eq_append_getElem hi,List.map_append,List.map_append,show ([t.args[i]].map (val (zh code s) (j7 E))).map ci = [[vi (val (zh code s) (j7 E) t.args[i])]] from rfl] at ihi;rw [js3];generalize val (zh code s) (j7 E) t.args[i]=v at *;have ihi:jgJ (ke code) (vi s) (vi ((i+1:Nat):Int)) (.sl 1 (E.map λp=>cs p.1)) (.sl 1 (E.map λp=>ci p.2)) (sv t.name) (kr t.args) (kM (((t.args.take i).map (val (zh code s) (j7 E))).map ci) [[vi v]])=_:=ihi;have hlen:(((t.args.take i).map (val (zh code s) (j7 E))).map ci).length=i:=by simp [hmin]
  generalize ((t.args.take i).map (val (zh code s) (j7 E))).map ci=R at *;have f2:jO (R.length+1) 8=true:=by rw [hlen];exact f
  simp only [jf,hlt,jb hi,jk,e1,h5,f2,ihi]
end
def vnC (l:List (List UInt8)) (c:jK):List (List UInt8):=c.foldl (λl x=>vn l x.2) l
theorem juI {t:T} (hk:zO t=true) {l:List (List UInt8)} (hl:l.Nodup):(vn l t).Nodup/\(∀x∈l,x∈vn l t)/\ ∀x∈kP t,x∈vn l t:=by
 obtain ⟨a,_,b,c⟩:=jdF (S:=l++kP t) t hk (λx hx=>List.mem_append_right _ hx) l hl (λx hx=>List.mem_append_left _ hx);exact ⟨a,b,c⟩
theorem jl6:∀ {ts:List T} {l:List (List UInt8)},(∀t∈ts,zO t=true)->l.Nodup->(vnL l ts).Nodup/\(∀x∈l,x∈vnL l ts)/\ ∀t∈ts,∀x∈kP t,x∈vnL l ts
 | [],l,_,hl=>⟨hl,λx h=>h,λt h=>by cases h⟩
 | t::ts,l,hk,hl=>by
  obtain ⟨a,b,c⟩:=juI (hk t (List.mem_cons_self ..)) hl;obtain ⟨a',b',c'⟩:=jl6 (ts:=ts) (λu hu=>hk u (List.mem_cons_of_mem _ hu)) a;refine ⟨a',λx hx=>b' x (b x hx),λu hu x hx=> ?_⟩;rcases List.mem_cons.1 hu with rfl|hu
  ·exact b' x (c x hx)
  ·exact c' u hu x hx
theorem jvj {t:T} (h:Bx t):upN t.name=false:=h.elim (λh=>by rw [h.1];decide) λh=>jbP h.1
theorem jsl {t:T} (h:Bx t) (l:List (List UInt8)):vn l t=vnL l t.args:=by rw [ji0,jvj h,Bool.and_false,if_neg Bool.false_ne_true]
theorem jl5:∀ {c:jK} {l:List (List UInt8)},(∀y∈c,Bx y.2)->l.Nodup->(∀x∈l,x∈vnC l c)/\ ∀y∈c,∀t∈y.2.args,∀x∈kP t,x∈vnC l c
 | [],l,_,hl=>⟨λx h=>h,λy h=>by cases h⟩
 | y::c,l,hk,hl=>by
  have hy:=hk y (List.mem_cons_self ..);obtain ⟨a,b,d⟩:=jl6 (ts:=y.2.args) hy.args hl;rw [<-jsl hy] at a b d;obtain ⟨a',b'⟩:=jl5 (c:=c) (l:=vn l y.2) (λz hz=>hk z (List.mem_cons_of_mem _ hz)) a;refine ⟨λx hx=>a' x (b x hx),λz hz t ht x hx=> ?_⟩;rcases List.mem_cons.1 hz with rfl|hz
  ·exact a' x (d t ht x hx)
  ·exact b' z hz t ht x hx
theorem jol {m:Mdl} {e e':List UInt8->Int} {c:jK} (hk:∀y∈c,Bx y.2) (h:∀x∈vnC [] c,e x=e' x) (hc:clV m e c):clV m e' c:=by
 obtain ⟨y,hy,hv⟩:=hc;refine ⟨y,hy,?_⟩;rw [<-hv];refine jco rfl (List.map_congr_left λt ht=> ?_);exact jeS t ((hk y hy).args t ht) λx hx=>(h x ((jl5 (l:=[]) hk List.nodup_nil).2 y hy t ht x hx)).symm
def jbd (s:Nat):Nat->Nat->Nat
 | 0,a=>a
 | k+1,a=>if a < 200 then jbd s k (a * s) else a
theorem jk2 {s:Nat} (hs:s<=3):∀(k a:Nat),a<=600->jbd s k a<=600
 | 0,a,h=>h
 | k+1,a,h=>by
  rw [jbd];split
  ·refine jk2 hs k _ ?_;have:a * s<=a * 3:=Nat.mul_le_mul_left _ hs;omega
  ·exact h
theorem jgO:∀k:Nat,jbd 1 k 1=1
 | 0=>rfl
 | k+1=>by rw [jbd,if_pos (by decide),Nat.mul_one,jgO k]
theorem jjf {s k:Nat} (h1:1<=s) (hs:s<=3) (hk:s=1\/k<=4):jbd s k 1=s ^ k:=by
 rcases hk with rfl|hk
 ·rw [jgO,Nat.one_pow]
 ·have:∀s,s < 4-> ∀k,k < 5->jbd s k 1=s ^ k:=by decide
  exact this s (by omega) k (by omega)
section
variable {code:List Int} (hb:By code)
include hb
theorem jgy (s:Nat) (hs:1<=s/\s<=3) (hs1:(1:Int)<=(s:Int)) (c:jK) (hc:c.length<=1000) (hz:∀l∈c,Tz l.2) (al:A) (k:Nat) (hk:k<=1000) (names:List (List UInt8)) (E:Env) (hEl:E.length<=4000000) (hE:∀x,0<=j7 E x/\j7 E x < (s:Int)) :
  ∀i,i<=c.length-> ∀b:Bool,jgF (ke code) (vi (s:Nat)) al (vi (k:Nat)) (vb b) (vi (i:Nat)) (.sl 3 (c.map jC)) (names.map cs) (E.map λp=>cs p.1) (E.map λp=>ci p.2) =
   if b || (c.drop i).any (λl=>decide (yg (ZS code s hs1) (j7 E) l.2=l.1)) then jbZ (ke code) (vi (s:Nat)) al (vi ((k+1:Nat):Int)) (.sl 3 (c.map jC)) (names.map cs) else some (vb false,[]):=by
 have ck1:js .add false (vi (k:Nat)) (vi 1)=some (vi ((k+1:Nat):Int)):=jv (n:=k+1) (by omega) (by omega);have ld2:∀l:Lt,jP 2 (.elt (jC l) 1)=some (tm l.2):=λl=>rfl;have ld0:∀l:Lt,zn (.elt (jC l) 0)=some (vb l.1):=λl=>rfl;have ad:∀(l:Lt) (n:Nat),qL (.elt (jC l) 0) n=some (.elt (jC l) n):=λl n=>by rw [Jh,Nat.zero_add]
 generalize hZ:jbZ (ke code) (vi (s:Nat)) al (vi ((k+1:Nat):Int)) (.sl 3 (c.map jC)) (names.map cs)=Z;refine upto ?_ ?_
 ·intro b;have nlt:¬((c.length:Nat):Int) < ((c.length:Nat):Int):=by omega
  rw [List.drop_length,List.any_nil,Bool.or_false,jsP];cases b<;>simp only [jf,nlt,ck1,hZ]
 ·intro i hi ih b;have hlt:(i:Int) < ((c.length:Nat):Int):=by omega
  have h5:=jv hi (by show c.length<=9223372036854775807;omega)
  have x1:ju 3 (.sl 3 (c.map jC)) (vi (i:Nat))=some (.elt (jC c[i]) 0):=jb hi;have e:=jkz hb (s:Nat) (by omega) E hEl hE c[i].2 (hz _ (List.getElem_mem hi));rw [jl hi,List.any_cons,jsP];generalize c[i]=l at x1 e ⊢;cases b with
  | true=>simp only [jf,hlt,ck1,hZ,Bool.true_or]
  | false=>
   have ih:=ih (decide (yg (ZS code s hs1) (j7 E) l.2=l.1));rw [Bool.false_or];generalize yg (ZS code s hs1) (j7 E) l.2=h at e ih ⊢;rw [<-ih];simp only [jf,hlt,x1,ad,ld2,ld0,e,h5]
omit hb in
theorem jj0 (s:Nat) (c:jK) (hc:c.length<=1000) (hz:∀l∈c,Tz l.2) (hn:∀l∈c,nodes l.2<=3000):∀i,i<=c.length-> ∀l:List (List UInt8),l.length<=3000 * i->jkQ (ke code) (vi (s:Nat)) (vi (i:Nat)) (.sl 3 (c.map jC)) (l.map cs)=jgE (ke code) (vi (s:Nat)) (vi 1) (vi 0) (.sl 3 (c.map jC)) ((vnC l (c.drop i)).map cs):=by
 have ld2:∀l:Lt,jP 2 (.elt (jC l) 1)=some (tm l.2):=λl=>rfl;have ad:∀(l:Lt) (n:Nat),qL (.elt (jC l) 0) n=some (.elt (jC l) n):=λl n=>by rw [Jh,Nat.zero_add]
 have hr:∀x:List (List A),hR 1 (A.top,[.sl 1 x]) 0=some x:=λx=>rfl;refine upto ?_ ?_
 ·intro l hl;have nlt:¬((c.length:Nat):Int) < ((c.length:Nat):Int):=by omega
  rw [List.drop_length,jsN];simp only [jf,nlt,vnC,List.foldl_nil]
 ·intro i hi ih l hl;have hlt:(i:Int) < ((c.length:Nat):Int):=by omega
  have h5:=jv hi (by show c.length<=9223372036854775807;omega)
  have x1:ju 3 (.sl 3 (c.map jC)) (vi (i:Nat))=some (.elt (jC c[i]) 0):=jb hi;have hm:=List.getElem_mem hi;have nn:=hn _ hm;have e:=jaw c[i].2 (hz _ hm) l (by omega);have ln:=jdG c[i].2 l;have ih:=ih (vn l c[i].2) (by omega);rw [jl hi,show vnC l (c[i]::c.drop (i+1))=vnC (vn l c[i].2) (c.drop (i+1)) from rfl,<-ih,jsN];generalize c[i]=y at x1 e ⊢;simp only [jf,hlt,x1,ad,ld2,e,hr,h5]
omit hb in
theorem jnO (s:Nat) (hs:1<=s/\s<=3) (C:A) (names:List (List UInt8)) (hn:names.length<=3000000):∀i,i<=names.length-> ∀a:Nat,a<=600->jgE (ke code) (vi (s:Nat)) (vi (a:Nat)) (vi (i:Nat)) C (names.map cs)=jbZ (ke code) (vi (s:Nat)) (vi ((jbd s (names.length - i) a:Nat):Int)) (vi 0) C (names.map cs):=by
 refine upto ?_ ?_
 ·intro a ha;have nlt:¬((names.length:Nat):Int) < ((names.length:Nat):Int):=by omega
  rw [Nat.sub_self,jbd,jpe];simp only [jf,nlt]
 ·intro i hi ih a ha;have hlt:(i:Int) < ((names.length:Nat):Int):=by omega
  have h5:=jv hi (by show names.length<=9223372036854775807;omega)
  rw [show names.length - i=(names.length - (i+1))+1 by omega,jbd];by_cases h2:a < 200
  ·have h2':(a:Int) < 200:=by omega
   have hm:a * s<=600:=by have:a * s<=a * 3:=Nat.mul_le_mul_left _ hs.2;omega
   have c1:ck ((a:Int) * ((s:Nat):Int))=some (vi ((a * s:Nat):Int)):=by rw [<-Int.natCast_mul,jH (by omega) (by omega)]
   have ih:=ih (a * s) hm;rw [if_pos h2,<-ih,jpe];simp only [jf,hlt,h2',c1,h5]
  ·have h2':¬(a:Int) < 200:=by omega
   rw [if_neg h2,jpe];simp only [jf,hlt,h2']
theorem ja9 (s:Nat) (hs:1<=s/\s<=3) (hs1:(1:Int)<=(s:Int)) (c:jK) (hc:c.length<=1000) (hz:∀l∈c,Tz l.2) (hn:∀l∈c,nodes l.2<=3000) (hnm:(vnC [] c).length<=1000) :
  ∃b,G 38 [ke code,vi (s:Nat),cm c]=some (vb b,[])/\(b=true↔ ∀k,k < jbd s (vnC [] c).length 1->clV (ZS code s hs1) (j7 (Q4 s (vnC [] c) k)) c):=by
 have e0:=jj0 (code:=code) s c hc hz hn 0 (Nat.zero_le _) [] (Nat.zero_le _);have hall:=jk2 hs.2 (vnC [] c).length 1 (by decide);have e1:=jnO (code:=code) s hs (.sl 3 (c.map jC)) (vnC [] c) (by omega) 0 (Nat.zero_le _) 1 (by decide);rw [Nat.sub_zero] at e1;simp only [Int.natCast_zero,Int.natCast_one,List.drop_zero,List.map_nil] at e0 e1;generalize vnC [] c=names at *;generalize jbd s names.length 1=n at *;have key:∀k,k<=n-> ∃b,jbZ (ke code) (vi (s:Nat)) (vi (n:Nat)) (vi (k:Nat)) (.sl 3 (c.map jC)) (names.map cs)=some (vb b,[])/\(b=true↔ ∀k',k<=k'->k' < n->clV (ZS code s hs1) (j7 (Q4 s names k')) c):=by
  refine upto ?_ ?_
  ·refine ⟨true,?_,by simp;intro k' h1 h2;omega⟩
   have nlt:¬((n:Nat):Int) < ((n:Nat):Int):=by omega
   rw [jpf];simp only [jf,nlt]
  ·rintro k hk ⟨b,e,hbb⟩;have hlt:(k:Int) < ((n:Nat):Int):=by omega
   have en:=jiR (code:=code) s hs (vi (n:Nat)) (vi (k:Nat)) (.sl 3 (c.map jC)) names hnm names.length 0 k [] (by omega) rfl (by omega);have el:=jgy hb s hs hs1 c hc hz (vi (n:Nat)) k (by omega) names (Q4 s names k) (by rw [joB];omega) (jd9 hs.1 names k) 0 (Nat.zero_le _) false;simp only [Int.natCast_zero] at el;rw [List.drop_zero,List.nil_append,show names.zip ((dec s names.length k).map λv=>((v:Nat):Int))=Q4 s names k from rfl,el,Bool.false_or,List.drop_zero,e] at en;have hcl:c.any (λl=>decide (yg (ZS code s hs1) (j7 (Q4 s names k)) l.2=l.1))=true↔clV (ZS code s hs1) (j7 (Q4 s names k)) c:=by
    rw [List.any_eq_true];unfold clV;simp only [decide_eq_true_eq]
   simp only [Int.natCast_zero,List.map_nil] at en;by_cases ha:c.any (λl=>decide (yg (ZS code s hs1) (j7 (Q4 s names k)) l.2=l.1))=true
   ·rw [if_pos ha] at en;refine ⟨b,by rw [jpf];simp only [jf,hlt,en],hbb.trans ⟨λh k' h1 h2=> ?_,λh k' h1 h2=>h k' (by omega) h2⟩⟩;by_cases hkk:k'=k
    ·rw [hkk];exact hcl.1 ha
    ·exact h k' (by omega) h2
   ·rw [if_neg ha] at en;refine ⟨false,by rw [jpf];simp only [jf,hlt,en],⟨λh=>(by cases h),λh=>absurd (hcl.2 (h k (Nat.le_refl _) hk)) ha⟩⟩
 obtain ⟨b,e,hbb⟩:=key 0 (Nat.zero_le _);simp only [Int.natCast_zero] at e;refine ⟨b,?_,hbb.trans ⟨λh k hk=>h k (Nat.zero_le _) hk,λh k _ hk=>h k hk⟩⟩;rw [g38];simp only [jf,e0,e1,e]
theorem jgz (s:Nat) (hs:1<=s/\s<=3) (hs1:(1:Int)<=(s:Int)) (c:jK) (hc:c.length<=1000) (hz:∀l∈c,Tz l.2) (hn:∀l∈c,nodes l.2<=3000) (hnm:(vnC [] c).length<=1000) (ht:trM (ZS code s hs1) c):G 38 [ke code,vi (s:Nat),cm c]=some (vb true,[]):=by
 obtain ⟨b,e,h⟩:=ja9 hb s hs hs1 c hc hz hn hnm;rw [h.2 λk _=>ht _ (jd9 hs.1 _ k)] at e;exact e
theorem jky (s:Nat) (hs:1<=s/\s<=3) (hs1:(1:Int)<=(s:Int)) (c:jK) (hc:c.length<=1000) (hz:∀l∈c,Tz l.2) (hn:∀l∈c,nodes l.2<=3000) (hnm:(vnC [] c).length<=1000) (hk:∀y∈c,Bx y.2) (hsm:s=1\/(vnC [] c).length<=4):∃b,G 38 [ke code,vi (s:Nat),cm c]=some (vb b,[])/\(b=true->trM (ZS code s hs1) c):=by
 obtain ⟨b,e,h⟩:=ja9 hb s hs hs1 c hc hz hn hnm;refine ⟨b,e,λhb1 e' he=> ?_⟩;obtain ⟨k,hk1,hk2⟩:=joA hs.1 (vnC [] c) e' he;exact jol hk hk2 (h.1 hb1 k (by rw [jjf hs.1 hs.2 hsm];exact hk1))
end
theorem jl4:∀ {c:jK} {l:List (List UInt8)},(∀y∈c,nodes y.2<=30)->(vnC l c).length<=l.length+30 * c.length
 | [],l,_=>by simp [vnC]
 | y::c,l,h=>by
  have h1:=jdG y.2 l;have h2:=h y (by simp);have h3:=jl4 (c:=c) (l:=vn l y.2) λz hz=>h z (by simp [hz]);show (vnC (vn l y.2) c).length<=_;rw [List.length_cons];omega
theorem CN.vn {c:jK} (h:CN c):(vnC [] c).length<=240:=by
 have h1:=jl4 (c:=c) (l:=[]) λy hy=>(h.2 y hy).2;have h2:=h.1;rw [List.length_nil] at h1;omega
theorem CN.nodes {c:jK} (h:CN c):∀l∈c,nodes l.2<=3000:=λl hl=>by have:=(h.2 l hl).2;omega
section
variable {code:List Int} (hb:By code)
include hb
omit hb in
theorem jnG (s:Nat) (c:jK) (h:CN c):G 37 [vi (s:Nat),cm c]=some (vb (decide (s=1\/(vnC [] c).length<=4)),[]):=by
 have ld2:∀l:Lt,jP 2 (.elt (jC l) 1)=some (tm l.2):=λl=>rfl;have ad:∀(l:Lt) (n:Nat),qL (.elt (jC l) 0) n=some (.elt (jC l) n):=λl n=>by rw [Jh,Nat.zero_add]
 have hr:∀x:List (List A),hR 1 (A.top,[.sl 1 x]) 0=some x:=λx=>rfl;have hcl:=h.1;have key:=upto (n:=c.length) (P:=λi=>∀l:List (List UInt8),l.length<=3000 * i->jkP (vi (s:Nat)) (vi (i:Nat)) (.sl 3 (c.map jC)) (l.map cs)=some (vb (decide (s=1\/(vnC l (c.drop i)).length<=4)),[])) ?_ ?_ 0 (Nat.zero_le _) [] (Nat.zero_le _)
 ·simp only [Int.natCast_zero,List.drop_zero,List.map_nil] at key;rw [g37];simp only [jf,key]
 ·intro l _;have nlt:¬((c.length:Nat):Int) < ((c.length:Nat):Int):=by omega
  rw [List.drop_length,jsM,show vnC l []=l from rfl];by_cases hs:s=1
  ·subst hs;have e1:((1:Nat):Int)=1:=rfl;simp only [jf,nlt,e1,true_or]
  ·have e1:¬((s:Nat):Int)=1:=by omega
   have e2:decide (((l.length:Nat):Int)<=4)=decide (s=1\/l.length<=4):=by congr 1;exact propext ⟨λh=>Or.inr (by omega),λh=>by omega⟩
   rw [<-e2];simp only [jf,nlt,e1]
 ·intro i hi ih l hl;have hlt:(i:Int) < ((c.length:Nat):Int):=by omega
  have h5:=jv hi (by show c.length<=9223372036854775807;omega)
  have x1:ju 3 (.sl 3 (c.map jC)) (vi (i:Nat))=some (.elt (jC c[i]) 0):=jb hi;have hm:=List.getElem_mem hi;have nn:=h.nodes _ hm;have e:=jaw c[i].2 (h.tz _ hm) l (by omega);have ln:=jdG c[i].2 l;have ih:=ih (vn l c[i].2) (by omega);rw [jl hi,show vnC l (c[i]::c.drop (i+1))=vnC (vn l c[i].2) (c.drop (i+1)) from rfl,<-ih,jsM];generalize c[i]=y at x1 e ⊢;simp only [jf,hlt,x1,ad,ld2,e,hr,h5]
theorem jiS (ps:List jK) (hp:ps.length<=1000) (hps:∀c∈ps,CN c) (x:jK) (hx:CN x) (hsd:Sd ps x) (s:Nat) (hs:1<=s/\s<=3) (hs1:(1:Int)<=(s:Int)) :
  ∀i,i<=ps.length-> ∀b:Bool,(b=true-> ∀j,(h:j < ps.length)->j < i->trM (ZS code s hs1) ps[j])->jkI (ke code) (cls ps) (vi (s:Nat)) (vb b) (vi (i:Nat)) (.sl 3 (x.map jC))=YU (ke code) (cls ps) (vi ((s+1:Nat):Int)) (.sl 3 (x.map jC)):=by
 have cs1:js .add false (vi (s:Nat)) (vi 1)=some (vi ((s+1:Nat):Int)):=jv (n:=s+1) (by omega) (by omega);generalize hZ:YU (ke code) (cls ps) (vi ((s+1:Nat):Int)) (.sl 3 (x.map jC))=Z;refine upto ?_ ?_
 ·intro b hbt;have nlt:¬((ps.length:Nat):Int) < ((ps.length:Nat):Int):=by omega
  rw [jsF];cases b with
  | false=>simp only [jf,nlt,cs1,hZ]
  | true=>
   have e:=jgz hb s hs hs1 x (by have:=hx.1;omega) hx.tz hx.nodes (by have:=hx.vn;omega) (hsd _ λc hc=>by
    obtain ⟨j,hj,rfl⟩:=List.getElem_of_mem hc;exact hbt rfl j hj hj)
   simp only [jf,nlt,cs1,hZ,e]
 ·intro i hi ih b hbt;have hlt:(i:Int) < ((ps.length:Nat):Int):=by omega
  have h5:=jv hi (by show ps.length<=9223372036854775807;omega)
  have hm:=List.getElem_mem hi;have hc:=hps _ hm;have x1:ju 1 (cls ps) (vi (i:Nat))=some (.elt (clc ps[i]) 0):=jb hi;have ld:jP 1 (.elt (clc ps[i]) 0)=some (cm ps[i]):=rfl;rw [jsF];cases b with
  | false=>simp only [jf,hlt,cs1,hZ]
  | true=>
   have e1:=jnG s ps[i] hc;by_cases hsm:s=1\/(vnC [] ps[i]).length<=4
   ·rw [decide_eq_true hsm] at e1;obtain ⟨b',e2,hb'⟩:=jky hb s hs hs1 ps[i] (by have:=hc.1;omega) hc.tz hc.nodes (by have:=hc.vn;omega) (λy hy=>(hc.2 y hy).1) hsm;have ih:=ih b' (λhbb j hj hj2=>by
     by_cases hji:j=i
     ·subst hji;exact hb' hbb
     ·exact hbt rfl j hj (by omega))
    simp only [jf,hlt,x1,ld,e1,e2,h5,ih]
   ·rw [decide_eq_false hsm] at e1;have ih:=ih false (λh=>by cases h);simp only [jf,hlt,x1,ld,e1,h5,ih]
theorem jiT (ps:List jK) (hp:ps.length<=1000) (hps:∀c∈ps,CN c) (x:jK) (hx:CN x) (hsd:Sd ps x):G 14 [ke code,cls ps,cm x]=some (vb true,[]):=by
 have key:∀s:Nat,1<=s->s<=3->YU (ke code) (cls ps) (vi (s:Nat)) (.sl 3 (x.map jC))=YU (ke code) (cls ps) (vi ((s+1:Nat):Int)) (.sl 3 (x.map jC)):=by
  intro s h1 h3;have hs1:(1:Int)<=(s:Int):=by omega
  have e:=jiS hb ps hp hps x hx hsd s ⟨h1,h3⟩ hs1 0 (Nat.zero_le _) true (λ_ j _ h=>absurd h (Nat.not_lt_zero _));have hlt:((s:Nat):Int) < 4:=by omega
  simp only [Int.natCast_zero] at e;rw [<-e,jsE];simp only [jf,hlt]
 have k1:=key 1 (by decide) (by decide);have k2:=key 2 (by decide) (by decide);have k3:=key 3 (by decide) (by decide);have n4:¬((4:Nat):Int) < 4:=by decide
 have hl:YU (ke code) (cls ps) (vi 1) (.sl 3 (x.map jC))=some (vb true,[]):=by
  refine (k1.trans (k2.trans k3)).trans ?_;show YU (ke code) (cls ps) (vi ((4:Nat):Int)) (.sl 3 (x.map jC))=_;rw [jsE];simp only [jf,n4]
 rw [g14];simp only [jf,hl]
end
theorem jtz (code:List Int):G 6 [ke code]=some (vb (decide (65536 < ((code.length:Nat):Int))),[]):=by
 rw [g6];simp only [jf]
section
variable {code:List Int} (hb:By code)
include hb
theorem jiD (ps:List jK) (hp:ps.length<=100) (hps:∀c∈ps,CN c) (x:jK) (hx:CN x) (h:Sd ps x):G 14 [ke code,cls ps,cm x]=some (vb true,[]):=jiT hb ps (by omega) hps x hx h
end
theorem jrM:∀t:T,Zc t=true-> ∀x∈kP t,x∈S5:=by
 refine T.ind λt ih h x hx=> ?_;rw [kS] at hx;cases hv:jh t.name with
 | true=>
  rw [hv,if_pos rfl] at hx;rw [List.mem_singleton.1 hx];have h1:=nmN h;unfold JJ at h1;rw [hv] at h1;exact List.contains_iff_mem.1 h1
 | false=>
  rw [hv,if_neg Bool.false_ne_true] at hx;obtain ⟨u,hu,hxu⟩:=yx.1 hx;have h1:=nmA h;have:∀us:List T,qK us=true->u∈us->Zc u=true:=by
   intro us;induction us with
   | nil=>intro _ h;cases h
   | cons v us ih2=>
    intro h hm;rw [qK,Bool.and_eq_true] at h;rcases List.mem_cons.1 hm with rfl|hm
    ·exact h.1
    ·exact ih2 h.2 hm
  exact ih u hu (this _ h1 hu) x hxu
theorem jg8 {c:jK} (h:∀l∈c,Zc l.2=true):(ji c).length<=10:=by
 have:=Qt (l:=ji c) (m:=S5) (kI c) λx hx=>by
  obtain ⟨y,hy,hx⟩:=yr.1 hx;exact jrM _ (h y hy) x hx
 have e:S5.length=5:=rfl;omega
theorem jaW:∀(k:Nat) {c:jK},CN c->(ji c).length<=10->(ji (normF k c)).length<=10
 | 0,_,_,h=>h
 | k+1,c,hc,h=>by
  rw [normF];split
  ·exact h
  ·exact jaW k (hc.renC (by decide)) (jeF hc h).2
theorem jqs {f:List UInt8->List UInt8} :∀(t:T) (x:List UInt8),x∈kP (jB f t)-> ∃n∈kP t,x=f n:=by
 refine T.ind λt ih x hx=> ?_;obtain ⟨n,us⟩:=t;rw [jB] at hx;cases hv:jh n with
 | true=>
  rw [hv,if_pos rfl,kS] at hx;rw [kS];show ∃m∈(if jh n then [n] else j8 us),x=f m;rw [hv,if_pos rfl];refine ⟨n,by simp,?_⟩;have hx:x∈(if jh (f n) then [f n] else j8 []):=hx;split at hx
  ·exact List.mem_singleton.1 hx
  ·cases hx
 | false=>
  rw [hv,if_neg Bool.false_ne_true,kS] at hx;rw [kS];have hx:x∈(if jh n then [n] else j8 (zd f us)):=hx;show ∃m∈(if jh n then [n] else j8 us),x=f m;rw [hv,if_neg Bool.false_ne_true] at hx ⊢;obtain ⟨v,hv2,hxv⟩:=yx.1 hx;rw [Jm] at hv2;obtain ⟨u,hu,rfl⟩:=List.mem_map.1 hv2;obtain ⟨m,hm,e⟩:=ih u hu x hxv;exact ⟨m,yx.2 ⟨u,hu,hm⟩,e⟩
theorem jgR {d:jK} {l:Lt} (hl:l∈zz d) {x:List UInt8} (hx:x∈kP l.2):∃r,x=89::r:=by
 obtain ⟨l0,h0,rfl⟩:=List.mem_map.1 hl;obtain ⟨n,hn,rfl⟩:=jqs _ _ hx;obtain ⟨i,hi,he⟩:=List.getElem_of_mem (yr.2 ⟨l0,h0,hn⟩);rw [<-he,yT (kI d) hi];exact ⟨_,rfl⟩
theorem jl7 {S:List (List UInt8)} :∀(us:List T),(∀u∈us,zO u=true/\VIn S u)-> ∀l:List (List UInt8),l.Nodup->(∀x∈l,x∈S)-> ∀x∈vnL l us,x∈S
 | [],_,l,_,hS=>hS
 | u::us,h,l,hl,hS=>by
  obtain ⟨h1,h2⟩:=h u List.mem_cons_self;obtain ⟨q1,q2,_⟩:=jdF u h1 h2 l hl hS;rw [vnL];exact jl7 us (λv hv=>h v (List.mem_cons_of_mem _ hv)) _ q1 q2
theorem jqu {t:T} (h:Bx t):∀x∈vn [] t,x∈kP t:=by
 rcases h.ax with hk|⟨he,h2,hk⟩
 ·exact (jdF (S:=kP t) t hk (λ_ h=>h) [] List.nodup_nil (λx h=>by cases h)).2.1
 ·have hne:t.args.isEmpty=false:=by
   cases ha:t.args with
   | nil=>rw [ha] at h2;cases h2
   | cons a r=>rfl
  rw [ji0,hne,Bool.false_and,if_neg Bool.false_ne_true];refine jl7 t.args (λu hu=>⟨hk u hu,λx hx=> ?_⟩) [] List.nodup_nil (λx h=>by cases h);rw [kS,he,if_neg (by decide)];exact yx.2 ⟨u,hu,hx⟩
theorem jk3:∀ {s:jz},s.Pairwise LtB->jji s=true
 | [],_=>rfl
 | [_],_=>rfl
 | p::q::s,h=>by
  obtain ⟨h1,h2⟩:=List.pairwise_cons.1 h;rw [jji,h1 q List.mem_cons_self,jk3 h2];rfl
theorem jnL {x:List UInt8} (h:jh x=true):x.length<=4:=by
 cases x with
 | nil=>exact Nat.zero_le _
 | cons c r=>
  rw [jh,Bool.and_eq_true,Bool.and_eq_true,decide_eq_true_eq] at h;rw [List.length_cons];omega
theorem jhh {S:List (List UInt8)} (hS:S.length<=10) {m:jz} (hm:MOk Pt m) (hi:MIn S m):GoodB (kX m)/\zt (zj (kX m))=true:=by
 have hlen:m.length<=10:=by
  have:=Qt (l:=m.map Prod.fst) (m:=S) hm.1 λx hx=>by
   obtain ⟨q,hq,rfl⟩:=List.mem_map.1 hx;exact hi q hq
  rw [List.length_map] at this;omega
 have hkl:(kX m).length<=10:=Nat.le_trans (List.length_filter_le _ _) hlen;have hkm:∀p∈kX m,p∈m/\p.2.name≠p.1:=λp hp=>by
  obtain ⟨h1,h2⟩:=List.mem_filter.1 hp;exact ⟨h1,by simpa using h2⟩
 have hg:GoodB (kX m):=⟨hm.1.sublist (List.filter_sublist.map Prod.fst),λp hp=>(hkm p hp).2,by omega,λp hp=>by
  obtain ⟨h1,h2⟩:=hm.2 p (hkm p hp).1;exact ⟨by have:=jnL h1;omega,h2.tz⟩⟩
 refine ⟨hg,?_⟩;obtain ⟨f1,f2⟩:=yB (kX m) [] hg.keep;have hps:=zV (kX m) [] List.Pairwise.nil hg.nod λp _ q h=>by cases h
 have f1:(zj (kX m)).length=0+(kX m).length:=f1;unfold zt;rw [Bool.and_eq_true,Bool.and_eq_true,decide_eq_true_eq,List.all_eq_true];refine ⟨by omega,jk3 hps,λq hq=> ?_⟩;have h1:=(f2 q).1 hq;simp only [List.not_mem_nil,false_or] at h1;obtain ⟨h2,h3⟩:=hkm q h1;obtain ⟨h4,h5⟩:=hm.2 q h2;have h6:dq q.2.name q.1=false:=by
  cases hd:dq q.2.name q.1 with
  | false=>rfl
  | true=>exact absurd (yK.1 hd) h3
 rw [h4,h5.valid,h6];rfl
theorem ZM {c:jK} (h:kC c=true):∀l∈c,Pa l.2:=λl hl=>by
 obtain ⟨h1,h2⟩:=qZ.1 ((km h).2.2 l hl);unfold kG at h2;rw [Bool.and_eq_true,decide_eq_true_eq,decide_eq_true_eq] at h2;exact ⟨h1,h2.1,h2.2⟩
theorem Ya {c d:jK} (hc:kC c=true) (hd:kC d=true) (h10:(ji c).length<=10) {f:List UInt8->List UInt8} (hf:∀l∈c,(l.1,jB f l.2)∈d):∃s:jz,G 10 [cm c,cm d]=some (.tup [sb s,vb true],[]):=by
 obtain ⟨cn,_,_⟩:=km hc;obtain ⟨dn,_,_⟩:=km hd;have v1:=kY c (by have:=cn.1;omega) cn.tz;have v2:=kY d (by have:=dn.1;omega) dn.tz;rw [hc] at v1;rw [hd] at v2;obtain ⟨m,hm⟩:=jiH (d:=d) c hf [] (λq h=>by cases h);have e1:=jdA d dn.1 (ZM hd) c cn.1 (ZM hc) [] (MOk.nil _);obtain ⟨k1,k2⟩:=jlX (S:=ji c) (ZM hd) c (λl hl=>⟨ZM hc l hl,λx hx=>yr.2 ⟨l,hl,hx⟩⟩) (MOk.nil _) (λq h=>by cases h) hm;obtain ⟨hg,hv⟩:=jhh h10 k1 k2;rw [hm] at e1;have e1:G 81 [.mp [],.sl 3 (c.map jC),.agg [.sl 3 (d.map jC)]]=some (.tup [.mp (m.map kv),vb true],[]):=e1;have e2:=jqi m hg λp hp=>(k1.2 p hp).2.tz;unfold jcj at e2;rw [hv,if_pos rfl] at e2;have e2:G 82 [.mp (m.map kv)]=some (.tup [.agg [.sl 3 ((zj (kX m)).map bc)],vb true],[]):=e2;have e3:G 33 [.agg [.sl 3 (c.map jC)],.agg [.sl 3 (d.map jC)]]=some (.tup [.agg [.sl 3 ((zj (kX m)).map bc)],vb true],[]):=by
  rw [g33];simp only [jf,e1,e2]
 refine ⟨zj (kX m),?_⟩;rw [g10];simp only [jf,v1,v2,e3]
theorem jmO (c:jK) (hl:c.length<=1048576) (hz:∀l∈c,Tz l.2) (h:kC c=false):G 8 [cm c]=some (.tup [.agg [.sl 3 []],vb false],[])/\G 9 [cm c]=some (.tup [.agg [.sl 3 []],vb false],[]):=by
 have v1:=kY c hl hz;have v2:=J7 c hl hz;rw [h] at v1 v2;refine ⟨?_,?_⟩
 ·rw [g8];simp only [jf,v1]
 ·rw [g9];simp only [jf,v2]
theorem jc0 (c:jK) (h:kC c=true) (hn:kV (normC c)=true):G 8 [cm c]=some (.tup [cm (normC c),vb true],[])/\G 9 [cm c]=some (.tup [cm (normC c),vb true],[]):=by
 obtain ⟨cn,ha,_⟩:=km h;obtain ⟨dn,_,hv,_⟩:=ky hn;have v1:=kY c (by have:=cn.1;omega) cn.tz;have v2:=J7 c (by have:=cn.1;omega) cn.tz;rw [h] at v1 v2;have n1:=jf2 c cn;have n2:=jaR c cn ha;have f1:=jho (normC c) (by have:=dn.1;omega) dn.tz;rw [hv] at n2;rw [hv,if_pos rfl] at f1;have f1:G 29 [cm (normC c)]=some (.tup [cm (normC c),vb true],[]):=f1;have ok1:jX (.sl 3 ((normC c).map jC))=true:=rfl;refine ⟨?_,?_⟩
 ·rw [g8];simp only [jf,v1,n1,f1]
 ·rw [g9];simp only [jf,v2,n2,ok1]
theorem jdZ (d:jK) (hd:CN d):G 11 [cm d,cm d]=some (vb true,[]):=by
 have key:=upto (n:=d.length) (P:=λi=>jkH (vi (i:Nat)) (.sl 3 (d.map jC)) (.sl 3 (d.map jC))=some (vb true,[])) ?_ ?_ 0 (Nat.zero_le _)
 ·simp only [Int.natCast_zero] at key;rw [g11];simp only [jf,key]
 ·have nlt:¬((d.length:Nat):Int) < ((d.length:Nat):Int):=by omega
  rw [jsD];simp only [jf,nlt]
 ·intro i hi ih;have hlt:(i:Int) < ((d.length:Nat):Int):=by omega
  have h5:=jv hi (by have:=hd.1;show d.length<=9223372036854775807;omega)
  have x1:ju 3 (.sl 3 (d.map jC)) (vi (i:Nat))=some (.elt (jC d[i]) 0):=jb hi;have ht:=(hd.tz _ (List.getElem_mem hi)).wf;generalize d[i]=x at x1 ht;have y0:qL (.elt (jC x) 0) 0=some (.elt (jC x) 0):=rfl;have y1:zn (.elt (jC x) 0)=some (vb x.1):=rfl;have y2:qL (.elt (jC x) 0) 1=some (.elt (jC x) 1):=rfl;have y3:jP 2 (.elt (jC x) 1)=some (tm x.2):=rfl;have e1:=jnH x.2 ht x.2 ht;rw [ZC] at e1;rw [jsD];simp only [jf,hlt,x1,y0,y1,y2,y3,e1,h5,ih]
theorem jmd (d:jK) (h:kV d=true):G 12 [cm d]=some (.tup [cm (zz d),vb true],[]):=by
 obtain ⟨dn,_,_,_⟩:=ky h;have v1:=jhs d (by have:=dn.1;omega) dn.tz;rw [h] at v1;have a1:=jmc d h;rw [g12];simp only [jf,v1,a1]
theorem jov {code:List Int} (hb:By code):∃c:jK,(c.length<=12/\ ∀l∈c,tsz l.2<=1000/\Zc l.2=true)/\G 7 [ke code]=some (cm c,[]):=by
 obtain ⟨a1,s1,c,_,_,hc,e1⟩:=jdN hb 0 0 (by decide) (by decide);have okb:jX (ke code)=true:=rfl;have e2:G 27 [ke code]=some (cm c,[]):=by
  rw [g27];simp only [jf,okb,e1,List.getElem?_cons_zero,List.getElem?_cons_succ]
 refine ⟨c,hc,?_⟩;rw [g7];simp only [jf,e2]
theorem jjW (code:List Int) (hp:(∀n∈code,0<=n/\n<=255)/\code.length<=9223372036854775807):G 3 [ke code]=some (vb true,[]):=by
 have e0:=jtz code;rw [g3];by_cases hbig:65536 < ((code.length:Nat):Int)
 ·rw [decide_eq_true hbig] at e0;simp only [jf,e0]
 rw [decide_eq_false hbig] at e0;have hb:By code:=⟨hp.1,by omega⟩;obtain ⟨c,⟨hcl,hcz⟩,e1⟩:=jov hb;cases hv:kC c with
 | false=>
  obtain ⟨n1,n2⟩:=jmO c (by omega) (λl hl=>by have:=(hcz l hl).1;unfold Tz;omega) hv
  simp only [jf,e0,e1,n1,n2];rfl
 | true=>
  obtain ⟨cn,ca,_⟩:=km hv;have h10:=jg8 λl hl=>(hcz l hl).2;have hn:=jj2 hv h10;obtain ⟨dn,da,dv,dnn⟩:=ky hn;obtain ⟨n1,n2⟩:=jc0 c hv hn;have hag:=jhX dnn;have n3:=(jc0 (normC c) dv (by rw [hag];exact hn)).1;rw [hag] at n3;obtain ⟨f,g,_,_,hf,hg⟩:=jf1 10 cn;obtain ⟨s1,b1⟩:=Ya hv dv h10 hf;obtain ⟨s2,b2⟩:=Ya dv hv (jaW 10 cn h10) hg;have vc:=jdZ (normC c) dn;have ra:=jmd (normC c) hn;have fn:=jn8 hn;obtain ⟨sd1,sd2⟩:=jkm cn hn;have t1:=jiD hb [c] (by simp) (λy h=>by simp only [List.mem_singleton] at h;rw [h];exact cn) (zz (normC c)) fn sd1;have t2:=jiD hb [zz (normC c)] (by simp) (λy h=>by simp only [List.mem_singleton] at h;rw [h];exact fn) c cn sd2;have hyn:∀l∈zz (normC c),∀x∈vn [] l.2,∃r,x=89::r:=λl hl x hx=>jgR hl (jqu (fn.2 l hl).1 x hx);generalize hD:normC c=d at *;generalize hF:zz d=F at *;have okb:jX (ke code)=true:=rfl;have okc:jX (.sl 3 (c.map jC))=true:=rfl;have okf:jX (.sl 3 (F.map jC))=true:=rfl;have t1:G 14 [ke code,.sl 1 [[.sl 3 (c.map jC)]],.agg [.sl 3 (F.map jC)]]=some (vb true,[]):=t1;have t2:G 14 [ke code,.sl 1 [[.sl 3 (F.map jC)]],.agg [.sl 3 (c.map jC)]]=some (vb true,[]):=t2;have inner:∀(ns:List (List UInt8)) (i:Nat),(∀x∈ns,∃r,x=89::r)->ns.length<=4000000->jn1 (ke code) (vi ((i+1:Nat):Int)) (.sl 3 (c.map jC)) (.sl 3 (F.map jC))=some (vb true,[])->i<=100->jn2 (ke code) (vi (i:Nat)) (vi 0) (.sl 3 (c.map jC)) (.sl 3 (F.map jC)) (ns.map cs)=some (vb true,[]):=by
   intro ns i hns hnl ih hi;have h6:ck ((i:Int)+1)=some (vi ((i+1:Nat):Int)):=jH (by omega) (by omega);have key:=upto (n:=ns.length) (P:=λk=>jn2 (ke code) (vi (i:Nat)) (vi (k:Nat)) (.sl 3 (c.map jC)) (.sl 3 (F.map jC)) (ns.map cs)=some (vb true,[])) ?_ ?_ 0 (Nat.zero_le _)
   ·exact key
   ·have nlt:¬((ns.length:Nat):Int) < ((ns.length:Nat):Int):=by omega
    rw [jvM];simp only [jf,nlt,h6,ih]
   ·intro k hk ih2;have hlt:(k:Int) < ((ns.length:Nat):Int):=by omega
    have h5:ck ((k:Int)+1)=some (vi ((k+1:Nat):Int)):=jH (by omega) (by omega);have x1:Z7 ns.length (vi ((k:Nat):Int))=some k:=yb hk;have x2:=jda hk;obtain ⟨r,hr⟩:=hns _ (List.getElem_mem hk);rw [hr] at x2;have x3:j6 (sv (89::r)) (vi 0)=some (vy 89):=kZ;rw [jvM];simp only [jf,hlt,x1,x2,x3,h5,ih2]
  have outer:=upto (n:=F.length) (P:=λi=>jn1 (ke code) (vi (i:Nat)) (.sl 3 (c.map jC)) (.sl 3 (F.map jC))=some (vb true,[])) ?_ ?_ 0 (Nat.zero_le _);rotate_left
  ·have nlt:¬((F.length:Nat):Int) < ((F.length:Nat):Int):=by omega
   rw [jvL];simp only [jf,nlt,okb,okc,okf,t1,t2]
  ·intro i hi ih;have hlt:(i:Int) < ((F.length:Nat):Int):=by omega
   have x1:ju 3 (.sl 3 (F.map jC)) (vi (i:Nat))=some (.elt (jC F[i]) 0):=jb hi;have hy:=hyn _ (List.getElem_mem hi);have hFn:=fn.2 _ (List.getElem_mem hi);generalize F[i]=l at x1 hy hFn;have y2:qL (.elt (jC l) 0) 1=some (.elt (jC l) 1):=rfl;have y3:jP 2 (.elt (jC l) 1)=some (tm l.2):=rfl;have hz:Tz l.2:=hFn.1.tz (by have:=hFn.2;omega);have v1:=jaw l.2 hz [] (by have:=hFn.2;rw [List.length_nil];omega);have v1:jbS (tm l.2) []=some (.top,[.sl 1 ((vn [] l.2).map cs)]):=v1;have hR1:hR 1 (A.top,[.sl 1 ((vn [] l.2).map cs)]) 0=some ((vn [] l.2).map cs):=rfl;have hvl:=jdG l.2 [];have in1:=inner (vn [] l.2) i hy (by have:=hFn.2;rw [List.length_nil] at hvl;omega) ih (by have:=fn.1;omega);rw [jvL];simp only [jf,hlt,x1,y2,y3,v1,hR1,in1]
  simp only [Int.natCast_zero] at outer;simp only [jf,e0,e1,n1,n2,n3,b1,b2,vc,ra,outer]
end Go.Proofs.YtdbgbieenhcldaaGreatDoor
