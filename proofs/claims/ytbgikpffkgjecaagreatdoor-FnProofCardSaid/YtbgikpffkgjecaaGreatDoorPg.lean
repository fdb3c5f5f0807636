/- Pg -/
import Derived.Test.YtbgikpffkgjecaaGreatDoorPf
import Derived.Test.YtbgikpffkgjecaaGreatDoorPe
import Derived.KernelRfl
import Derived.Test.YtbgikpffkgjecaaGreatDoorPa
import Derived.Test.YtbgikpffkgjecaaGreatDoorPd
namespace Go.Proofs.YtbgikpffkgjecaaGreatDoor
open Go Go.RowKit Go.Proofs.YtbgikpffkgjecaaGreatDoor.Abs
set_option linter.unusedSimpArgs false
set_option linter.unusedVariables false
set_option maxHeartbeats 1000000
section
variable {code:List Int} (hb:By code)
include hb
theorem jol (s:Nat) (hs:1<=s/\s<=3) (hs1:(1:Int)<=(s:Int)) (c:kh) (hc:c.length<=1000) (hz:∀l∈c,Tz l.2) (al:A) (k:Nat) (hk:k<=1000) (names:List (List UInt8)) (E:Env) (hEl:E.length<=4000000) (hE:∀x,0<=zZ E x/\zZ E x < (s:Int)) :
  ∀i,i<=c.length-> ∀b:Bool,joN (zq code) (vi (s:Nat)) al (vi (k:Nat)) (vb b) (vi (i:Nat)) (.sl 3 (c.map jG)) (names.map cs) (E.map λp=>cs p.1) (E.map λp=>ci p.2) =
   if b || (c.drop i).any (λl=>decide (qR (jc8 code s hs1) (zZ E) l.2=l.1)) then jh7 (zq code) (vi (s:Nat)) al (vi ((k+1:Nat):Int)) (.sl 3 (c.map jG)) (names.map cs) else some (vb false,[]):=by
 have ck1:ju .add false (vi (k:Nat)) (vi 1)=some (vi ((k+1:Nat):Int)):=js (n:=k+1) (by omega) (by omega);have ld2:∀l:Lt,ky 2 (.elt (jG l) 1)=some (tm l.2):=λl=>rfl;have ld0:∀l:Lt,kN (.elt (jG l) 0)=some (vb l.1):=λl=>rfl;have ad:∀(l:Lt) (n:Nat),qi (.elt (jG l) 0) n=some (.elt (jG l) n):=λl n=>by rw [qV,yd]
 generalize hZ:jh7 (zq code) (vi (s:Nat)) al (vi ((k+1:Nat):Int)) (.sl 3 (c.map jG)) (names.map cs)=Z;refine upto ?_ ?_
 ·intro b;have nlt:¬((c.length:Nat):Int) < ((c.length:Nat):Int):=by omega
  rw [kg,List.any_nil,QN,jEN];cases b<;>simp only [jd,nlt,ck1,hZ]
 ·intro i hi ih b;have hlt:(i:Int) < ((c.length:Nat):Int):=by omega
  have h5:=js hi (by show c.length<=9223372036854775807;omega)
  have x1:jl 3 (.sl 3 (c.map jG)) (vi (i:Nat))=some (.elt (jG c[i]) 0):=ja hi;have e:=jtO hb (s:Nat) (by omega) E hEl hE c[i].2 (hz _ (jC hi));rw [ji hi,List.any_cons,jEN];generalize c[i]=l at x1 e ⊢;cases b with
  | true=>simp only [jd,hlt,ck1,hZ,Jl]
  | false=>
   have ih:=ih (decide (qR (jc8 code s hs1) (zZ E) l.2=l.1));rw [zF];generalize qR (jc8 code s hs1) (zZ E) l.2=h at e ih ⊢;rw [<-ih];simp only [jd,hlt,x1,ad,ld2,ld0,e,h5]
omit hb in
theorem jta (s:Nat) (c:kh) (hc:c.length<=1000) (hz:∀l∈c,Tz l.2) (hn:∀l∈c,nodes l.2<=3000):∀i,i<=c.length-> ∀l:List (List UInt8),l.length<=3000 * i->jt8 (zq code) (vi (s:Nat)) (vi (i:Nat)) (.sl 3 (c.map jG)) (l.map cs)=joM (zq code) (vi (s:Nat)) (vi 1) (vi 0) (.sl 3 (c.map jG)) ((vnC l (c.drop i)).map cs):=by
 have ld2:∀l:Lt,ky 2 (.elt (jG l) 1)=some (tm l.2):=λl=>rfl;have ad:∀(l:Lt) (n:Nat),qi (.elt (jG l) 0) n=some (.elt (jG l) n):=λl n=>by rw [qV,yd]
 have hr:∀x:List (List A),hR 1 (A.top,[.sl 1 x]) 0=some x:=λx=>rfl;refine upto ?_ ?_
 ·intro l hl;have nlt:¬((c.length:Nat):Int) < ((c.length:Nat):Int):=by omega
  rw [kg,jEL];simp only [jd,nlt,vnC,List.foldl_nil]
 ·intro i hi ih l hl;have hlt:(i:Int) < ((c.length:Nat):Int):=by omega
  have h5:=js hi (by show c.length<=9223372036854775807;omega)
  have x1:jl 3 (.sl 3 (c.map jG)) (vi (i:Nat))=some (.elt (jG c[i]) 0):=ja hi;have hm:=jC hi;have nn:=hn _ hm;have e:=jl1 c[i].2 (hz _ hm) l (by omega);have ln:=jon c[i].2 l;have ih:=ih (vn l c[i].2) (by omega);rw [ji hi,show vnC l (c[i]::c.drop (i+1))=vnC (vn l c[i].2) (c.drop (i+1)) from rfl,<-ih,jEL];generalize c[i]=y at x1 e ⊢;simp only [jd,hlt,x1,ad,ld2,e,hr,h5]
omit hb in
theorem jxx (s:Nat) (hs:1<=s/\s<=3) (C:A) (names:List (List UInt8)) (hn:names.length<=3000000):∀i,i<=names.length-> ∀a:Nat,a<=600->joM (zq code) (vi (s:Nat)) (vi (a:Nat)) (vi (i:Nat)) C (names.map cs)=jh7 (zq code) (vi (s:Nat)) (vi ((jha s (names.length - i) a:Nat):Int)) (vi 0) C (names.map cs):=by
 refine upto ?_ ?_
 ·intro a ha;have nlt:¬((names.length:Nat):Int) < ((names.length:Nat):Int):=by omega
  rw [jgk,jha,jzL];simp only [jd,nlt]
 ·intro i hi ih a ha;have hlt:(i:Int) < ((names.length:Nat):Int):=by omega
  have h5:=js hi (by show names.length<=9223372036854775807;omega)
  rw [show names.length - i=(names.length - (i+1))+1 by omega,jha];by_cases h2:a < 200
  ·have h2':(a:Int) < 200:=by omega
   have hm:a * s<=600:=by have:a * s<=a * 3:=Nat.mul_le_mul_left _ hs.2;omega
   have c1:ck ((a:Int) * ((s:Nat):Int))=some (vi ((a * s:Nat):Int)):=by rw [<-Int.natCast_mul,jE (by omega) (by omega)]
   have ih:=ih (a * s) hm;rw [jg h2,<-ih,jzL];simp only [jd,hlt,h2',c1,h5]
  ·have h2':¬(a:Int) < 200:=by omega
   rw [jf h2,jzL];simp only [jd,hlt,h2']
theorem jg8 (s:Nat) (hs:1<=s/\s<=3) (hs1:(1:Int)<=(s:Int)) (c:kh) (hc:c.length<=1000) (hz:∀l∈c,Tz l.2) (hn:∀l∈c,nodes l.2<=3000) (hnm:(vnC [] c).length<=1000) :
  ∃b,G 18 [zq code,vi (s:Nat),cm c]=some (vb b,[])/\(b=true↔ ∀k,k < jha s (vnC [] c).length 1->clV (jc8 code s hs1) (zZ (jfS s (vnC [] c) k)) c):=by
 have e0:=jta (code:=code) s c hc hz hn 0 (ko _) [] (ko _);have hall:=juy hs.2 (vnC [] c).length 1 (by decide);have e1:=jxx (code:=code) s hs (.sl 3 (c.map jG)) (vnC [] c) (by omega) 0 (ko _) 1 (by decide);rw [jak] at e1;simp only [kU,jgl,kD,ql] at e0 e1;generalize vnC [] c=names at *;generalize jha s names.length 1=n at *;have key:∀k,k<=n-> ∃b,jh7 (zq code) (vi (s:Nat)) (vi (n:Nat)) (vi (k:Nat)) (.sl 3 (c.map jG)) (names.map cs)=some (vb b,[])/\(b=true↔ ∀k',k<=k'->k' < n->clV (jc8 code s hs1) (zZ (jfS s names k')) c):=by
  refine upto ?_ ?_
  ·refine ⟨true,?_,by simp;intro k' h1 h2;omega⟩
   have nlt:¬((n:Nat):Int) < ((n:Nat):Int):=by omega
   rw [jzM];simp only [jd,nlt]
  ·rintro k hk ⟨b,e,hbb⟩;have hlt:(k:Int) < ((n:Nat):Int):=by omega
   have en:=jry (code:=code) s hs (vi (n:Nat)) (vi (k:Nat)) (.sl 3 (c.map jG)) names hnm names.length 0 k [] (by omega) rfl (by omega);have el:=jol hb s hs hs1 c hc hz (vi (n:Nat)) k (by omega) names (jfS s names k) (by rw [jyC];omega) (jk2 hs.1 names k) 0 (ko _) false;simp only [kU] at el;rw [kD,Ju,show names.zip ((dec s names.length k).map λv=>((v:Nat):Int))=jfS s names k from rfl,el,zF,kD,e] at en;have hcl:c.any (λl=>decide (qR (jc8 code s hs1) (zZ (jfS s names k)) l.2=l.1))=true↔clV (jc8 code s hs1) (zZ (jfS s names k)) c:=by
    rw [List.any_eq_true];unfold clV;simp only [kM]
   simp only [kU,ql] at en;by_cases ha:c.any (λl=>decide (qR (jc8 code s hs1) (zZ (jfS s names k)) l.2=l.1))=true
   ·rw [jg ha] at en;refine ⟨b,by rw [jzM];simp only [jd,hlt,en],hbb.trans ⟨λh k' h1 h2=> ?_,λh k' h1 h2=>h k' (by omega) h2⟩⟩;by_cases hkk:k'=k
    ·rw [hkk];exact hcl.1 ha
    ·exact h k' (by omega) h2
   ·rw [jf ha] at en;refine ⟨false,by rw [jzM];simp only [jd,hlt,en],⟨λh=>(by cases h),λh=>absurd (hcl.2 (h k (kz _) hk)) ha⟩⟩
 obtain ⟨b,e,hbb⟩:=key 0 (ko _);simp only [kU] at e;refine ⟨b,?_,hbb.trans ⟨λh k hk=>h k (ko _) hk,λh k _ hk=>h k hk⟩⟩;rw [g18];simp only [jd,e0,e1,e]
theorem jom (s:Nat) (hs:1<=s/\s<=3) (hs1:(1:Int)<=(s:Int)) (c:kh) (hc:c.length<=1000) (hz:∀l∈c,Tz l.2) (hn:∀l∈c,nodes l.2<=3000) (hnm:(vnC [] c).length<=1000) (ht:trM (jc8 code s hs1) c):G 18 [zq code,vi (s:Nat),cm c]=some (vb true,[]):=by
 obtain ⟨b,e,h⟩:=jg8 hb s hs hs1 c hc hz hn hnm;rw [h.2 λk _=>ht _ (jk2 hs.1 _ k)] at e;exact e
theorem jtN (s:Nat) (hs:1<=s/\s<=3) (hs1:(1:Int)<=(s:Int)) (c:kh) (hc:c.length<=1000) (hz:∀l∈c,Tz l.2) (hn:∀l∈c,nodes l.2<=3000) (hnm:(vnC [] c).length<=1000) (hk:∀y∈c,Bx y.2) (hsm:s=1\/(vnC [] c).length<=4):∃b,G 18 [zq code,vi (s:Nat),cm c]=some (vb b,[])/\(b=true->trM (jc8 code s hs1) c):=by
 obtain ⟨b,e,h⟩:=jg8 hb s hs hs1 c hc hz hn hnm;refine ⟨b,e,λhb1 e' he=> ?_⟩;obtain ⟨k,hk1,hk2⟩:=jyB hs.1 (vnC [] c) e' he;exact jye hk hk2 (h.1 hb1 k (by rw [jss hs.1 hs.2 hsm];exact hk1))
end
theorem jvJ:∀ {c:kh} {l:List (List UInt8)},(∀y∈c,nodes y.2<=30)->(vnC l c).length<=l.length+30 * c.length
 | [],l,_=>by simp [vnC]
 | y::c,l,h=>by
  have h1:=jon y.2 l;have h2:=h y (by simp);have h3:=jvJ (c:=c) (l:=vn l y.2) λz hz=>h z (by simp [hz]);show (vnC (vn l y.2) c).length<=_;rw [zk];omega
theorem CN.vn {c:kh} (h:CN c):(vnC [] c).length<=240:=by
 have h1:=jvJ (c:=c) (l:=[]) λy hy=>(h.2 y hy).2;have h2:=h.1;rw [yw] at h1;omega
theorem CN.nodes {c:kh} (h:CN c):∀l∈c,nodes l.2<=3000:=λl hl=>by have:=(h.2 l hl).2;omega
section
variable {code:List Int} (hb:By code)
include hb
omit hb in
theorem jxr (s:Nat) (c:kh) (h:CN c):G 17 [vi (s:Nat),cm c]=some (vb (decide (s=1\/(vnC [] c).length<=4)),[]):=by
 have ld2:∀l:Lt,ky 2 (.elt (jG l) 1)=some (tm l.2):=λl=>rfl;have ad:∀(l:Lt) (n:Nat),qi (.elt (jG l) 0) n=some (.elt (jG l) n):=λl n=>by rw [qV,yd]
 have hr:∀x:List (List A),hR 1 (A.top,[.sl 1 x]) 0=some x:=λx=>rfl;have hcl:=h.1;have key:=upto (n:=c.length) (P:=λi=>∀l:List (List UInt8),l.length<=3000 * i->jt7 (vi (s:Nat)) (vi (i:Nat)) (.sl 3 (c.map jG)) (l.map cs)=some (vb (decide (s=1\/(vnC l (c.drop i)).length<=4)),[])) ?_ ?_ 0 (ko _) [] (ko _)
 ·simp only [kU,kD,ql] at key;rw [g17];simp only [jd,key]
 ·intro l _;have nlt:¬((c.length:Nat):Int) < ((c.length:Nat):Int):=by omega
  rw [kg,jEK,show vnC l []=l from rfl];by_cases hs:s=1
  ·subst hs;have e1:((1:Nat):Int)=1:=rfl;simp only [jd,nlt,e1,true_or]
  ·have e1:¬((s:Nat):Int)=1:=by omega
   have e2:decide (((l.length:Nat):Int)<=4)=decide (s=1\/l.length<=4):=by congr 1;exact propext ⟨λh=>Or.inr (by omega),λh=>by omega⟩
   rw [<-e2];simp only [jd,nlt,e1]
 ·intro i hi ih l hl;have hlt:(i:Int) < ((c.length:Nat):Int):=by omega
  have h5:=js hi (by show c.length<=9223372036854775807;omega)
  have x1:jl 3 (.sl 3 (c.map jG)) (vi (i:Nat))=some (.elt (jG c[i]) 0):=ja hi;have hm:=jC hi;have nn:=h.nodes _ hm;have e:=jl1 c[i].2 (h.tz _ hm) l (by omega);have ln:=jon c[i].2 l;have ih:=ih (vn l c[i].2) (by omega);rw [ji hi,show vnC l (c[i]::c.drop (i+1))=vnC (vn l c[i].2) (c.drop (i+1)) from rfl,<-ih,jEK];generalize c[i]=y at x1 e ⊢;simp only [jd,hlt,x1,ad,ld2,e,hr,h5]
theorem jrz (ps:List kh) (hp:ps.length<=1000) (hps:∀c∈ps,CN c) (x:kh) (hx:CN x) (hsd:Sd ps x) (s:Nat) (hs:1<=s/\s<=3) (hs1:(1:Int)<=(s:Int)) :
  ∀i,i<=ps.length-> ∀b:Bool,(b=true-> ∀j,(h:j < ps.length)->j < i->trM (jc8 code s hs1) ps[j])->jt5 (zq code) (cls ps) (vi (s:Nat)) (vb b) (vi (i:Nat)) (.sl 3 (x.map jG))=jea (zq code) (cls ps) (vi ((s+1:Nat):Int)) (.sl 3 (x.map jG)):=by
 have cs1:ju .add false (vi (s:Nat)) (vi 1)=some (vi ((s+1:Nat):Int)):=js (n:=s+1) (by omega) (by omega);generalize hZ:jea (zq code) (cls ps) (vi ((s+1:Nat):Int)) (.sl 3 (x.map jG))=Z;refine upto ?_ ?_
 ·intro b hbt;have nlt:¬((ps.length:Nat):Int) < ((ps.length:Nat):Int):=by omega
  rw [jEI];cases b with
  | false=>simp only [jd,nlt,cs1,hZ]
  | true=>
   have e:=jom hb s hs hs1 x (by have:=hx.1;omega) hx.tz hx.nodes (by have:=hx.vn;omega) (hsd _ λc hc=>by
    obtain ⟨j,hj,rfl⟩:=List.getElem_of_mem hc;exact hbt rfl j hj hj)
   simp only [jd,nlt,cs1,hZ,e]
 ·intro i hi ih b hbt;have hlt:(i:Int) < ((ps.length:Nat):Int):=by omega
  have h5:=js hi (by show ps.length<=9223372036854775807;omega)
  have hm:=jC hi;have hc:=hps _ hm;have x1:jl 1 (cls ps) (vi (i:Nat))=some (.elt (QD ps[i]) 0):=ja hi;have ld:ky 1 (.elt (QD ps[i]) 0)=some (cm ps[i]):=rfl;rw [jEI];cases b with
  | false=>simp only [jd,hlt,cs1,hZ]
  | true=>
   have e1:=jxr s ps[i] hc;by_cases hsm:s=1\/(vnC [] ps[i]).length<=4
   ·rw [jQ hsm] at e1;obtain ⟨b',e2,hb'⟩:=jtN hb s hs hs1 ps[i] (by have:=hc.1;omega) hc.tz hc.nodes (by have:=hc.vn;omega) (λy hy=>(hc.2 y hy).1) hsm;have ih:=ih b' (λhbb j hj hj2=>by
     by_cases hji:j=i
     ·subst hji;exact hb' hbb
     ·exact hbt rfl j hj (by omega))
    simp only [jd,hlt,x1,ld,e1,e2,h5,ih]
   ·rw [kA hsm] at e1;have ih:=ih false (λh=>by cases h);simp only [jd,hlt,x1,ld,e1,h5,ih]
theorem jrA (ps:List kh) (hp:ps.length<=1000) (hps:∀c∈ps,CN c) (x:kh) (hx:CN x) (hsd:Sd ps x):G 10 [zq code,cls ps,cm x]=some (vb true,[]):=by
 have key:∀s:Nat,1<=s->s<=3->jea (zq code) (cls ps) (vi (s:Nat)) (.sl 3 (x.map jG))=jea (zq code) (cls ps) (vi ((s+1:Nat):Int)) (.sl 3 (x.map jG)):=by
  intro s h1 h3;have hs1:(1:Int)<=(s:Int):=by omega
  have e:=jrz hb ps hp hps x hx hsd s ⟨h1,h3⟩ hs1 0 (ko _) true (λ_ j _ h=>absurd h (Nat.not_lt_zero _));have hlt:((s:Nat):Int) < 4:=by omega
  simp only [kU] at e;rw [<-e,jEH];simp only [jd,hlt]
 have k1:=key 1 (by decide) (by decide);have k2:=key 2 (by decide) (by decide);have k3:=key 3 (by decide) (by decide);have n4:¬((4:Nat):Int) < 4:=by decide
 have hl:jea (zq code) (cls ps) (vi 1) (.sl 3 (x.map jG))=some (vb true,[]):=by
  refine (k1.trans (k2.trans k3)).trans ?_;show jea (zq code) (cls ps) (vi ((4:Nat):Int)) (.sl 3 (x.map jG))=_;rw [jEH];simp only [jd,n4]
 rw [g10];simp only [jd,hl]
end
def ng (l:Lt):Bool:= !l.1
def jNG (c:kh):Nat:=c.countP ng
def jFg:kh->Nat->Int
 | [],_=> -1
 | l::r,i=>if l.1=false then (i:Nat) else jFg r (i+1)
def jMc (c:kh):Int:=jFg c 0
def jGq (R:Nat->Option kh):Nat->Nat->Option kh
 | 0,_=>none
 | j+1,k=>match R k with|some x=>some x|none=>jGq R j (k+1)
theorem jiY (c:kh) (hl:c.length<=1000) (hz:∀x∈c,Tz x.2):G 35 [cm c]=some (cm c,[]):=by
 have key:=upto (P:=λi=>jud (vi (i:Nat)) (.sl 3 (c.map jG)) [] ((c.take i).map jG)=some (cm c,[])) (n:=c.length) ?_ ?_ 0 (ko _)
 ·simp only [kU,jal,ql] at key;rw [g35];simp only [jd,key]
 ·have nlt:¬((c.length:Nat):Int) < ((c.length:Nat):Int):=by omega
  rw [jER,jam];simp only [jd,nlt]
 ·intro i hi ih;have hlt:(i:Int) < ((c.length:Nat):Int):=by omega
  have e1:=Z5 c[i].2 (hz _ (jC _));have ta:=Y7 (f:=jG) hi;have tl:=take_len (f:=jG) (Qc hi);have hf:jA (i+1) 48=true:=ZS (by omega);have ld:∀l:Lt,kN (.elt (jG l) 0)=some (vb l.1):=λl=>rfl;have ad:∀(l:Lt) (n:Nat),qi (.elt (jG l) 0) n=some (.elt (jG l) n):=λl n=>by rw [qV,yd]
  have ld2:∀l:Lt,ky 2 (.elt (jG l) 1)=some (tm l.2):=λl=>rfl;have ix:=ja (k:=3) (f:=jG) hi;generalize (c.take i).map jG=R at *;generalize c[i]=l at *;rw [jER];simp only [jd,hlt,ix,ad,ld,ld2,e1];generalize hB:kX _ _ _=B;have hB':B=some (ltm l):=by rw [<-hB];kernel_rfl
  rw [hB'];have hck:ck ((i:Int)+1)=some (vi ((i+1:Nat):Int)):=jE (by omega) (by omega);simp only [jd,tl,hf,ta,hck,ih]
noncomputable def jMX (e:kh):Bool:= !jN e || decide (0<=jMc e)
theorem ZN (a:A):Z1 a a=true:=by unfold Z1;exact @jQ _ (Classical.propDecidable _) rfl
def Pok (p:Prf) (s:Stp):Prop:=∀x∈s.par,0<=x/\x < ((p.st.length:Nat):Int)
theorem adS (q:Stp):qi (.elt (stc q) 0) 3=some (.elt (stc q) 3):=by rw [qV,yd]
theorem ldC (q:Stp):ky 1 (.elt (stc q) 3)=some (cm q.cls):=rfl
theorem ixN {l:List Int} {j:Nat} (h:j < l.length) {k:Int} (hk:k=(j:Int)):jl 1 (ints l) (vi k)=some (.elt (ci l[j]) 0):=by
 rw [hk];exact ja h
theorem Jg {p:Prf} {l:List Int} (hr:∀x∈l,0<=x/\x < ((p.st.length:Nat):Int)) (j:Nat) (hj:j < l.length):∃q∈p.st,p.st[l[j].toNat]? = some q/\jl 4 (JE p.st) (vi l[j])=some (.elt (stc q) 0):=by
 have h:=hr _ (jC hj);generalize l[j]=x at h ⊢;obtain ⟨n,rfl⟩:=jcu h.1;have hlt:n < p.st.length:=by omega
 exact ⟨p.st[n],jC hlt,by rw [jgm,kO hlt],ja hlt⟩
theorem jdA {p:Prf} {s:Stp} (j:Nat) (hj:j < s.par.length) {k:Int} (hk:k=(j:Int)) {q:Stp} (hq:jl 4 (JE p.st) (vi s.par[j])=some (.elt (stc q) 0)) :
  jdb (vi k) (cls p.ax) (JE p.st) (vi s.rule) (ints s.par) (ints s.whr) (.sl 3 (s.cls.map jG))=some (.top,[cls p.ax,JE p.st,vi s.rule,ints s.par,ints s.whr,.sl 3 (s.cls.map jG),.sl 3 (q.cls.map jG)]):=by
 have e:=ixN hj hk;rw [jH3];simp only [jd,e,qN,hq,adS,ldC]
section
variable (a b c d e f g:A)
theorem jpt:([a,b,c,d,e,f,g]:List A)[0]? = some a:=rfl
theorem jpu:([a,b,c,d,e,f,g]:List A)[1]? = some b:=rfl
theorem jpv:([a,b,c,d,e,f,g]:List A)[2]? = some c:=rfl
theorem jpw:([a,b,c,d,e,f,g]:List A)[3]? = some d:=rfl
theorem jpx:([a,b,c,d,e,f,g]:List A)[4]? = some e:=rfl
theorem jpy:([a,b,c,d,e,f,g]:List A)[5]? = some f:=rfl
theorem jpz:([a,b,c,d,e,f,g]:List A)[6]? = some g:=rfl
end
def Res (o:Option Out) (r:Option kh):Prop:=∃(c:kh) (b:Bool),o=some (.tup [cm c,vb b],[])/\(b=true->r=some c)/\(b=false->r=none)
theorem Res.of {o:Option Out} {r:Option kh} {c:kh} {b:Bool} (h:Jz r=some (.tup [cm c,vb b],[])) (ho:o=some (.tup [cm c,vb b],[])):Res o r:=by
 cases r with
 | none=>exact ⟨[],false,by rw [ho,<-h];rfl,(λh=>by cases h),λ_=>rfl⟩
 | some c'=>exact ⟨c',true,by rw [ho,<-h];rfl,(λ_=>rfl),λh=>by cases h⟩
def jMV (p:Prf) (s:Stp):Prop:=∃r:Option kh,Res (G 29 [prm p,stm s]) r/\Res (G 37 [prm p,stm s]) r/\ ∀c,r=some c->Cz c/\(wfP p=true->jN c=true)
theorem jHi {p:Prf} (h:wfP p=true):∀c∈p.ax,jN c=true:=by
 unfold wfP at h;rw [jy,jy] at h;exact λc hc=>qn.1 h.1.2 c hc
theorem Zq {c:kh} (h:jN c=true):Cz c:=⟨by have:=(km h).1.1;omega,(km h).1.tz⟩
theorem jkH (c d:kh) (zc:Cz c) (zd:Cz d) (i side k:Int):G 55 [cm c,vi i,vi side,cm d,vi k,ints []]=some (.tup [cz,vb false],[]):=by
 have n1:=yK c zc.1 zc.2;have n2:=yK d zd.1 zd.2;rw [g55];cases hc:jN c<;>rw [hc] at n1
 ·simp only [jd,n1]
 cases hd:jN d<;>rw [hd] at n2
 ·simp only [jd,n1,n2]
 have key:G 86 [cm c,vi i,vi side,cm d,vi k,ints []]=some (.tup [cz,vb false],[]):=by
  obtain ⟨cc,_,_,_⟩:=km hc;obtain ⟨cd,_,_,_⟩:=km hd;have lc:=cc.1;have ld:=cd.1;have p1:=yb c (by omega) i;have p2:=yb d (by omega) k;have p3:=qh side 0 1;rw [g86];cases hi:Yi c i<;>rw [hi] at p1
  ·simp only [jd,p1]
  cases hk:Yi d k<;>rw [hk] at p2
  ·simp only [jd,p1,p2]
  cases hs:qx 0 1 side<;>rw [hs] at p3
  ·simp only [jd,p1,p2,p3]
  obtain ⟨m,rfl,hm⟩:=KB hi;have x1:=ja (k:=3) (f:=jG) hm;have e3:=qG c[m].2;cases hp:c[m].1
  ·simp only [jd,p1,p2,p3,x1,Yr,Qh,hp]
  have hl:zn (ints [])=some (vi 0):=rfl;cases he:decide (c[m].2.name = [61])<;>rw [he] at e3
  ·simp only [jd,p1,p2,p3,x1,Yr,Qh,ldT,hp,e3]
  ·simp only [jd,p1,p2,p3,x1,Yr,Qh,ldT,hp,e3,hl]
 simp only [jd,n1,n2,key]
def jcm:kh->Option T
 | [l]=>if l.1=true then some l.2 else none
 | _=>none
def Jj (p:Prf):List Int->Option (List T)
 | []=>some []
 | x::xs=>match p.st[x.toNat]? with
  | some q=>(match jcm q.cls with
   | some t=>(Jj p xs).map (t::·)
   | none=>none)
  | none=>none
theorem jfa {p:Prf} (hz:∀q∈p.st,Cz q.cls):∀ {l:List Int} {rs:List T},Jj p l=some rs->rs.length=l.length/\ ∀r∈rs,Tz r
 | [],rs,h=>by cases h;exact ⟨rfl,λr hr=>by cases hr⟩
 | x::xs,rs,h=>by
  unfold Jj at h;split at h
  ·rename_i q hq;split at h
   ·rename_i t ht;rw [yB] at h;obtain ⟨rs',h1,rfl⟩:=h;obtain ⟨i1,i2⟩:=jfa hz h1;refine ⟨by simp [i1],λr hr=> ?_⟩;rcases jZ.1 hr with rfl|hr
    ·have hm:=hz q (Yd hq);unfold jcm at ht;split at ht
     ·rename_i l hl;split at ht
      ·cases ht;exact hm.2 l (by rw [hl];exact K1 ..)
      ·cases ht
     ·cases ht
    ·exact i2 r hr
   ·cases h
  ·cases h
theorem Qx {p:Prf} {x:Int} {xs:List Int} {q:Stp} (eq:p.st[x.toNat]? = some q) (hu:jcm q.cls=none):Jj p (x::xs)=none:=by
 rw [Jj,eq];dsimp only;rw [hu]
theorem jg3 {p:Prf} {x:Int} {xs:List Int} {q:Stp} {t:T} (eq:p.st[x.toNat]? = some q) (hu:jcm q.cls=some t):Jj p (x::xs)=(Jj p xs).map (t::·):=by
 rw [Jj,eq];dsimp only;rw [hu]
theorem jj2 (c:kh):(¬((c.length:Nat):Int)=1/\jcm c=none)\/ ∃t:Lt,((c.length:Nat):Int)=1/\jl 3 (.sl 3 (c.map jG)) (vi 0)=some (.elt (jG t) 0)/\jcm c=if t.1=true then some t.2 else none:=by
 match c with
 | []=>exact Or.inl ⟨by simp,rfl⟩
 | [t]=>exact Or.inr ⟨t,rfl,rfl,rfl⟩
 | t::t'::r=>exact Or.inl ⟨by simp only [zk];omega,rfl⟩
theorem jn7 (p:Prf) (l:List Int) (hl:l.length<=1048576) (hr:∀x∈l,0<=x/\x < ((p.st.length:Nat):Int)) :
  jkO (ints l) (vi (l.length:Nat)) (vi 0) (cls p.ax) (JE p.st) []=match Jj p l with|some rs=>some (.tup [jH rs,vb true],[])|none=>some (.tup [.sl 2 [],vb false],[]):=by
 have key:=upto (P:=λi=>∀R:List T,R.length<=i->jkO (ints l) (vi (l.length:Nat)) (vi (i:Nat)) (cls p.ax) (JE p.st) (R.map jo)=match Jj p (l.drop i) with|some rs=>some (.tup [jH (R++rs),vb true],[])|none=>some (.tup [.sl 2 [],vb false],[])) (n:=l.length) ?_ ?_ 0 (ko _) [] (kz _)
 ·simpa only [kU,kD,ql,Ju] using key
 ·intro R hR;rw [jET,kg];simp only [jd,Jj,qv]
 ·intro i hi ih R hR;have hlt:(i:Int) < ((l.length:Nat):Int):=by omega
  have h5:=js hi (by show l.length<=9223372036854775807;omega)
  have y:=ixN (l:=l) (j:=i) hi (k:=i) rfl;obtain ⟨q,mq,eq,xq⟩:=Jg hr i hi;have hf:jA (R.length+1) 40=true:=jjp (by omega);rw [jET,ji hi];rcases jj2 q.cls with ⟨hne,hu⟩|⟨t,he,hx,hu⟩
  ·rw [Qx eq hu];simp only [jd,hlt,y,qN,xq,adS,ldC,hne]
  ·cases hb:t.1<;>rw [hb] at hu
   ·have hu:jcm q.cls=none:=hu;rw [Qx eq hu];simp only [jd,hlt,y,qN,xq,adS,ldC,he,hx,Qh,Yr,hb]
   ·have hu:jcm q.cls=some t.2:=hu;rw [jg3 eq hu];have:=ih (R++[t.2]) (by rw [zh];simp only [zk,yw];omega);have ha:jW (R.map jo) [[sv t.2.name,jH t.2.args]]=(R++[t.2]).map jo:=by rw [zy,List.map_singleton,kG];rfl
    simp only [jd,hlt,y,qN,xq,adS,ldC,he,hx,Qh,Yr,ldT,hb,hf,ha,h5,this];cases Jj p (l.drop (i+1)) with
    | none=>rfl
    | some rs=>simp only [JS,yv,K5,Ju]
theorem jjM (p:Prf) (l:List Int) (hl:l.length<=1048576) (hr:∀x∈l,0<=x/\x < ((p.st.length:Nat):Int)) (h1:1<=l.length) :
  ja5 (ints l) (vi 1) (cls p.ax) (JE p.st) [] [] []=match Jj p (l.drop 1) with|some rs=>ja5 (ints l) (vi (l.length:Nat)) (cls p.ax) (JE p.st) (rs.map jo) [] []|none=>some (.tup [cz,vb false],[]):=by
 have key:=upto (P:=λi=>∀R:List T,R.length<=i->ja5 (ints l) (vi (i:Nat)) (cls p.ax) (JE p.st) (R.map jo) [] []=match Jj p (l.drop i) with|some rs=>ja5 (ints l) (vi (l.length:Nat)) (cls p.ax) (JE p.st) ((R++rs).map jo) [] []|none=>some (.tup [cz,vb false],[])) (n:=l.length) ?_ ?_ 1 h1 [] (ko _)
 ·simpa only [jgl,ql,Ju] using key
 ·intro R hR;rw [kg];simp only [Jj,qv]
 ·intro i hi ih R hR;have hlt:(i:Int) < ((l.length:Nat):Int):=by omega
  have h5:=js hi (by show l.length<=9223372036854775807;omega)
  have y:=ixN (l:=l) (j:=i) hi (k:=i) rfl;obtain ⟨q,mq,eq,xq⟩:=Jg hr i hi;have hf:jA (R.length+1) 40=true:=jjp (by omega);generalize hend:ja5 (ints l) (vi (l.length:Nat)) (cls p.ax) (JE p.st)=E at ih ⊢;rw [jp8,ji hi];rcases jj2 q.cls with ⟨hne,hu⟩|⟨t,he,hx,hu⟩
  ·rw [Qx eq hu];simp only [jd,hlt,y,qN,xq,adS,ldC,hne]
  ·cases hb:t.1<;>rw [hb] at hu
   ·have hu:jcm q.cls=none:=hu;rw [Qx eq hu];simp only [jd,hlt,y,qN,xq,adS,ldC,he,hx,Qh,Yr,hb]
   ·have hu:jcm q.cls=some t.2:=hu;rw [jg3 eq hu];have:=ih (R++[t.2]) (by rw [zh];simp only [zk,yw];omega);have ha:jW (R.map jo) [[sv t.2.name,jH t.2.args]]=(R++[t.2]).map jo:=by rw [zy,List.map_singleton,kG];rfl
    simp only [jd,hlt,y,qN,xq,adS,ldC,he,hx,Qh,Yr,ldT,hb,hf,ha,h5,this];cases Jj p (l.drop (i+1)) with
    | none=>rfl
    | some rs=>simp only [JS,yv,K5,Ju]
theorem jn5 (c:kh) (zc:Cz c) (rs:List T) (hl:rs.length<=1048576) (hz:∀r∈rs,Tz r) (hm:10 < rs.length):G 105 [cm c,jH rs]=some (.tup [cz,vb false],[]):=by
 have m1:=qb c zc.1 zc.2;obtain ⟨b,r1,r2,hb⟩:=jq3 rs hl hz;rw [jDi];cases hc:jN c<;>rw [hc] at m1
 ·simp only [jd,m1]
 cases b
 ·simp only [jd,m1,r1]
 ·have:=(hb rfl).1.1;omega
structure Pz (p:Prf):Prop where
 ax:p.ax.length<=1048576
 st:p.st.length<=1048576
 axs:∀c∈p.ax,Cz c
 par:∀s∈p.st,s.par.length<=1048576
 whr:∀s∈p.st,s.whr.length<=1048576
 wI:∀s∈p.st,∀x∈s.whr,I64 x
 cls:∀s∈p.st,Cz s.cls
theorem Cz.of {c:kh} (h:csz c<=1048576):Cz c:=⟨by unfold csz at h;omega,λl hl=>by have:=jvb hl;unfold csz at h;show tsz l.2<=1048576;omega⟩
theorem Pz.of {p:Prf} (hw:pwf p) (h:psz p<=1048576):Pz p:=by
 unfold psz at h;refine ⟨by omega,by omega,λc hc=> ?_,λs hs=> ?_,λs hs=> ?_,λs hs=>(hw.2.1 s hs).2.2.1.1,λs hs=> ?_⟩
 ·have:=jpc hc;exact Cz.of (by omega)
 ·have:=jff hs;unfold ssz at this;omega
 ·have:=jff hs;unfold ssz at this;omega
 ·have:=jff hs;unfold ssz at this;exact Cz.of (by omega)
theorem jpb (i:Nat) (hi:i<=1048576) (x:Int):G 28 [vi x,.elt [vi (i:Nat)] 0]=some (vb (!qx 0 ((i:Int) - 1) x),[]):=by
 have c1:ck ((i:Int) - 1)=some (vi ((i:Int) - 1)):=jE (by omega) (by omega);have e:=qh x 0 ((i:Int) - 1);have ld:kN (.elt [vi (i:Nat)] 0)=some (vi (i:Nat)):=rfl;rw [g28];simp only [jd,ld,c1,e]
theorem jnh (i:Nat) (hi:i<=1048576) (l:List Int) (hl:l.length<=1048576):G 27 [ints l,.fn 28 [.elt [vi (i:Nat)] 0]]=some (vb (!l.all (qx 0 ((i:Int) - 1))),[]):=by
 have key:=upto (P:=λj=>∃k:Int,jue (ints l) (.fn 28 [.elt [vi (i:Nat)] 0]) (vi (l.length:Nat)) (vi (j:Nat))=some (vi k,[])/\decide (k>=0)=!(l.drop j).all (qx 0 ((i:Int) - 1))) (n:=l.length) ?_ ?_ 0 (ko _)
 ·obtain ⟨k,h1,h2⟩:=key;simp only [kU,kD] at h1 h2;have e2:G 51 [ints l,.fn 28 [.elt [vi (i:Nat)] 0]]=some (vi k,[]):=by
   rw [g51];simp only [jd,h1]
  rw [g27,<-h2];simp only [jd,e2]
 ·refine ⟨-1,?_,?_⟩
  ·rw [jES];simp only [jd]
  ·rw [kg];rfl
 ·intro j hj ⟨k,ih1,ih2⟩;have hlt:(j:Int) < ((l.length:Nat):Int):=by omega
  have h5:=js hj (by show l.length<=9223372036854775807;omega)
  have e1:=jpb i hi l[j];have hp:K.pureF 28=true:=rfl;have cc:DX.run K (MM K) (.callc (.fn 28 [.elt [vi (i:Nat)] 0]) [vi l[j]] false)=some (vb (!qx 0 ((i:Int) - 1) l[j])):=by
   rw [qP hp,List.singleton_append,e1];rfl
  rw [jES,ji hj,yU];cases hn:qx 0 ((i:Int) - 1) l[j]<;>rw [hn] at cc
  ·refine ⟨j,?_,?_⟩
   ·simp only [jd,hlt,ja hj,qN,cc]
   ·rw [jQ (by omega)];rfl
  ·refine ⟨k,?_,?_⟩
   ·simp only [jd,hlt,ja hj,qN,cc,h5,ih1]
   ·rw [ih2,jR]
theorem jdg (p:Prf) (s:Stp) (i:Nat) (hi:i<=1048576) (hl:s.par.length<=1048576) :
  jen (vi (i:Nat)) (vi 0) (cls p.ax) (JE p.st) (vi s.rule) (ints s.par) (ints s.whr) (.sl 3 (s.cls.map jG))=if s.par.all (qx 0 ((i:Int) - 1)) then jen (vi (i:Nat)) (vi (s.par.length:Nat)) (cls p.ax) (JE p.st) (vi s.rule) (ints s.par) (ints s.whr) (.sl 3 (s.cls.map jG)) else some (vb false,[]):=by
 generalize hend:jen (vi (i:Nat)) (vi (s.par.length:Nat)) (cls p.ax) (JE p.st) (vi s.rule) (ints s.par) (ints s.whr) (.sl 3 (s.cls.map jG))=E;have key:=upto (P:=λj=>jen (vi (i:Nat)) (vi (j:Nat)) (cls p.ax) (JE p.st) (vi s.rule) (ints s.par) (ints s.whr) (.sl 3 (s.cls.map jG))=if (s.par.drop j).all (qx 0 ((i:Int) - 1)) then E else some (vb false,[])) (n:=s.par.length) ?_ ?_ 0 (ko _)
 ·simpa only [kU,kD] using key
 ·rw [kg,hend];rfl
 ·intro j hj ih;have c1:ck ((i:Int) - 1)=some (vi ((i:Int) - 1)):=jE (by omega) (by omega);have hlt:(j:Int) < ((s.par.length:Nat):Int):=by omega
  have h5:=js hj (by show s.par.length<=9223372036854775807;omega)
  have e1:=yx s.par[j] 0 ((i:Int) - 1);rw [jAc,ji hj,yU];cases hn:qx 0 ((i:Int) - 1) s.par[j]<;>rw [hn] at e1
  ·rw [jK];simp only [jd,hlt,ja hj,qN,c1,e1]
  ·rw [jR,<-ih];simp only [jd,hlt,ja hj,qN,c1,e1,h5]
def R3 (S:List (List UInt8)) (r:T):Prop:=r.name = [61]/\r.args.length=2/\Tz r/\(zS (JD r)=true/\VIn S (JD r))/\zS (Zb r)=true/\VIn S (Zb r)
def jMu (code:List Int) (s:Int) (r:T):Prop:=∀e:List UInt8->Int,(∀x,0<=e x/\e x < s)->val (qB code s) e (JD r)=val (qB code s) e (Zb r)
theorem jBC {r:T} (h:r.args.length=2):r.args = [JD r,Zb r]:=by
 obtain ⟨n,us⟩:=r
 match us,h with
 | [u,v],_=>rfl
section
variable {code:List Int} (hb:By code)
include hb
end
def MD (code:List Int) (z q:Nat) (a:Int) (o:Option Out):Prop:=∃a' s' t,a<=a'/\a'<=a+(q:Nat)/\(tsz t<=z/\nmT t=true)/\o=some (.top,[zq code,vi a',vu s',tm t])
def fT (n:List UInt8):T:= .mk [102] [.mk n []]
def hT:T:= .mk [104] [fT [97],fT [97],fT [97],fT [97]]
def gT (us:List T):T:= .mk [103] us
section
variable {code:List Int} (hb:By code)
include hb
theorem jEm (a s:Int) (h0:0<=a) (h1:a<=999990000):MD code 200 2 a (jmj (zq code) (vi a) (vu s)):=by
 obtain ⟨a1,s1,b1,q1,q2,e1⟩:=KW hb 2 (by decide) (by decide) a s h0 (by omega);obtain ⟨a2,s2,b2,r1,r2,e2⟩:=KW hb 2 (by decide) (by decide) a1 s1 (by omega) (by omega);have inner:∀(x y:Int) (r1:List (List A)),x+1=y->0<=x->x < 4->r1.length<=10->jd9 (vi x) (vi 0) (zq code) (vi a) (vu s) (sv []) (sv [103]) (sv [104]) [] r1 []=jbp (vi y) (zq code) (vi a) (vu s) (sv []) (sv [103]) [] (r1++[jo hT]):=by
  intro x y r1 hxy hx hi hr;have hf:jA (r1.length+1) 40=true:=jjp (by omega);have c5:ck (x+1)=some (vi y):=by rw [hxy];exact jE (by omega) (by omega)
  have k1:ck ((0:Int)+1)=some (vi 1):=jE (by decide) (by decide);have k2:ck ((1:Int)+1)=some (vi 2):=jE (by decide) (by decide);have k3:ck ((2:Int)+1)=some (vi 3):=jE (by decide) (by decide);have k4:ck ((3:Int)+1)=some (vi 4):=jE (by decide) (by decide);have f1:jA (0+1) 40=true:=rfl;have f2:jA (1+1) 40=true:=rfl;have f3:jA (2+1) 40=true:=rfl;have f4:jA (3+1) 40=true:=rfl;have l0:((0:Int) < 4)=True:=by simp
  have l1:((1:Int) < 4)=True:=by simp
  have l2:((2:Int) < 4)=True:=by simp
  have l3:((3:Int) < 4)=True:=by simp
  rw [jbW];simp only [jd,l0,f1,k1];rw [jbW];simp only [jd,l1,f2,k2,jW];rw [jbW];simp only [jd,l2,f3,k3,jW];rw [jbW];simp only [jd,l3,f4,k4,jW];rw [jbW];simp only [jd,hf,c5,jW];rfl
 have l0:((0:Int) < 4)=True:=by simp
 have l1:((1:Int) < 4)=True:=by simp
 have l2:((2:Int) < 4)=True:=by simp
 have l3:((3:Int) < 4)=True:=by simp
 have head:jmj (zq code) (vi a) (vu s)=jbp (vi 4) (zq code) (vi a) (vu s) (sv []) (sv [103]) [] [jo hT,jo hT,jo hT,jo hT]:=by
  rw [jFU,jbV];simp only [jd,l0];rw [inner 0 1 [] (by decide) (by decide) (by decide) (by decide),jbV];simp only [jd,l1];rw [inner 1 2 _ (by decide) (by decide) (by decide) (by decide),jbV];simp only [jd,l2];rw [inner 2 3 _ (by decide) (by decide) (by decide) (by decide),jbV];simp only [jd,l3];rw [inner 3 4 _ (by decide) (by decide) (by decide) (by decide)];rfl
 rw [head,jbV];have n4:((4:Int) < 4)=False:=by simp
 cases b1 with
 | true=>
  cases b2 with
  | true=>
   refine ⟨a2,s2,gT [hT,hT,hT,fT [98]],by omega,by omega,by decide,?_⟩;simp only [jd,n4,e1,e2,jM,j4];rfl
  | false=>
   refine ⟨a2,s2,gT [hT,hT,hT],by omega,by omega,by decide,?_⟩;simp only [jd,n4,e1,e2,jM,j4];rfl
 | false=>
  refine ⟨a2,s2,gT [hT,hT,hT,hT],by omega,by omega,by decide,?_⟩;cases b2<;>simp only [jd,n4,e1,e2,jM,j4]<;>rfl
theorem jsu (a s:Int) (h0:0<=a) (h1:a<=999980000):MD code 1000 1200 a (jxN (zq code) (vi a) (vu s)):=by
 obtain ⟨a1,s1,t1,q1,q2,q3,e1⟩:=jc0 hb a s h0 (by omega);obtain ⟨a2,s2,x,r1,r2,x0,x1,e2⟩:=zX hb 24 (by decide) (by decide) a1 s1 (by omega) (by omega);have hz:=kH t1;rw [jIb];by_cases y0:x=0
 ·subst y0;obtain ⟨a3,s3,w,hw,u1,u2,e⟩:=jqn hb [[],[116,114,117,101],[116,114,117,116,104],[105,102],[88,121,122,57],[88,121,122,57,57],[120,65],[97,95,98],[97,98,99,100,101,102],[97,98,99,100,101,102,103],[95,97],[57],[88,95],[61]] (by decide) (by decide) a2 s2 (by omega) (by omega);have hl:w.length<=7/\Q9 w=true:=(show ∀w∈([[],[116,114,117,101],[116,114,117,116,104],[105,102],[88,121,122,57],[88,121,122,57,57],[120,65],[97,95,98],[97,98,99,100,101,102],[97,98,99,100,101,102,103],[95,97],[57],[88,95],[61]]:List (List UInt8)),w.length<=7/\Q9 w=true by decide) w hw;have e:ZJ (zq code) (vi a2) (vu s2) [[sv []],[sv [116,114,117,101]],[sv [116,114,117,116,104]],[sv [105,102]],[sv [88,121,122,57]],[sv [88,121,122,57,57]],[sv [120,65]],[sv [97,95,98]],[sv [97,98,99,100,101,102]],[sv [97,98,99,100,101,102,103]],[sv [95,97]],[sv [57]],[sv [88,95]],[sv [61]]]=some (.top,[zq code,vi a3,vu s3,sv w]):=e;refine ⟨a3,s3,.mk w t1.args,by omega,by omega,⟨by rw [Kd];omega,jqk hl.2 (nmA q3.2)⟩,?_⟩;simp only [jd,e1,e2,e,jM,j4,Jo];rfl
 by_cases y1:x=1
 ·subst y1;obtain ⟨a3,s3,y,u1,u2,u3,u4,e3⟩:=zX hb 3 (by decide) (by decide) a2 s2 (by omega) (by omega);obtain ⟨k,hk⟩:∃k:Nat,7+y=(k:Nat):=⟨(7+y).toNat,by omega⟩;have c1:ck (7+y)=some (vi (k:Nat)):=by rw [hk];exact jE (by omega) (by omega)
  obtain ⟨a4,s4,t4,v1,v2,v3,e4⟩:=jBy hb k (by omega) a3 s3 (by omega) (by omega);refine ⟨a4,s4,t4,by omega,by omega,⟨by omega,v3.2⟩,?_⟩;simp only [jd,y0,e1,e2,e3,c1,e4,jM,j4,Jo]
 by_cases y2:x=2
 ·subst y2;obtain ⟨a3,s3,t3,u1,u2,u3,e3⟩:=jEm hb a2 s2 (by omega) (by omega);refine ⟨a3,s3,t3,by omega,by omega,⟨by omega,u3.2⟩,?_⟩;simp only [jd,y0,y1,e1,e2,e3,jM,j4,Jo]
 by_cases y3:x=3
 ·subst y3;obtain ⟨a3,s3,t3,u1,u2,u3,e3⟩:=jc0 hb a2 s2 (by omega) (by omega);obtain ⟨a4,s4,t4,v1,v2,v3,e4⟩:=jc0 hb a3 s3 (by omega) (by omega);obtain ⟨a5,s5,t5,w1,w2,w3,e5⟩:=jc0 hb a4 s4 (by omega) (by omega);have hf:jA (t1.args.length+3) 40=true:=jjp (by omega);have hsz:∀us:List T,Jd (us++[t3,t4,t5])=Jd us+(tsz t3+(tsz t4+tsz t5)):=by
   intro us;induction us with
   | nil=>simp [Jd]
   | cons u us ih=>simp only [K5,Jd];omega
  refine ⟨a5,s5,.mk t1.name (t1.args++[t3,t4,t5]),by omega,by omega,⟨by rw [Kd,hsz,zh,zk,zk,zk,yw];omega,jqk (nmN q3.2) (by rw [jje,nmA q3.2,Qi,u3.2,Qi,v3.2,Qi,w3.2];rfl)⟩,?_⟩
  simp only [jd,y0,y1,y2,e1,e2,e3,e4,e5,hf,kj,jM,j4,Jo];show _=some (A.top,[zq code,vi a5,vu s5,A.agg [sv t1.name,.sl 2 ((t1.args++[t3,t4,t5]).map jo)]]);rw [zy,zf,zf,zf,kG t3,kG t4,kG t5];rfl
 by_cases y4:x=4
 ·subst y4;cases ht:t1.args with
  | nil=>
   rw [ht] at e1;refine ⟨a2,s2,t1,by omega,by omega,⟨by omega,q3.2⟩,?_⟩;simp only [jd,y0,y1,y2,y3,e1,e2,kU,ql,jM,j4,Jo];rw [show tm t1=A.agg [sv t1.name,.sl 2 (t1.args.map jo)] from rfl,ht];rfl
  | cons u us=>
   rw [ht] at e1 hz;obtain ⟨a3,s3,w,hw,u1,u2,e⟩:=jqn hb [[61],[],[81,49],[98,50]] (by decide) (by decide) a2 s2 (by omega) (by omega);have hl:w.length<=2/\Q9 w=true:=(show ∀w∈([[61],[],[81,49],[98,50]]:List (List UInt8)),w.length<=2/\Q9 w=true by decide) w hw;have e:ZJ (zq code) (vi a2) (vu s2) [[sv [61]],[sv []],[sv [81,49]],[sv [98,50]]]=some (.top,[zq code,vi a3,vu s3,sv w]):=e;have hu:=kH u;simp only [Jd,zk] at hz;refine ⟨a3,s3,.mk t1.name (.mk w u.args::us),by omega,by omega,⟨by rw [Kd];simp only [Jd,zk,Kd];omega,?_⟩,?_⟩
   ·have h1:=nmA q3.2;rw [ht,Qi,jy] at h1;exact jqk (nmN q3.2) (by rw [Qi,jqk hl.2 (nmA h1.1),h1.2];rfl)
   have x2:Zf (us.length+1) (vi 0)=some 0:=zz (i:=0) (by omega);have x3:J5 (jo u::us.map jo) 0 1=some (jH u.args):=by rw [kG];rfl
   have x4:(0:Int) < ((us.length+1:Nat):Int):=by omega
   simp only [jd,y0,y1,y2,y3,e1,e2,e,zf,zk,kj,x2,x3,x4,jM,j4,Jo];generalize hB:kX _ _ _=B;have hB':B=some (.agg [sv w,jH u.args]):=by rw [<-hB];kernel_rfl
   rw [hB'];simp only [jd,jac,qg,jez,jM,j4,Jo];rw [kG];show some (A.top,[zq code,vi a3,vu s3,A.agg [sv t1.name,A.sl 2 (yO [sv u.name,A.sl 2 (List.map jo u.args)] 0 [sv w,jH u.args]::List.map jo us)]])=some (A.top,[zq code,vi a3,vu s3,A.agg [sv t1.name,.sl 2 (jo (.mk w u.args)::us.map jo)]]);rw [jez,kG];rfl
 ·refine ⟨a2,s2,t1,by omega,by omega,⟨by omega,q3.2⟩,?_⟩;simp only [jd,e1,e2,y0,y1,y2,y3,y4,jM,j4,Jo]
end
theorem jqP {α:Type} (f:α->List A) (l:List α):yM (l.map f)=l.length:=kj ..
def OD (code:List Int) (q:Nat) (a:Int) (o:Option Out):Prop:=∃a' s' r,a<=a'/\a'<=a+(q:Nat)/\owf r/\o=some (.top,[zq code,vi a',vu s',od r])
section
variable {code:List Int} (hb:By code)
include hb
end
def PD (code:List Int) (z q:Nat) (a:Int) (o:Option Out):Prop:=∃a' s' t u,a<=a'/\a'<=a+(q:Nat)/\tsz t<=z/\tsz u<=z/\o=some (.top,[zq code,vi a',vu s',.tup [tm t,tm u]])
section
variable {code:List Int} (hb:By code)
include hb
end
section
variable {code:List Int} (hb:By code)
include hb
end
theorem jvo (u:List (List UInt8 × T)) (hl:u.length<=1000) (i:Nat) (hi:i<=u.length) :
  pB u.length u.length (some (vi (i:Nat)))=some i/\yW (u.map bc) 0 i=(u.take i).map bc/\jA (u.take i).length 56=true/\pB u.length u.length none=some u.length/\pB 0 u.length (some (vi (i:Nat)))=some i/\yW (u.map bc) i (u.length - i)=(u.drop i).map bc/\yi (u.map bc) 0=u.length/\jA ((u.take i).length+1) 56=true/\jA ((u.take i).length+1+(u.drop i).length) 56=true:=by
 refine ⟨Jq hi,by rw [yW,kD,jfr],jnW (by rw [Ky];omega),yg (kz _),Jq hi,?_,by rw [yi,kj];rfl,jnW (by rw [Ky];omega),jnW (by rw [Ky,qu];omega)⟩
 rw [yW,<-jcA,Zd (by rw [kj,qu];omega)]
theorem jvn (u v:List (List UInt8 × T)) (n:List UInt8) (t:T):jW (jW (u.map bc) [[sv n,sv t.name,jH t.args]]) (v.map bc)=(u++[(n,t)]++v).map bc:=by
 rw [zy,zy];rfl
theorem jvp (u:List (List UInt8 × T)) (n:List UInt8) (t:T):(jW (u.map bc) [[sv n,sv t.name,jH t.args]]).length=u.length+1:=by
 simp [jW]
theorem put_eq (u:List (List UInt8 × T)) (hl:u.length<=1000) (n:List UInt8) (t:T) (ht:tsz t<=1048576):∃u',u'.length<=u.length+1/\(∀p∈u',p∈u\/p=(n,t))/\jr1 (sv n) (sv t.name) (u.map bc) (t.args.map jo)=some (.top,[K8 u']):=by
 have e1:=Z5 t ht;have key:=upto (P:=λi=>∃j,j<=u.length/\jbs (sv n) (vi i) (sv t.name) (u.map bc) (t.args.map jo) []=some (.top,[K8 (u.take j++[(n,t)]++u.drop j)])) (n:=u.length) ?_ ?_ 0 (ko _)
 ·rw [jFZ];by_cases h:t.name=n
  ·refine ⟨u,by omega,λp hp=>Or.inl hp,?_⟩;simp only [jd,h]
  ·obtain ⟨j,hj,e⟩:=key;have e:jbs (sv n) (vi 0) (sv t.name) (u.map bc) (t.args.map jo) []=some (.top,[K8 (u.take j++[(n,t)]++u.drop j)]):=e;refine ⟨u.take j++[(n,t)]++u.drop j,by rw [zh,zh,Ky,qu,qm];omega,λp hp=> ?_,?_⟩
   ·rw [kZ,kZ,ku] at hp;rcases hp with (hp|hp)|hp
    ·exact Or.inl (jd3 hp)
    ·exact Or.inr hp
    ·exact Or.inl (jd4 hp)
   ·simp only [jd,h,e]
 ·refine ⟨u.length,kz _,?_⟩;obtain ⟨k1,k2,k3,k4,k5,k6,k7,k8,k9⟩:=jvo u hl u.length (kz _);have m1:=jvn (u.take u.length) (u.drop u.length) n t;have m2:=jvp (u.take u.length) n t;rw [jiP];simp only [jd,jqP,k1,k2,k3,k4,k5,k6,k7,qO,jak,yd,e1];generalize hB:kX _ _ _=B;have hB':B=some (.agg [sv n,sv t.name,jH t.args]):=by rw [<-hB];kernel_rfl
  rw [hB'];simp only [jd,k3,k8,k9,m1,m2]
 ·intro i hi ih;have hlt:(i:Int) < ((u.length:Nat):Int):=by omega
  have h5:=js hi (by show u.length<=9223372036854775807;omega)
  have x1:Zf u.length (vi ((i:Nat):Int))=some i:=zz hi;have x2:J5 (u.map bc) i 0=some (sv u[i].1):=by unfold J5;simp [hi]
  cases hs:yX u[i].1 n
  ·refine ⟨i,by omega,?_⟩;obtain ⟨k1,k2,k3,k4,k5,k6,k7,k8,k9⟩:=jvo u hl i (by omega);have m1:=jvn (u.take i) (u.drop i) n t;have m2:=jvp (u.take i) n t;rw [jiP];simp only [jd,hlt,x1,x2,hs,jqP,k1,k2,k3,k4,k5,k6,k7,qO,jak,yd,e1];generalize hB:kX _ _ _=B;have hB':B=some (.agg [sv n,sv t.name,jH t.args]):=by rw [<-hB];kernel_rfl
   rw [hB'];simp only [jd,k3,k8,k9,m1,m2]
  ·obtain ⟨j,hj,e⟩:=ih;refine ⟨j,hj,?_⟩;rw [jiP];simp only [jd,hlt,x1,x2,hs,h5,e]
section
variable {code:List Int} (hb:By code)
include hb
theorem jhl (a s:Int) (h0:0<=a) (h1:a<=999960000):∃a' s' u,a<=a'/\a'<=a+1000/\u.length<=4/\Sz 192 u/\jrX (zq code) (vi a) (vu s)=some (.top,[zq code,vi a',vu s',sb u]):=by
 have key:=upto (P:=λi=>∀(u:List (List UInt8 × T)) (a s:Int),0<=a->a<=999961000 - 200 * ((4:Int) - (i:Int))->u.length<=i->Sz 192 u-> ∃a' s' u',a<=a'/\a'<=a+200 * ((4:Int) - (i:Int))/\u'.length<=4/\Sz 192 u'/\jbo (vi 4) (vi i) (zq code) (vi a) (vu s) ([[85],[88],[89],[90]].map cs) [] (u.map bc)=some (.top,[zq code,vi a',vu s',sb u'])) (n:=4) ?_ ?_ 0 (ko _)
 ·obtain ⟨a',s',u,q1,q2,q3,q4,e⟩:=key [] a s h0 (by omega) (by simp) ⟨by simp,by simp⟩;refine ⟨a',s',u,q1,by omega,q3,q4,?_⟩;rw [jFR];exact e
 ·intro u a s h0 h1 hl hu;refine ⟨a,s,u,by omega,by omega,hl,hu,?_⟩;have n4:((4:Nat):Int)=4:=rfl;rw [jpQ];simp only [jd,n4]
 ·intro i hi ih u a s h0 h1 hl hu;have hlt:(i:Int) < 4:=by omega
  have h5:ck ((i:Int)+1)=some (vi ((i+1:Nat):Int)):=jE (by omega) (by omega);obtain ⟨a1,s1,b,q1,q2,e1⟩:=KW hb 2 (by decide) (by decide) a s h0 (by omega);have hi4:i < ([[85],[88],[89],[90]]:List (List UInt8)).length:=hi;have x1:Zf ([[85],[88],[89],[90]]:List (List UInt8)).length (vi ((i:Nat):Int))=some i:=zz hi4;obtain ⟨nm,hnm,x2⟩:∃nm:List UInt8,nm.length<=1/\J5 (([[85],[88],[89],[90]]:List (List UInt8)).map cs) i 0=some (sv nm):=by
   match i,hi with
   | 0,_=>exact ⟨[85],by decide,rfl⟩
   | 1,_=>exact ⟨[88],by decide,rfl⟩
   | 2,_=>exact ⟨[89],by decide,rfl⟩
   | 3,_=>exact ⟨[90],by decide,rfl⟩
  rw [jpQ];generalize ([[85],[88],[89],[90]]:List (List UInt8))=l at *;cases b with
  | true=>
   obtain ⟨a2,s2,t,r1,r2,r3,e2⟩:=jc0 hb a1 s1 (by omega) (by omega);obtain ⟨u',v1,v2,e3⟩:=put_eq u (by omega) nm t (by omega);have hu':Sz 192 u':=⟨by omega,λp hp=>by
    rcases v2 p hp with h|h
    ·exact hu.2 p h
    ·rw [h];exact ⟨by show nm.length<=192;omega,r3.1⟩⟩
   obtain ⟨a3,s3,u3,w1,w2,w3,w4,e4⟩:=ih u' a2 s2 (by omega) (by omega) (by omega) hu';have x3:hR 3 (A.top,[K8 u']) 0=some (u'.map bc):=by simp [hR]
   refine ⟨a3,s3,u3,by omega,by omega,w3,w4,?_⟩;simp only [jd,hlt,x1,x2,e1,e2,jM,j4,Jo,e3,x3,h5,e4]
  | false=>
   obtain ⟨a3,s3,u3,w1,w2,w3,w4,e4⟩:=ih u a1 s1 (by omega) (by omega) (by omega) hu;refine ⟨a3,s3,u3,by omega,by omega,w3,w4,?_⟩;simp only [jd,hlt,x1,x2,e1,jM,j4,Jo,h5,e4]
end
abbrev S3:List (List UInt8):=[[88],[89],[90]]
theorem jIN:∀t:T,zS t=true->VIn S3 t->nmT t=true:=by
 refine T.ind λt ih hk hv=> ?_;rw [yp] at hk;unfold VIn at hv;rw [Jt] at hv;rw [jtc];cases h:jp t.name with
 | true=>
  rw [h,jg rfl] at hk hv;have h1:=hv t.name (by simp);have h2:Q9 t.name=true:=by
   unfold Q9;simp only [jZ,qK,Jb] at h1;rcases h1 with e|e|e<;>rw [e]<;>decide
  rw [h2,jcr.1 hk];rfl
 | false=>
  rw [h,jf j7] at hk hv;simp only [jy] at hk;have h2:Q9 t.name=true:=by unfold Q9;rw [h];rfl
  have h3:∀us:List T,(∀u∈us,u∈t.args)->(∀x∈zD us,x∈S3)->jc9 us=true->Qi us=true:=by
   intro us;induction us with
   | nil=>intro _ _ _;rfl
   | cons u us ih2=>
    intro hm hx hk;rw [jc9,jy] at hk;rw [zD] at hx;rw [Qi,ih u (hm u (by simp)) hk.1 (λx h=>hx x (JA _ h)),ih2 (λv h=>hm v (by simp [h])) (λx h=>hx x (Kg _ h)) hk.2];rfl
  rw [h2,h3 t.args (λ_ h=>h) hv hk.2.2];rfl
def GT (N:Nat) (t:T):Prop:=zS t=true/\nodes t<=N/\VIn S3 t
theorem GT.valid {N:Nat} (hN:N<=8) {t:T} (h:GT N t):zl t=true/\tsz t<=80:=by
 have h1:=jdT t h.1;have h2:=jsE t;have h3:=h.2.1;refine ⟨?_,by omega⟩;unfold zl jD;rw [h.1,jQ (show nodes t<=30 by omega),jQ (show J8 t<=8 by omega)];rfl
theorem GT.nm {N:Nat} {t:T} (h:GT N t):nmT t=true:=jIN t h.1 h.2.2
theorem GT.le {M N:Nat} (h:M<=N) {t:T} (ht:GT M t):GT N t:=⟨ht.1,K2 ht.2.1 h,ht.2.2⟩
theorem GT.leaf {w:List UInt8} (h:w∈([[88],[89],[90],[97],[98]]:List (List UInt8))):GT 1 (.mk w []):=by
 simp only [jZ,qK,Jb] at h;refine ⟨?_,kz _,?_⟩
 ·rcases h with rfl|rfl|rfl|rfl|rfl<;>decide
 ·intro x hx;rw [Jt] at hx;rcases h with rfl|rfl|rfl|rfl|rfl<;>simp [jp,upc,qx,T.name,T.args,zD] at hx<;>simp [hx]
theorem GT.app {n:List UInt8} {us:List T} {N:Nat} (hv:jp n=false) (hs:y5 n=true) (hl:us.length<=4) (h:∀u∈us,zS u=true/\VIn S3 u) (hN:1+jr us<=N):GT N (.mk n us):=by
 refine ⟨?_,?_,?_⟩
 ·rw [yp];show (if jp n then _ else y5 n && (decide (us.length<=4) && jc9 us))=true;rw [hv,jf j7,hs,jQ hl,jR,jR,qU,qn];exact λu hu=>(h u hu).1
 ·rw [jT];exact hN
 ·intro x hx;rw [Jt] at hx;have hx:x∈(if jp n then [n] else zD us):=hx;rw [hv,jf j7] at hx;have:∀us:List T,(∀u∈us,VIn S3 u)->x∈zD us->x∈S3:=by
   intro us;induction us with
   | nil=>intro _ h;cases h
   | cons u us ih=>
    intro h hx;rw [zD] at hx;rcases kZ.1 hx with hx|hx
    ·exact h u (by simp) x hx
    ·exact ih (λv hv=>h v (by simp [hv])) hx
  exact this us (λu hu=>(h u hu).2) hx
def GD (code:List Int) (N q:Nat) (a:Int) (o:Option Out):Prop:=∃a' s' t,a<=a'/\a'<=a+(q:Nat)/\GT N t/\o=some (.top,[zq code,vi a',vu s',sv (T.name t),jH (T.args t)])
section
variable {code:List Int} (hb:By code)
include hb
theorem jiZ (a s:Int) (h0:0<=a) (h1:a<=1000000000):∃a' s' w,GT 1 (.mk w [])/\a<=a'/\a'<=a+1/\ZJ (zq code) (vi a) (vu s) [[sv [88]],[sv [89]],[sv [90]],[sv [97]],[sv [98]],[sv [88]],[sv [97]]]=some (.top,[zq code,vi a',vu s',sv w]):=by
 obtain ⟨a',s',w,hw,q1,q2,e⟩:=jqn hb [[88],[89],[90],[97],[98],[88],[97]] (by decide) (by decide) a s h0 h1;refine ⟨a',s',w,GT.leaf ?_,q1,q2,e⟩;simp only [jZ,qK,Jb] at hw ⊢;rcases hw with h|h|h|h|h|h|h<;>simp [h]
theorem jla (J8:Int) (hd:J8<=1) (a s:Int) (h0:0<=a) (h1:a<=999999000):GD code 1 1 a (Ze (vi J8) (zq code) (vi a) (vu s)):=by
 obtain ⟨a1,s1,w,hw,q1,q2,e⟩:=jiZ hb a s h0 (by omega);refine ⟨a1,s1,.mk w [],q1,by omega,hw,?_⟩;rw [jbD];simp only [jd,hd,e,jM,j4,Jo];rfl
theorem jwf (N q:Nat) (d:Nat) (h1d:1<=d) (hd:d<=10) (ih:∀a s:Int,0<=a->a<=999999000->GD code N q a (Ze (vi (d:Nat)) (zq code) (vi a) (vu s))) (hq:q<=300) (a s:Int) (h0:0<=a) (h1:a<=999998000):GD code (2 * N+1) (2 * q+3) a (Ze (vi ((d+1:Nat):Int)) (zq code) (vi a) (vu s)):=by
 have hle:¬((d+1:Nat):Int)<=1:=by omega
 obtain ⟨a1,s1,b1,q1,q2,e1⟩:=KW hb 3 (by decide) (by decide) a s h0 (by omega);cases b1 with
 | true=>
  obtain ⟨a2,s2,w,hw,r1,r2,e⟩:=jiZ hb a1 s1 (by omega) (by omega);refine ⟨a2,s2,.mk w [],by omega,by omega,hw.le (by omega),?_⟩;rw [jbD];simp only [jd,hle,e1,e,jM,j4,Jo];rfl
 | false=>
  obtain ⟨a2,s2,b2,r1,r2,e2⟩:=KW hb 2 (by decide) (by decide) a1 s1 (by omega) (by omega);have c1:ck (((d+1:Nat):Int) - 1)=some (vi (d:Nat)):=by rw [show ((d+1:Nat):Int) - 1=(d:Nat) by omega];exact jE (by omega) (by omega)
  obtain ⟨a3,s3,t3,u1,u2,u3,e3⟩:=ih a2 s2 (by omega) (by omega);cases b2 with
  | true=>
   refine ⟨a3,s3,.mk [102] [t3],by omega,by omega,GT.app (by decide) (by decide) (by simp) (λu hu=> ?_) ?_,?_⟩
   ·simp only [ku] at hu;subst hu;exact ⟨u3.1,u3.2.2⟩
   ·have:=u3.2.1;simp only [jr];omega
   rw [jbD];simp only [jd,hle,e1,e2,c1,e3,jM,j4,Jo];rw [<-jEd];rfl
  | false=>
   obtain ⟨a4,s4,t4,v1,v2,v3,e4⟩:=ih a3 s3 (by omega) (by omega);refine ⟨a4,s4,.mk [103] [t3,t4],by omega,by omega,GT.app (by decide) (by decide) (by simp) (λu hu=> ?_) ?_,?_⟩
   ·simp only [jZ,qK,Jb] at hu;rcases hu with rfl|rfl
    ·exact ⟨u3.1,u3.2.2⟩
    ·exact ⟨v3.1,v3.2.2⟩
   ·have:=u3.2.1;have:=v3.2.1;simp only [jr];omega
   rw [jbD];simp only [jd,hle,e1,e2,c1,e3,e4,jM,j4,Jo];rw [<-jro];rfl
theorem Yw (a s:Int) (h0:0<=a) (h1:a<=999998000):GD code 3 5 a (Ze (vi 2) (zq code) (vi a) (vu s)):=
 jwf hb 1 1 1 (by decide) (by decide) (λa s h0 h1=>jla hb 1 (by decide) a s h0 h1) (by decide) a s h0 h1
theorem jlb (a s:Int) (h0:0<=a) (h1:a<=999997000):GD code 7 13 a (Ze (vi 3) (zq code) (vi a) (vu s)):=by
 obtain ⟨a1,s1,b1,q1,q2,e1⟩:=KW hb 3 (by decide) (by decide) a s h0 (by omega);have hle:¬(3:Int)<=1:=by decide
 cases b1 with
 | true=>
  obtain ⟨a2,s2,w,hw,r1,r2,e⟩:=jiZ hb a1 s1 (by omega) (by omega);refine ⟨a2,s2,.mk w [],by omega,by omega,hw.le (by omega),?_⟩;rw [jbD];simp only [jd,hle,e1,e,jM,j4,Jo];rfl
 | false=>
  obtain ⟨a2,s2,b2,r1,r2,e2⟩:=KW hb 2 (by decide) (by decide) a1 s1 (by omega) (by omega);have c1:ck ((3:Int) - 1)=some (vi 2):=jE (n:=3 - 1) (by decide) (by decide);obtain ⟨a3,s3,t3,u1,u2,u3,e3⟩:=Yw hb a2 s2 (by omega) (by omega);cases b2 with
  | true=>
   refine ⟨a3,s3,.mk [102] [t3],by omega,by omega,GT.app (by decide) (by decide) (by simp) (λu hu=> ?_) ?_,?_⟩
   ·simp only [ku] at hu;subst hu;exact ⟨u3.1,u3.2.2⟩
   ·have:=u3.2.1;simp only [jr];omega
   rw [jbD];simp only [jd,hle,e1,e2,c1,e3,jM,j4,Jo];rw [<-jEd];rfl
  | false=>
   obtain ⟨a4,s4,t4,v1,v2,v3,e4⟩:=Yw hb a3 s3 (by omega) (by omega);refine ⟨a4,s4,.mk [103] [t3,t4],by omega,by omega,GT.app (by decide) (by decide) (by simp) (λu hu=> ?_) ?_,?_⟩
   ·simp only [jZ,qK,Jb] at hu;rcases hu with rfl|rfl
    ·exact ⟨u3.1,u3.2.2⟩
    ·exact ⟨v3.1,v3.2.2⟩
   ·have:=u3.2.1;have:=v3.2.1;simp only [jr];omega
   rw [jbD];simp only [jd,hle,e1,e2,c1,e3,e4,jM,j4,Jo];rw [<-jro];rfl
end
theorem juv {u v:T} (hu:GT 7 u) (hv:GT 7 v):R3 S3 (.mk [61] [u,v]):=by
 have h1:=(hu.valid (by decide)).2;have h2:=(hv.valid (by decide)).2;exact ⟨rfl,rfl,by unfold Tz;rw [Kd];simp only [zk,yw,Jd];omega,⟨hu.1,hu.2.2⟩,hv.1,hv.2.2⟩
def ED (code:List Int) (q:Nat) (a:Int) (o:Option Out):Prop:=∃a' s' r,a<=a'/\a'<=a+(q:Nat)/\R3 S3 r/\(tsz r<=400/\nodes r<=15)/\o=some (.top,[zq code,vi a',vu s',tm r])
theorem juw {u v:T} (hu:GT 7 u) (hv:GT 7 v):tsz (.mk [61] [u,v])<=400/\nodes (.mk [61] [u,v])<=15:=by
 have h1:=(hu.valid (by decide)).2;have h2:=(hv.valid (by decide)).2;have h3:=hu.2.1;have h4:=hv.2.1;refine ⟨by rw [Kd];simp only [zk,yw,Jd];omega,?_⟩;rw [jT];show 1+jr [u,v]<=15;simp only [jr];omega
theorem joi (u v:T):tm (.mk [61] [u,v]) = .agg [sv [61],.sl 2 [[sv u.name,jH u.args],[sv v.name,jH v.args]]]:=by
 show A.agg [sv [61],jH [u,v]]=_;rw [jro]
section
variable {code:List Int} (hb:By code)
include hb
theorem jsI (a s:Int) (h0:0<=a) (h1:a<=999990000):ED code 30 a (jxK (zq code) (vi a) (vu s)):=by
 obtain ⟨a1,s1,t,q1,q2,q3,e1⟩:=jlb hb a s h0 (by omega);obtain ⟨a2,s2,u,r1,r2,r3,e2⟩:=Yw hb a1 s1 (by omega) (by omega);obtain ⟨a3,s3,b,u1,u2,e3⟩:=KW hb 3 (by decide) (by decide) a2 s2 (by omega) (by omega);obtain ⟨t1,t2⟩:=q3.valid (by decide);have fin:∀(v:T),GT 7 v-> ∃x:Int,G 98 [.agg [sv t.name,jH t.args],.agg [sv v.name,jH v.args]]=some (vi x,[]):=by
  intro v hv;obtain ⟨v1,v2⟩:=hv.valid (by decide);have z1:Tz t:=by unfold Tz;omega
  have z2:Tz v:=by unfold Tz;omega
  obtain ⟨x,e,_⟩:=jjl t v z1.wf z2.wf z1 z2 t1 v1;exact ⟨x,e⟩
 rw [jH5];cases b with
 | true=>
  obtain ⟨a4,s4,w,hw,v1,v2,e4⟩:=jqn hb [[97],[98],[88],[89]] (by decide) (by decide) a3 s3 (by omega) (by omega);have e4:ZJ (zq code) (vi a3) (vu s3) [[sv [97]],[sv [98]],[sv [88]],[sv [89]]]=some (.top,[zq code,vi a4,vu s4,sv w]):=e4;have hG:GT 1 (.mk w []):=by
   refine GT.leaf ?_;simp only [jZ,qK,Jb] at hw ⊢;rcases hw with h|h|h|h<;>simp [h]
  have hG:=hG.le (N:=7) (by decide);obtain ⟨x,e5⟩:=fin _ hG;have e5:G 98 [.agg [sv t.name,jH t.args],.agg [sv w,.sl 2 []]]=some (vi x,[]):=e5;by_cases hx:x=3
  ·refine ⟨a4,s4,.mk [61] [.mk w [],t],by omega,by omega,juv hG q3,juw hG q3,?_⟩;rw [joi];simp only [jd,e1,e2,e3,e4,e5,hx,jM,j4,Jo];rfl
  ·refine ⟨a4,s4,.mk [61] [t,.mk w []],by omega,by omega,juv q3 hG,juw q3 hG,?_⟩;rw [joi];simp only [jd,e1,e2,e3,e4,e5,hx,jM,j4,Jo];rfl
 | false=>
  have hG:=r3.le (N:=7) (by decide);obtain ⟨x,e5⟩:=fin _ hG;by_cases hx:x=3
  ·refine ⟨a3,s3,.mk [61] [u,t],by omega,by omega,juv hG q3,juw hG q3,?_⟩;rw [joi];simp only [jd,e1,e2,e3,e5,hx,jM,j4,Jo]
  ·refine ⟨a3,s3,.mk [61] [t,u],by omega,by omega,juv q3 hG,juw q3 hG,?_⟩;rw [joi];simp only [jd,e1,e2,e3,e5,hx,jM,j4,Jo]
end
def RT:T:= .mk [61] [.mk [102] [.mk [88] []],.mk [88] []]
def LD (code:List Int) (q:Nat) (a:Int) (o:Option Out):Prop:=∃a' s' rs,a<=a'/\a'<=a+(q:Nat)/\rs.length<=14/\(∀r∈rs,R3 S3 r/\tsz r<=400)/\o=some (.top,[zq code,vi a',vu s',jH rs])
section
variable {code:List Int} (hb:By code)
include hb
end
theorem jDm (a x0 x1 x2 x3 x4:A) (us:List T) (l:List A):hR 2 (a,x0::x1::x2::x3::x4::jH us::l) 5=some (us.map jo):=by simp [hR,jH]
def AD (code:List Int) (q:Nat) (a:Int) (o:Option Out):Prop:=∃a' s' t,a<=a'/\a'<=a+(q:Nat)/\(Bx t/\nodes t<=15/\nmT t=true)/\o=some (.top,[zq code,vi a',vu s',sv (T.name t),jH (T.args t)])
def LV (l:Lt):Prop:=Bx l.2/\nodes l.2<=15/\nmT l.2=true
def LtD (code:List Int) (q:Nat) (a:Int) (o:Option Out):Prop:=∃a' s' l,a<=a'/\a'<=a+(q:Nat)/\LV l/\o=some (.top,[zq code,vi a',vu s',vb (Prod.fst l),sv (T.name (Prod.snd l)),jH (T.args (Prod.snd l))])
theorem GT.two {n:List UInt8} (hn:n = [61]\/y5 n=true) {u v:T} (hu:GT 7 u) (hv:GT 7 v):Bx (.mk n [u,v])/\nodes (.mk n [u,v])<=15/\nmT (.mk n [u,v])=true:=by
 have h1:=hu.2.1;have h2:=hv.2.1;have hk:∀x ∈ [u,v],zS x=true:=λx hx=>by
  simp only [jZ,qK,Jb] at hx;rcases hx with rfl|rfl
  ·exact hu.1
  ·exact hv.1
 have hnm:Q9 n=true:=by
  rcases hn with rfl|hn
  ·decide
  ·unfold Q9;rw [jd1 hn];rfl
 refine ⟨?_,by rw [jT];show 1+jr [u,v]<=15;simp only [jr];omega,nm2 hnm hu.nm hv.nm⟩
 rcases hn with hn|hn
 ·exact Or.inl ⟨hn,rfl,hk⟩
 ·refine Or.inr ⟨hn,?_⟩;have hn':jp n=false:=jd1 hn;rw [yp];show (if jp n then _ else y5 n && (decide ([u,v].length<=4) && jc9 [u,v]))=true;rw [hn',jf j7,hn,qU,qn.2 hk];rfl
theorem GT.one {n:List UInt8} (hn:y5 n=true) {u:T} (hu:GT 7 u):Bx (.mk n [u])/\nodes (.mk n [u])<=15/\nmT (.mk n [u])=true:=by
 have h1:=hu.2.1;have hk:∀x ∈ [u],zS x=true:=λx hx=>by
  simp only [jZ,qK,Jb] at hx;rw [hx];exact hu.1
 refine ⟨Or.inr ⟨hn,?_⟩,by rw [jT];show 1+jr [u]<=15;simp only [jr];omega,nm1 (by unfold Q9;rw [jd1 hn];rfl) hu.nm⟩
 have hn':jp n=false:=jd1 hn;rw [yp];show (if jp n then _ else y5 n && (decide ([u].length<=4) && jc9 [u]))=true;rw [hn',jf j7,hn,qU,qn.2 hk];rfl
theorem LV.tsz {l:Lt} (h:LV l):tsz l.2<=150:=by have:=h.1.tsz;have:=h.2;omega
theorem LV.tz {l:Lt} (h:LV l):Tz l.2:=by have:=h.tsz;unfold Tz;omega
section
variable {code:List Int} (hb:By code)
include hb
theorem jrn (a s:Int) (h0:0<=a) (h1:a<=999996000):GD code 7 14 a (jbn (zq code) (vi a) (vu s)):=by
 obtain ⟨a1,s1,x,q1,q2,x0,x1,e1⟩:=zX hb 3 (by decide) (by decide) a s h0 (by omega);have c1:ck (1+x)=some (vi (1+x)):=jE (by omega) (by omega);have key:GD code 7 13 a1 (Ze (vi (1+x)) (zq code) (vi a1) (vu s1)):=by
  by_cases y0:x=0
  ·subst y0;obtain ⟨a2,s2,t,r1,r2,r3,e⟩:=jla hb (1+0) (by decide) a1 s1 (by omega) (by omega);exact ⟨a2,s2,t,r1,by omega,r3.le (by decide),e⟩
  by_cases y1:x=1
  ·subst y1;obtain ⟨a2,s2,t,r1,r2,r3,e⟩:=Yw hb a1 s1 (by omega) (by omega);exact ⟨a2,s2,t,r1,by omega,r3.le (by decide),e⟩
  ·have:x=2:=by omega
   subst this;exact jlb hb a1 s1 (by omega) (by omega)
 obtain ⟨a2,s2,t,r1,r2,r3,e2⟩:=key;refine ⟨a2,s2,t,by omega,by omega,r3,?_⟩;rw [jEz];simp only [jd,e1,c1,e2,jM,j4,Jo]
theorem jx2 (a s:Int) (h0:0<=a) (h1:a<=999990000):AD code 40 a (jrY (zq code) (vi a) (vu s)):=by
 obtain ⟨a1,s1,x,q1,q2,x0,x1,e1⟩:=zX hb 8 (by decide) (by decide) a s h0 (by omega);obtain ⟨a2,s2,t2,r1,r2,r3,e2⟩:=jrn hb a1 s1 (by omega) (by omega);obtain ⟨a3,s3,t3,u1,u2,u3,e3⟩:=jrn hb a2 s2 (by omega) (by omega);obtain ⟨a4,s4,t4,v1,v2,v3,e4⟩:=Yw hb a1 s1 (by omega) (by omega);obtain ⟨a5,s5,t5,w1,w2,w3,e5⟩:=Yw hb a4 s4 (by omega) (by omega);have v3:=v3.le (N:=7) (by decide);have w3:=w3.le (N:=7) (by decide);rw [jFS];by_cases y0:x=0
 ·subst y0;refine ⟨a3,s3,.mk [61] [t2,t3],by omega,by omega,GT.two (Or.inl rfl) r3 u3,?_⟩;simp only [jd,e1,e2,e3,jM,j4,Jo];rw [<-jro];rfl
 by_cases y1:x=1
 ·subst y1;refine ⟨a3,s3,.mk [61] [t2,t3],by omega,by omega,GT.two (Or.inl rfl) r3 u3,?_⟩;simp only [jd,e1,e2,e3,jM,j4,Jo];rw [<-jro];rfl
 by_cases y2:x=2
 ·subst y2;refine ⟨a1,s1,.mk [114] [],by omega,by omega,⟨Or.inr ⟨by decide,by decide⟩,by decide,by decide⟩,?_⟩;simp only [jd,e1,jM,j4,Jo];rfl
 by_cases y3:x=3
 ·subst y3;refine ⟨a5,s5,.mk [113] [t4,t5],by omega,by omega,GT.two (Or.inr (by decide)) v3 w3,?_⟩;simp only [jd,e1,e4,e5,jM,j4,Jo];rw [<-jro];rfl
 by_cases y4:x=4
 ·subst y4;refine ⟨a5,s5,.mk [113] [t4,t5],by omega,by omega,GT.two (Or.inr (by decide)) v3 w3,?_⟩;simp only [jd,e1,e4,e5,jM,j4,Jo];rw [<-jro];rfl
 ·refine ⟨a4,s4,.mk [112] [t4],by omega,by omega,GT.one (by decide) v3,?_⟩;simp only [jd,e1,y0,y1,y2,y3,y4,e4,jM,j4,Jo];rw [<-jEd];rfl
theorem ji0 (a s:Int) (h0:0<=a) (h1:a<=999980000):LtD code 41 a (jt4 (zq code) (vi a) (vu s)):=by
 obtain ⟨a1,s1,b,q1,q2,e1⟩:=KW hb 2 (by decide) (by decide) a s h0 (by omega);obtain ⟨a2,s2,t,r1,r2,r3,e2⟩:=jx2 hb a1 s1 (by omega) (by omega);refine ⟨a2,s2,(b,t),by omega,by omega,r3,?_⟩;rw [jIa];simp only [jd,e1,e2,jM,j4,Jo]
end
theorem jcL (ls:List Lt) (l:Lt):jW (ls.map jG) [jG l]=(ls++[l]).map jG:=by rw [zy];rfl
def LsD (code:List Int) (m q:Nat) (a:Int) (o:Option Out):Prop:=∃a' s' ls,a<=a'/\a'<=a+(q:Nat)/\List.length ls<=m/\(∀l∈ls,LV l)/\o=some (.top,[zq code,vi a',vu s',.sl 3 (List.map jG ls)])
section
variable {code:List Int} (hb:By code)
include hb
theorem jwt:∀(k:Nat) (ls:List Lt),ls.length+k<=10->(∀l∈ls,LV l)-> ∀a s:Int,0<=a->a<=999970000 - 41 * (k:Nat)->LsD code (ls.length+k+1) (41 * k+2) a (jcK (vi (k:Nat)) (zq code) (vi a) (vu s) (ls.map jG)):=by
 intro k;induction k with
 | zero=>
  intro ls hl hls a s h0 h1;have hgt:¬(0:Int) < ((0:Nat):Int):=by decide
  by_cases hp:0 < ls.length
  ·have hp':(0:Int) < ((ls.length:Nat):Int):=by omega
   obtain ⟨a1,s1,b,q1,q2,e1⟩:=KW hb 8 (by decide) (by decide) a s h0 (by omega);cases b with
   | false=>
    refine ⟨a1,s1,ls,q1,by omega,by omega,hls,?_⟩;rw [jhA];simp only [jd,hgt,hp',e1,jM,j4]
   | true=>
    obtain ⟨a2,s2,x,r1,r2,x0,x1,e2⟩:=zX hb ((ls.length:Nat):Int) (by omega) (by omega) a1 s1 (by omega) (by omega);obtain ⟨i,rfl⟩:∃i:Nat,x=(i:Nat):=⟨x.toNat,by omega⟩;have hi:i < ls.length:=by omega
    have i1:Zf ls.length (vi ((i:Nat):Int))=some i:=zz hi;have i2:=je9 hi;have hv:=hls _ (jC hi);generalize ls[i]=y at i2 hv;have o1:=Z5 y.2 (by have:=hv.tsz;omega);have o1:G 67 [.agg [sv y.2.name,jH y.2.args]]=some (.agg [sv y.2.name,jH y.2.args],[]):=o1;have f1:jA (ls.length+1) 48=true:=ZS (by omega);refine ⟨a2,s2,ls++[(!y.1,y.2)],by omega,by omega,by rw [zh,qm];omega,λl h=> ?_,?_⟩
    ·rcases kZ.1 h with h|h
     ·exact hls l h
     ·rw [ku.1 h];exact hv
    rw [<-jcL];rw [jhA];have i2:qc (ls.map jG) i 0 3=some (.agg [vb y.1,sv y.2.name,jH y.2.args]):=i2;have rl:jm (ls.map jG)=ls.length:=by unfold jm;exact kj ..
    simp only [jd,hgt,hp',e1,e2,i1,i2,o1,jM,j4];generalize hB:kX _ _ _=B;have hB':B=some (.agg [vb (!y.1),sv y.2.name,jH y.2.args]):=by rw [<-hB];kernel_rfl
    rw [hB'];simp only [jd,f1]
  ·have hp':¬(0:Int) < ((ls.length:Nat):Int):=by omega
   refine ⟨a,s,ls,by omega,by omega,by omega,hls,?_⟩;rw [jhA];simp only [jd,hgt,hp',jM,j4]
 | succ k ih=>
  intro ls hl hls a s h0 h1;have hgt:(0:Int) < ((k+1:Nat):Int):=by omega
  have c1:ck (((k+1:Nat):Int) - 1)=some (vi (k:Nat)):=by rw [show ((k+1:Nat):Int) - 1=(k:Nat) by omega];exact jE (by omega) (by omega)
  obtain ⟨a1,s1,l,q1,q2,hv,e1⟩:=ji0 hb a s h0 (by omega);have f1:jA (ls.length+1) 48=true:=ZS (by omega);obtain ⟨a2,s2,us,r1,r2,r3,r4,e2⟩:=ih (ls++[l]) (by rw [zh,qm];omega) (λy h=>by
   rcases kZ.1 h with h|h
   ·exact hls y h
   ·rw [ku.1 h];exact hv) a1 s1 (by omega) (by omega)
  rw [<-jcL] at e2;rw [zh,qm] at r3;refine ⟨a2,s2,us,by omega,by omega,by omega,r4,?_⟩;rw [jhA];have e2:jcK (vi (k:Nat)) (zq code) (vi a1) (vu s1) (jW (ls.map jG) [[vb l.1,sv l.2.name,jH l.2.args]])=_:=e2;simp only [jd,hgt,e1,f1,c1,e2,jM,j4,jDm]
theorem jgP (m:Nat) (hm:m<=9) (a s:Int) (h0:0<=a) (h1:a<=999960000):LsD code (m+1) 500 a (jkK (vi (m:Nat)) (zq code) (vi a) (vu s)):=by
 have c1:ck (((m:Nat):Int)+1)=some (vi ((m:Nat)+1)):=jE (by omega) (by omega);obtain ⟨a1,s1,x,q1,q2,x0,x1,e1⟩:=zX hb (((m:Nat):Int)+1) (by omega) (by omega) a s h0 (by omega);obtain ⟨k,rfl⟩:∃k:Nat,x=(k:Nat):=⟨x.toNat,by omega⟩;obtain ⟨a2,s2,ls,r1,r2,r3,r4,e2⟩:=jwt hb k [] (by rw [yw];omega) (λl h=>by cases h) a1 s1 (by omega) (by omega);rw [yw] at r3;refine ⟨a2,s2,ls,by omega,by omega,by omega,r4,?_⟩;have e2:jcK (vi (k:Nat)) (zq code) (vi a1) (vu s1) []=_:=e2;rw [jH9];simp only [jd,c1,e1,e2,jM,j4]
end
theorem jnI (l:List Lt) (hl:l.length<=1000) (hz:∀x∈l,Tz x.2) (i:Nat) (hi:i < l.length) (u:List Lt) (hu:u.length<=1000) (hzu:∀x∈u,Tz x.2):∀k,k<=u.length->(∀j,(h:j < k)-> ∀h':j < u.length,cmpL u[j] l[i] < 0)->
  jhs (vi (i:Nat)) (vi (k:Nat)) (l.map jG) (u.map jG) []=jcJ (vi ((i+1:Nat):Int)) (l.map jG) ((Z2 cmpL u l[i]).map jG) []:=by
 have xi:Zf l.length (vi (i:Nat))=some i:=zz hi;have ri:=je9 hi;have rp:J5 (l.map jG) i 0=some (vb l[i].1):=by unfold J5;simp [hi,jG]
 have rn:qc (l.map jG) i 1 2=some (tm l[i].2):=by unfold qc;simp [hi,jG]
 have e2:=Z5 l[i].2 (hz _ (jC _));have hck:ck ((i:Int)+1)=some (vi ((i+1:Nat):Int)):=jE (by omega) (by omega);refine upto ?_ ?_
 ·intro hall;obtain ⟨t1,t2⟩:=jvG (p:=λa=>decide (cmpL a l[i] < 0)) (kz u.length) (λj h h'=>jQ (hall j h h')) (Or.inr rfl);obtain ⟨k1,k2,k3,k4,k5,k6,k7,k8,k9⟩:=jhy u (by omega) u.length (kz _) l[i];have hins:Z2 cmpL u l[i]=u.take u.length++l[i]::u.drop u.length:=by
   unfold Z2;rw [t1,t2,kg,jf (by simp)]
  have nlt:¬((u.length:Nat):Int) < ((u.length:Nat):Int):=by omega
  rw [hins,ju7];simp only [jd,nlt,xi,ri,rp,rn,e2];generalize hB:kX _ _ _=B;have hB':B=some (ltm l[i]):=by rw [<-hB];kernel_rfl
  rw [hB'];simp only [jd,k1,k2,k4,k5];rw [jg k3,jg k7,k6,jg k8,hck,yy,k9]
 ·intro k hk ih hall;have hlt:((k:Nat):Int) < ((u.length:Nat):Int):=by omega
  have x1:Zf u.length (vi (k:Nat))=some k:=zz hk;have r1:=je9 hk;have e1:=QG u[k] l[i] (hzu _ (jC _)) (hz _ (jC _));rw [ju7];by_cases hc:cmpL u[k] l[i] < 0
  ·have ih:=ih λj h h'=>by
    by_cases hj:j=k
    ·subst hj;exact hc
    ·exact hall j (by omega) h'
   have hk1:ck ((k:Int)+1)=some (vi ((k+1:Nat):Int)):=jE (by omega) (by omega);generalize cmpL u[k] l[i]=d at *;simp only [jd,hlt,x1,r1,xi,ri,e1,hc,hk1];exact ih
  ·obtain ⟨t1,t2⟩:=jvG (p:=λa=>decide (cmpL a l[i] < 0)) (Qc hk) (λj h h'=>jQ (hall j h h')) (Or.inl ⟨hk,kA hc⟩);have hins:Z2 cmpL u l[i]=if cmpL u[k] l[i]=0 then u else u.take k++l[i]::u.drop k:=by
    unfold Z2;rw [t1,t2,ji hk];by_cases h0:cmpL u[k] l[i]=0
    ·rw [jg h0];exact jg (jQ h0)
    ·rw [jf h0];exact jf (λe=>h0 (jg9 e))
   rw [hins];by_cases h0:cmpL u[k] l[i]=0
   ·rw [jg h0];rw [h0] at e1;simp only [jd,hlt,x1,r1,xi,ri,e1,hck]
   ·obtain ⟨k1,k2,k3,k4,k5,k6,k7,k8,k9⟩:=jhy u (by omega) k (Qc hk) l[i];rw [jf h0];generalize cmpL u[k] l[i]=d at *;simp only [jd,hlt,x1,r1,xi,ri,e1,hc,h0,rp,rn,e2];generalize hB:kX _ _ _=B;have hB':B=some (ltm l[i]):=by rw [<-hB];kernel_rfl
    rw [hB'];simp only [jd,k1,k2,k4,k5];rw [jg k3,jg k7,k6,jg k8,hck,yy,k9]
theorem js6 (l:List Lt) (hl:l.length<=900) (hz:∀x∈l,Tz x.2):jxJ (l.map jG)=some (.top,[.sl 3 ((yL cmpL l).map jG)]):=by
 have key:=upto (P:=λi=>∀u:List Lt,Asc cmpL u->u.length<=i->(∀x∈u,Tz x.2)->jcJ (vi (i:Nat)) (l.map jG) (u.map jG) []=some (.top,[.sl 3 (((l.drop i).foldl (Z2 cmpL) u).map jG)])) (n:=l.length) ?_ ?_ 0 (ko _) [] List.Pairwise.nil (kz _) (λx h=>by cases h)
 ·rw [kD] at key;simp only [kU,ql] at key;rw [jH4,key];rfl
 ·intro u _ _ _;have nlt:¬((l.length:Nat):Int) < ((l.length:Nat):Int):=by omega
  rw [ju6,kg];simp only [jd,nlt];rfl
 ·intro i hi ih u ha hu hzu;have hlt:(i:Int) < ((l.length:Nat):Int):=by omega
  have:=jnI l (by omega) hz i hi u (by omega) hzu 0 (ko _) (λj h=>absurd h (Nat.not_lt_zero _));simp only [kU] at this;have h2:=ih (Z2 cmpL u l[i]) (jeR JG ha l[i]).1 (by have:=jiD cmpL u l[i];omega) λx hx=>by
   rcases (jpF ha l[i]).1 hx with h|h
   ·exact hzu x h
   ·rw [h];exact hz _ (jC _)
  rw [ju6,ji hi,Km];simp only [jd,hlt,this,h2]
def Cq (c:kh):Prop:=c.length<=12/\ ∀l∈c,tsz l.2<=1000
theorem Cq.cz {c:kh} (h:Cq c):Cz c:=⟨by have:=h.1;omega,λl hl=>by have:=h.2 l hl;unfold Tz;omega⟩
theorem jGh {c:kh} (h:CN c):∀l∈c,tsz l.2<=300:=λl hl=>by have:=(h.2 l hl).1.tsz;have:=(h.2 l hl).2;omega
theorem CN.cq {c:kh} (h:CN c):Cq c:=⟨by have:=h.1;omega,λl hl=>by have:=jGh h l hl;omega⟩
def RwD (code:List Int) (q:Nat) (a:Int) (o:Option Out):Prop:=∃a' s' c,a<=a'/\a'<=a+(q:Nat)/\(List.length c<=5/\Asc cmpL c/\ ∀l∈c,LV l)/\o=some (.top,[zq code,vi a',vu s',.sl 3 (List.map jG c)])
def CqD (code:List Int) (q:Nat) (a:Int) (o:Option Out):Prop:=∃a' s' c,a<=a'/\a'<=a+(q:Nat)/\Cq c/\o=some (.top,[zq code,vi a',vu s',cm c])
def CqN (code:List Int) (q:Nat) (a:Int) (o:Option Out):Prop:=∃a' s' c,a<=a'/\a'<=a+(q:Nat)/\(List.length c<=12/\ ∀l∈c,tsz (Prod.snd l)<=1000/\nmT (Prod.snd l)=true)/\o=some (.top,[zq code,vi a',vu s',cm c])
theorem CqN.cq {code:List Int} {q:Nat} {a:Int} {o:Option Out} (h:CqN code q a o):CqD code q a o:=by
 obtain ⟨a',s',c,h1,h2,h3,h4⟩:=h;exact ⟨a',s',c,h1,h2,⟨h3.1,λl hl=>(h3.2 l hl).1⟩,h4⟩
def CnD (code:List Int) (q:Nat) (a:Int) (o:Option Out):Prop:=∃a' s' c,a<=a'/\a'<=a+(q:Nat)/\CN c/\o=some (.top,[zq code,vi a',vu s',cm c])
theorem jIJ {c:kh} (h1:c.length<=5) (h2:∀l∈c,LV l):CN c:=⟨by omega,λl hl=>⟨(h2 l hl).1,by have:=(h2 l hl).2;omega⟩⟩
theorem jbN (a x0 x1 x2:A) (xs:List (List A)) (l:List A):hR 3 (a,x0::x1::x2:: .sl 3 xs::l) 3=some xs:=by simp [hR]
theorem jfV {c:kh} (h:CN c) (ha:Asc cmpL c):∃b:Bool,G 63 [cm c]=some (.tup [cm (normC c),vb b],[])/\CN (normC c):=⟨_,jgN c h ha,h.normC⟩
section
variable {code:List Int} (hb:By code)
include hb
theorem jip (a s:Int) (h0:0<=a) (h1:a<=999950000):RwD code 500 a (jt1 (zq code) (vi a) (vu s)):=by
 obtain ⟨a1,s1,ls,q1,q2,hl,hv,e1⟩:=jgP hb 4 (by decide) a s h0 (by omega);have e1:jkK (vi 4) (zq code) (vi a) (vu s)=_:=e1;have e2:=js6 ls (by omega) (λx hx=>(hv x hx).tz);have hm:=Q6 cmpL ls;refine ⟨a1,s1,yL cmpL ls,q1,q2,⟨by omega,(Q5 JG ls).1,λl h=>hv l (Yx.1 h)⟩,?_⟩;rw [jH0];simp only [jd,e1,jbN,e2,jM,j4]
theorem jaL (a s:Int) (h0:0<=a) (h1:a<=999950000):CnD code 500 a (joJ (zq code) (vi a) (vu s)):=by
 obtain ⟨a1,s1,c,q1,q2,⟨hl,ha,hv⟩,e1⟩:=jip hb a s h0 h1;obtain ⟨b,e2,hcn⟩:=jfV (jIJ hl hv) ha;refine ⟨a1,s1,normC c,q1,q2,hcn,?_⟩;rw [jHZ];simp only [jd,e1,jbN,e2,jM,j4]
theorem jik (a s:Int) (h0:0<=a) (h1:a<=999950000):∃a' s' l,a<=a'/\a'<=a+1300/\(tsz (Prod.snd l)<=1000/\nmT (Prod.snd l)=true)/\jt2 (zq code) (vi a) (vu s)=some (.top,[zq code,vi a',vu s',ltm l]):=by
 obtain ⟨a1,s1,l,q1,q2,hv,e1⟩:=ji0 hb a s h0 (by omega);obtain ⟨a2,s2,x,r1,r2,x0,x1,e2⟩:=zX hb 16 (by decide) (by decide) a1 s1 (by omega) (by omega);have hz:=hv.tsz;rw [jH1];by_cases y0:x=0
 ·subst y0;obtain ⟨a3,s3,t3,u1,u2,u3,e3⟩:=jsu hb a2 s2 (by omega) (by omega);refine ⟨a3,s3,(l.1,t3),by omega,by omega,u3,?_⟩;simp only [jd,e1,e2,e3,jM,j4,jDm]
 by_cases y1:x=1
 ·subst y1;obtain ⟨a3,s3,t3,u1,u2,u3,e3⟩:=jc0 hb a2 s2 (by omega) (by omega);have hargs:l.2.args.length<=1000:=by have:=kH l.2;omega
  have hf:jA (l.2.args.length+1) 40=true:=jjp (by omega);have hsz:∀us:List T,Jd (us++[t3])=Jd us+tsz t3:=by
   intro us;induction us with
   | nil=>simp [Jd]
   | cons u us ih=>simp only [K5,Jd];omega
  have hq:=kH l.2;refine ⟨a3,s3,(l.1,.mk l.2.name (l.2.args++[t3])),by omega,by omega,⟨by show tsz (.mk _ _)<=1000;rw [Kd,hsz,zh,qm];omega,jqk (nmN hv.2.2) (by rw [jje,nmA hv.2.2,Qi,u3.2];rfl)⟩,?_⟩;simp only [jd,e1,e2,e3,hf,kj,jM,j4,jDm,Jo];show _=some (A.top,[zq code,vi a3,vu s3,A.agg [vb l.1,sv l.2.name,.sl 2 ((l.2.args++[t3]).map jo)]]);rw [zy,zf,kG t3];rfl
 ·refine ⟨a2,s2,l,by omega,by omega,⟨by omega,hv.2.2⟩,?_⟩;simp only [jd,e1,e2,y0,y1,jM,j4,jDm]
theorem js8:∀(k i:Nat),i+k=9-> ∀(c:kh),c.length=i->(∀l∈c,tsz l.2<=1000/\nmT l.2=true)-> ∀a s:Int,0<=a->a<=999980000 - 10 * (k:Nat)->CqN code (2 * k+2) a (jcH (vi (i:Nat)) (zq code) (vi a) (vu s) (c.map jG) []):=by
 intro k;induction k with
 | zero=>
  intro i hi c hc hz a s h0 h1;obtain ⟨a1,s1,x,q1,q2,x0,x1,e1⟩:=zX hb 2 (by decide) (by decide) a s h0 (by omega);have c1:ck (8+x)=some (vi (8+x)):=jE (by omega) (by omega);have nlt:¬((i:Nat):Int) < 8+x:=by omega
  refine ⟨a1,s1,c,q1,by omega,⟨by omega,hz⟩,?_⟩;rw [jnB];simp only [jd,e1,c1,nlt,jM,j4]
 | succ k ih=>
  intro i hi c hc hz a s h0 h1;obtain ⟨a1,s1,x,q1,q2,x0,x1,e1⟩:=zX hb 2 (by decide) (by decide) a s h0 (by omega);have c1:ck (8+x)=some (vi (8+x)):=jE (by omega) (by omega);by_cases hlt:((i:Nat):Int) < 8+x
  ·have n1:=jiQ i (by omega);have hd:=(JW 6 i (by omega)).2;have a2:ju .add false (sv [112]) (sv (Lib.decDigits i))=some (sv ([112]++Lib.decDigits i)):=by rw [jaa,jg (by simp only [zk,yw];omega)]
   obtain ⟨a3,s3,w,hw,r1,r2,e3⟩:=jhB hb [[88],[89]] (by decide) (by decide) (by decide) a1 s1 (by omega) (by omega);have e3:ZJ (zq code) (vi a1) (vu s1) [[sv [88]],[sv [89]]]=some (.top,[zq code,vi a3,vu s3,sv w]):=e3;have f1:jA (c.length+1) 48=true:=ZS (by omega);have c5:ck ((i:Int)+1)=some (vi ((i+1:Nat):Int)):=jE (by omega) (by omega);obtain ⟨a4,s4,c',v1,v2,v3,e4⟩:=ih (i+1) (by omega) (c++[(true,.mk ([112]++Lib.decDigits i) [.mk w []])]) (by rw [zh,qm];omega) (λl h=>by
    rcases kZ.1 h with h|h
    ·exact hz l h
    ·rw [ku.1 h];refine ⟨?_,nm1 rfl (nm0 hw.2)⟩;show tsz (.mk _ _)<=1000;rw [Kd];simp only [zh,zk,yw,Jd,Kd];omega) a3 s3 (by omega) (by omega)
   refine ⟨a4,s4,c',by omega,by omega,v3,?_⟩;rw [<-jcL] at e4;have e4:jcH (vi ((i+1:Nat):Int)) (zq code) (vi a3) (vu s3) (jW (c.map jG) [[vb true,sv ([112]++Lib.decDigits i),.sl 2 [[sv w,.sl 2 []]]]]) []=_:=e4;rw [jnB];generalize [112]++Lib.decDigits i=nm at *;simp only [jd,e1,c1,hlt,n1,a2,e3,f1,c5,e4,jM,j4]
  ·refine ⟨a1,s1,c,q1,by omega,⟨by omega,hz⟩,?_⟩;rw [jnB];simp only [jd,e1,c1,hlt,jM,j4]
theorem jks (a s:Int) (h0:0<=a) (h1:a<=999940000):CqN code 2000 a (joH (zq code) (vi a) (vu s)):=by
 obtain ⟨a1,s1,c,q1,q2,⟨hl,ha,hv⟩,e1⟩:=jip hb a s h0 (by omega);obtain ⟨a2,s2,x,r1,r2,x0,x1,e2⟩:=zX hb 20 (by decide) (by decide) a1 s1 (by omega) (by omega);have hz:∀l∈c,tsz l.2<=1000/\nmT l.2=true:=λl h=>⟨by have:=(hv l h).tsz;omega,(hv l h).2.2⟩;have hq:List.length c<=12/\ ∀l∈c,tsz (Prod.snd l)<=1000/\nmT (Prod.snd l)=true:=⟨by omega,hz⟩;have f1:jA (c.length+1) 48=true:=ZS (by omega);rw [jHS];by_cases y0:x=0
 ·subst y0;obtain ⟨a3,s3,l,u1,u2,u3,e3⟩:=jik hb a2 s2 (by omega) (by omega);refine ⟨a3,s3,c++[l],by omega,by omega,⟨by rw [zh,qm];omega,λy h=>by
   rcases kZ.1 h with h|h
   ·exact hz y h
   ·rw [ku.1 h];exact u3⟩,?_⟩
  have e3:jt2 (zq code) (vi a2) (vu s2)=some (.top,[zq code,vi a3,vu s3,.agg [vb l.1,sv l.2.name,jH l.2.args]]):=e3;show _=some (A.top,[zq code,vi a3,vu s3,.agg [.sl 3 ((c++[l]).map jG)]]);rw [<-jcL];simp only [jd,e1,e2,e3,jbN,f1,jM,j4]
 by_cases y1:x=1
 ·subst y1;by_cases hg:(1:Int) < ((c.length:Nat):Int)
  ·obtain ⟨l0,l1,r,rfl⟩:∃l0 l1 r,c=l0::l1::r:=by
    match c,hg with
    | l0::l1::r,_=>exact ⟨l0,l1,r,rfl⟩
    | [],h=>simp at h
    | [x],h=>simp at h
   refine ⟨a2,s2,l1::l0::r,by omega,by omega,⟨by simp only [zk] at hl ⊢;omega,λy h=>hz y (by
    simp only [jZ] at h ⊢;rcases h with h|h|h
    ·exact Or.inr (Or.inl h)
    ·exact Or.inl h
    ·exact Or.inr (Or.inr h))⟩,?_⟩
   have i0:Zf ((l0::l1::r).map jG).length (vi 0)=some 0:=jAH (f:=jG) (xs:=l0::l1::r) (i:=0) (by simp);have i1:Zf ((l0::l1::r).map jG).length (vi 1)=some 1:=jAH (f:=jG) (xs:=l0::l1::r) (i:=1) (by simp);have j1:Zf ((l1::l1::r).map jG).length (vi 1)=some 1:=jAH (f:=jG) (xs:=l1::l1::r) (i:=1) (by simp);have r0:qc ((l0::l1::r).map jG) 0 0 3=some (.agg [vb l0.1,sv l0.2.name,jH l0.2.args]):=rfl;have r1:qc ((l0::l1::r).map jG) 1 0 3=some (.agg [vb l1.1,sv l1.2.name,jH l1.2.args]):=rfl;have g0:jac ((l0::l1::r).map jG) 0=some (jG l0):=rfl;have s0:qg ((l0::l1::r).map jG) 0 (yO (jG l0) 0 [vb l1.1,sv l1.2.name,jH l1.2.args])=(l1::l1::r).map jG:=rfl;have g1:jac ((l1::l1::r).map jG) 1=some (jG l1):=rfl;have s1':qg ((l1::l1::r).map jG) 1 (yO (jG l1) 0 [vb l0.1,sv l0.2.name,jH l0.2.args])=(l1::l0::r).map jG:=rfl;have hg:(1:Int) < ((((l0::l1::r).map jG).length:Nat):Int):=by rw [kj];exact hg
   have n0:ju .eql false (vi 1) (vi 0)=some (vb false):=rfl;show _=some (A.top,[zq code,vi a2,vu s2,.agg [.sl 3 ((l1::l0::r).map jG)]]);rw [<-s1'];generalize (l0::l1::r).map jG=X at *;generalize (l1::l1::r).map jG=Y at *;simp only [jd,e1,e2,y0,jbN,hg,i0,r0,i1,r1,g0,s0,j1,g1,jM,j4]
  ·refine ⟨a2,s2,c,by omega,by omega,hq,?_⟩;simp only [jd,e1,e2,y0,hg,jbN,jM,j4]
 by_cases y2:x=2
 ·subst y2;obtain ⟨a3,s3,c',u1,u2,u3,e3⟩:=js8 hb 9 0 (by decide) [] rfl (λl h=>by cases h) a2 s2 (by omega) (by omega);have e3:jcH (vi 0) (zq code) (vi a2) (vu s2) [] []=_:=e3;refine ⟨a3,s3,c',by omega,by omega,u3,?_⟩;simp only [jd,e1,e2,y0,y1,e3,jbN,jM,j4]
 by_cases y3:x=3
 ·subst y3;by_cases hg:(0:Int) < ((c.length:Nat):Int)
  ·have hi:c.length - 1 < c.length:=by omega
   have c1:ck (((c.length:Nat):Int) - 1)=some (vi ((c.length - 1:Nat):Int)):=by rw [show ((c.length:Nat):Int) - 1=((c.length - 1:Nat):Int) by omega];exact jE (by omega) (by omega)
   have i1:Zf c.length (vi ((c.length - 1:Nat):Int))=some (c.length - 1):=zz hi;have r1:=je9 hi;have hzl:=hz _ (jC hi);generalize c[c.length - 1]=l at r1 hzl;have r1:qc (c.map jG) (c.length - 1) 0 3=some (.agg [vb l.1,sv l.2.name,jH l.2.args]):=r1;refine ⟨a2,s2,c++[l],by omega,by omega,⟨by rw [zh,qm];omega,λy h=>by
    rcases kZ.1 h with h|h
    ·exact hz y h
    ·rw [ku.1 h];exact hzl⟩,?_⟩
   show _=some (A.top,[zq code,vi a2,vu s2,.agg [.sl 3 ((c++[l]).map jG)]]);rw [<-jcL];simp only [jd,e1,e2,y0,y1,y2,jbN,hg,c1,i1,r1,f1,jM,j4]
  ·refine ⟨a2,s2,c,by omega,by omega,hq,?_⟩;simp only [jd,e1,e2,y0,y1,y2,hg,jbN,jM,j4]
 ·refine ⟨a2,s2,c,by omega,by omega,hq,?_⟩;simp only [jd,e1,e2,y0,y1,y2,y3,jbN,jM,j4]
theorem jde (a s:Int) (h0:0<=a) (h1:a<=999940000):CqD code 2000 a (joH (zq code) (vi a) (vu s)):=(jks hb a s h0 h1).cq
theorem QB (a s:Int) (h0:0<=a) (h1:a<=999930000):CqD code 2001 a (jtZ (zq code) (vi a) (vu s)):=by
 obtain ⟨a1,s1,b,q1,q2,e1⟩:=KW hb 16 (by decide) (by decide) a s h0 (by omega);rw [jHR];cases b with
 | true=>
  obtain ⟨a2,s2,c,r1,r2,r3,e2⟩:=jde hb a1 s1 (by omega) (by omega);refine ⟨a2,s2,c,by omega,by omega,r3,?_⟩;simp only [jd,e1,e2,jM,j4]
 | false=>
  obtain ⟨a2,s2,c,r1,r2,r3,e2⟩:=jaL hb a1 s1 (by omega) (by omega);refine ⟨a2,s2,c,by omega,by omega,r3.cq,?_⟩;simp only [jd,e1,e2,jM,j4]
omit hb in
theorem made {ls:List Lt} (hl:ls.length<=20) (hz:∀l∈ls,tsz l.2<=1000) (p:Bool) {u:List (List UInt8 × T)} (hu:u.length<=4/\Sz 192 u) {t:T} (ht:tsz t<=1000):∃e:kh,
  G 99 [sb u,tm t]=some (tm (sub u t),[])/\G 64 [.sl 3 ((ls++[(p,sub u t)]).map jG)]=some (cm e,[])/\G 81 [cm e]=some (vb (y8 e),[])/\(y8 e=true-> ∃b:Bool,G 63 [cm e]=some (.tup [cm (normC e),vb b],[])/\CN (normC e)):=by
 have e1:=Ku u ⟨by omega,λq hq=>by have:=hu.2.2 q hq;omega⟩ t (by omega)
 have hsz:=jBt (u:=u) (Z:=192) (by decide) (λq hq=>(hu.2.2 q hq).2) t;have hz':∀l∈ls++[(p,sub u t)],Tz l.2:=λl h=>by
  rcases kZ.1 h with h|h
  ·have:=hz l h;unfold Tz;omega
  ·rw [ku.1 h];show tsz (sub u t)<=1048576;omega
 have e2:=Q4 (ls++[(p,sub u t)]) (by rw [zh,qm];omega) hz'
 have hm:=Q6 cmpL (ls++[(p,sub u t)]);rw [zh,qm] at hm;have e3:=Q3 (yL cmpL (ls++[(p,sub u t)])) (by omega) (λl h=>hz' l (Yx.1 h));exact ⟨_,e1,e2,e3,λhv=>jfV (qF hv).1 (qF hv).2.1⟩
theorem jqF (d:kh) (hd:Cq d) (a s:Int) (h0:0<=a) (h1:a<=999920000):CqD code 5000 a (jxL (cm d) (zq code) (vi a) (vu s)):=by
 have hd1:=hd.1;rw [jH6];by_cases hn:((d.length:Nat):Int)=0
 ·obtain ⟨a2,s2,c,r1,r2,r3,e2⟩:=QB hb a s h0 (by omega);refine ⟨a2,s2,c,by omega,by omega,r3,?_⟩;simp only [jd,hn,e2,jM,j4]
 obtain ⟨a1,s1,b,q1,q2,e1⟩:=KW hb 6 (by decide) (by decide) a s h0 (by omega);cases b with
 | true=>
  obtain ⟨a2,s2,c,r1,r2,r3,e2⟩:=QB hb a1 s1 (by omega) (by omega);refine ⟨a2,s2,c,by omega,by omega,r3,?_⟩;simp only [jd,hn,e1,e2,jM,j4]
 | false=>
  obtain ⟨a2,s2,x,r1,r2,x0,x1,e2⟩:=zX hb ((d.length:Nat):Int) (by omega) (by omega) a1 s1 (by omega) (by omega);obtain ⟨i,rfl⟩:∃i:Nat,x=(i:Nat):=⟨x.toNat,by omega⟩;have hi:i < d.length:=by omega
  have y1:jl 3 (.sl 3 (d.map jG)) (vi (i:Nat))=some (.elt (jG d[i]) 0):=ja hi;have hzl:=hd.2 _ (jC hi);generalize d[i]=l at y1 hzl;have ld3:ky 3 (.elt (jG l) 0)=some (.agg [vb l.1,sv l.2.name,jH l.2.args]):=rfl;obtain ⟨a3,s3,ls,u1,u2,u3,u4,e3⟩:=jgP hb 2 (by decide) a2 s2 (by omega) (by omega);have e3:jkK (vi 2) (zq code) (vi a2) (vu s2)=_:=e3;obtain ⟨a4,s4,u,v1,v2,v3,v4,e4⟩:=jhl hb a3 s3 (by omega) (by omega);obtain ⟨e,m1,m2,m3,m4⟩:=made (ls:=ls) (by omega) (λl h=>by have:=(u4 l h).tsz;omega) (!l.1) ⟨v3,v4⟩ hzl;have f1:jA (ls.length+1) 48=true:=ZS (by omega);rw [<-jcL] at m2;have m2:G 64 [.sl 3 (jW (ls.map jG) [[vb (!l.1),sv (sub u l.2).name,jH (sub u l.2).args]])]=some (cm e,[]):=m2;have bld:∀B,B=some (A.agg [vb (!l.1),sv (sub u l.2).name,jH (sub u l.2).args])->B=some (A.agg [vb (!l.1),sv (sub u l.2).name,jH (sub u l.2).args]):=λB h=>h;cases hv:y8 e with
  | false=>
   rw [hv] at m3;obtain ⟨a5,s5,c,w1,w2,w3,e5⟩:=jaL hb a4 s4 (by omega) (by omega);refine ⟨a5,s5,c,by omega,by omega,w3.cq,?_⟩;simp only [jd,hn,e1,e2,y1,ld3,e3,jbN,e4,m1,jM,j4];generalize hB:kX _ _ _=B;have hB':B=some (.agg [vb (!l.1),sv (sub u l.2).name,jH (sub u l.2).args]):=by rw [<-hB];kernel_rfl
   rw [hB'];simp only [jd,f1,m2,m3,e5,jM,j4]
  | true=>
   rw [hv] at m3;obtain ⟨b,m4,hcn⟩:=m4 hv;refine ⟨a4,s4,normC e,by omega,by omega,hcn.cq,?_⟩;simp only [jd,hn,e1,e2,y1,ld3,e3,jbN,e4,m1,jM,j4];generalize hB:kX _ _ _=B;have hB':B=some (.agg [vb (!l.1),sv (sub u l.2).name,jH (sub u l.2).args]):=by rw [<-hB];kernel_rfl
   rw [hB'];simp only [jd,f1,m2,m3,m4,jM,j4]
end
theorem ja7 (a x0 x1 x2:A) (xs:List (List A)) (l:List A):hR 1 (a,x0::x1::x2:: .sl 1 xs::l) 3=some xs:=by simp [hR]
theorem jdk (a x0 x1 x2 x3:A) (xs:List (List A)) (l:List A):hR 4 (a,x0::x1::x2::x3:: .sl 4 xs::l) 4=some xs:=by simp [hR]
theorem jED (a x0 x1 x2 x3:A) (xs:List (List A)) (l:List A):hR 1 (a,x0::x1::x2::x3:: .sl 1 xs::l) 4=some xs:=by simp [hR]
theorem jEE (a x0 x1 x2 x3 x4:A) (xs:List (List A)) (l:List A):hR 4 (a,x0::x1::x2::x3::x4:: .sl 4 xs::l) 5=some xs:=by simp [hR]
theorem Q1 (a x0 x1:A) (xs:List (List A)) (l:List A):hR 1 (a,x0::x1:: .sl 1 xs::l) 2=some xs:=by simp [hR]
theorem jyP (a x0 x1 x2:A) (xs:List (List A)) (l:List A):hR 4 (a,x0::x1::x2:: .sl 4 xs::l) 3=some xs:=by simp [hR]
theorem jIz (a:A) (xs:List (List A)) (l:List A):hR 1 (a,.sl 1 xs::l) 0=some xs:=by simp [hR]
def AxD (code:List Int) (q:Nat) (a:Int) (o:Option Out):Prop:=∃a' s' l,a<=a'/\a'<=a+(q:Nat)/\(1<=List.length l/\List.length l<=5/\ ∀c∈l,Cq c)/\o=some (.top,[zq code,vi a',vu s',.sl 1 (List.map QD l)])
theorem jym {l:List kh} {c:kh} (h:∀x∈l,Cq x) (hc:Cq c):∀x∈l++[c],Cq x:=λx hx=>by
 rcases kZ.1 hx with hx|hx
 ·exact h x hx
 ·rw [ku.1 hx];exact hc
section
variable {code:List Int} (hb:By code)
include hb
theorem jo5:∀(k:Nat) (l:List kh),1<=l.length->l.length+k<=5->(∀c∈l,Cq c)-> ∀a s:Int,0<=a->a<=999900000 - 6000 * (k:Nat)->AxD code (6000 * k) a (jar (vi (k:Nat)) (zq code) (vi a) (vu s) (l.map QD)):=by
 intro k;induction k with
 | zero=>
  intro l h1 h2 h3 a s _ _;have hgt:¬(0:Int) < ((0:Nat):Int):=by decide
  refine ⟨a,s,l,by omega,by omega,⟨h1,by omega,h3⟩,?_⟩;rw [ju5];simp only [jd,hgt]
 | succ k ih=>
  intro l h1 h2 h3 a s ha hb';have hgt:(0:Int) < ((k+1:Nat):Int):=by omega
  have c1:ck (((k+1:Nat):Int) - 1)=some (vi (k:Nat)):=by rw [show ((k+1:Nat):Int) - 1=(k:Nat) by omega];exact jE (by omega) (by omega)
  obtain ⟨a1,s1,x,q1,q2,x0,x1,e1⟩:=zX hb 4 (by decide) (by decide) a s ha (by omega);have hf:jA (l.length+1) 24=true:=jFk (by omega);have rl:jm (l.map QD)=l.length:=by unfold jm;exact kj ..
  have more:∀(c:kh),Cq c-> ∀a2 s2:Int,0<=a2->a2<=999900000 - 6000 * (k:Nat)->AxD code (6000 * k) a2 (jar (vi (k:Nat)) (zq code) (vi a2) (vu s2) (jW (l.map QD) [[.sl 3 (c.map jG)]])):=λc hc a2 s2 g1 g2=>by
   rw [jxV];exact ih (l++[c]) (by rw [zh];omega) (by rw [zh,qm];omega) (jym h3 hc) a2 s2 g1 g2
  have same:=λa2 s2:Int=>ih l h1 (by omega) h3 a2 s2;rw [ju5];by_cases hx0:x=0
  ·have hx0:(x=0)=True:=yC hx0;obtain ⟨a2,s2,r,r1,r2,r3,⟨r4,r5⟩,e2⟩:=jsI hb a1 s1 (by omega) (by omega);have hB0:Bx r:=by
    refine Or.inl ⟨r3.1,r3.2.1,λu hu=> ?_⟩;rw [jBC r3.2.1] at hu;simp only [jZ,qK,Jb] at hu;rcases hu with rfl|rfl
    ·exact r3.2.2.2.1.1
    ·exact r3.2.2.2.2.1
   have hz:∀y ∈ [((true,r):Lt)],Tz y.2:=λy hy=>by rw [ku.1 hy];exact r3.2.2.1
   have m1:=Q4 [(true,r)] (by simp) hz;have m2:yL cmpL [((true,r):Lt)] = [(true,r)]:=rfl;rw [m2] at m1;have cn:CN [((true,r):Lt)]:=⟨by simp,λy hy=>by rw [ku.1 hy];exact ⟨hB0,by show nodes r<=30;omega⟩⟩;have asc:Asc cmpL [((true,r):Lt)]:=by unfold Asc;exact List.pairwise_singleton _ _
   obtain ⟨b,e3,hcn⟩:=jfV cn asc;have m1:G 64 [.sl 3 [[vb true,sv r.name,jH r.args]]]=some (cm [(true,r)],[]):=m1;have e3:G 63 [cm [(true,r)]]=some (.tup [.agg [.sl 3 ((normC [(true,r)]).map jG)],vb b],[]):=e3;generalize hcm:cm [((true,r):Lt)]=M at m1 e3;cases b with
   | true=>
    obtain ⟨a3,s3,l',u1,u2,u3,e4⟩:=more _ hcn.cq a2 s2 (by omega) (by omega);refine ⟨a3,s3,l',by omega,by omega,u3,?_⟩;simp only [jd,hgt,e1,hx0,e2,jM,j4];generalize hB:kX _ _ _=B;have hB':B=some (.agg [vb true,sv r.name,jH r.args]):=by rw [<-hB];kernel_rfl
    rw [hB'];have fM:fin false (M,[])=some M:=by rw [<-hcm];rfl
    simp only [jd,m1,fM,e3,hf,c1,e4]
   | false=>
    obtain ⟨a3,s3,l',u1,u2,u3,e4⟩:=same a2 s2 (by omega) (by omega);refine ⟨a3,s3,l',by omega,by omega,u3,?_⟩;simp only [jd,hgt,e1,hx0,e2,jM,j4];generalize hB:kX _ _ _=B;have hB':B=some (.agg [vb true,sv r.name,jH r.args]):=by rw [<-hB];kernel_rfl
    rw [hB'];have fM:fin false (M,[])=some M:=by rw [<-hcm];rfl
    simp only [jd,m1,fM,e3,c1,e4]
  have hx0:(x=0)=False:=ke hx0;by_cases hx1:x=1
  ·have hx1:(x=1)=True:=yC hx1;obtain ⟨a2,s2,c,r1,r2,r3,e2⟩:=jaL hb a1 s1 (by omega) (by omega);obtain ⟨a3,s3,l',u1,u2,u3,e4⟩:=more c r3.cq a2 s2 (by omega) (by omega);refine ⟨a3,s3,l',by omega,by omega,u3,?_⟩;simp only [jd,hgt,e1,hx0,hx1,e2,hf,c1,e4,jM,j4]
  ·have hx1:(x=1)=False:=ke hx1;obtain ⟨a2,s2,y,r1,r2,y0,y1,e2⟩:=zX hb ((l.length:Nat):Int) (by omega) (by omega) a1 s1 (by omega) (by omega);obtain ⟨i,rfl⟩:∃i:Nat,y=(i:Nat):=⟨y.toNat,by omega⟩;have hi:i < l.length:=by omega
   have i1:Zf l.length (vi ((i:Nat):Int))=some i:=zz hi;have i2:=jA6 hi;have hq:=h3 _ (jC hi);generalize l[i]=d at i2 hq;obtain ⟨a3,s3,c,u1,u2,u3,e3⟩:=jqF hb d hq a2 s2 (by omega) (by omega);have zc:=u3.cz;have e4:=qb c zc.1 zc.2;have i2:qc (l.map QD) i 0 1=some (.agg [.sl 3 (d.map jG)]):=i2;cases hn:jN c<;>rw [hn] at e4
   ·obtain ⟨a4,s4,l',v1,v2,v3,e5⟩:=same a3 s3 (by omega) (by omega);refine ⟨a4,s4,l',by omega,by omega,v3,?_⟩;simp only [jd,hgt,e1,hx0,hx1,e2,i1,i2,e3,e4,c1,e5,jM,j4]
   ·obtain ⟨a4,s4,l',v1,v2,v3,e5⟩:=more c u3 a3 s3 (by omega) (by omega);refine ⟨a4,s4,l',by omega,by omega,v3,?_⟩;simp only [jd,hgt,e1,hx0,hx1,e2,i1,i2,e3,e4,hf,c1,e5,jM,j4]
theorem jvY (a s:Int) (h0:0<=a) (h1:a<=999800000):AxD code 20000 a (jxH (zq code) (vi a) (vu s)):=by
 obtain ⟨a1,s1,c,q1,q2,q3,e1⟩:=jaL hb a s h0 (by omega);obtain ⟨a2,s2,x,r1,r2,x0,x1,e2⟩:=zX hb 3 (by decide) (by decide) a1 s1 (by omega) (by omega);obtain ⟨k,rfl⟩:∃k:Nat,x=(k:Nat):=⟨x.toNat,by omega⟩;have c1:ck (1+((k:Nat):Int))=some (vi ((k+1:Nat):Int)):=by rw [show (1:Int)+((k:Nat):Int)=((k+1:Nat):Int) by omega];exact jE (by omega) (by omega)
 obtain ⟨a3,s3,l,u1,u2,u3,e3⟩:=jo5 hb (k+1) [c] (by simp) (by rw [qm];omega) (λy hy=>by rw [ku.1 hy];exact q3.cq) a2 s2 (by omega) (by omega)
 have e3:jar (vi ((k+1:Nat):Int)) (zq code) (vi a2) (vu s2) [[.sl 3 (c.map jG)]]=_:=e3;refine ⟨a3,s3,l,by omega,by omega,u3,?_⟩;rw [jHV];simp only [jd,e1,e2,c1,e3,jM,j4]
end
def GsD (code:List Int) (axs:List kh) (sts:List Stp) (q:Nat) (a:Int) (o:Option Out):Prop:=∃a' s' g,a<=a'/\a'<=a+(q:Nat)/\(2<=g.rule/\g.rule<=6/\g.par.length<=2/\g.whr.length<=4/\(∀x∈g.par,0<=x/\x < ((sts.length:Nat):Int))/\(∀x∈g.whr,0<=x/\x<=100)/\g.cls = [])/\
 o=some (.top,[zq code,vi a',vu s',stm g,.sl 1 (axs.map QD),.sl 4 (sts.map stc)])
section
variable {code:List Int} (hb:By code)
include hb
theorem jyO (axs:List kh) (sts:List Stp) (h1:1<=sts.length) (h2:sts.length<=60) (a s:Int) (h0:0<=a) (ha:a<=999990000):GsD code axs sts 10 a (jxI (zq code) (vi a) (vu s) (axs.map QD) (sts.map stc)):=by
 have pk:∀n:Int,1<=n->n<=60-> ∀a s:Int,0<=a->a<=999995000-> ∃a' s' x,a<=a'/\a'<=a+1/\0<=x/\x < n/\z6 (vi n) (zq code) (vi a) (vu s)=some (.top,[zq code,vi a',vu s',vi x]):=λn g1 g2 a s g3 g4=>zX hb n g1 (by omega) a s g3 (by omega);have rl:zU (sts.map stc)=vi ((sts.length:Nat):Int):=by rw [KZ,kj]
 obtain ⟨a1,s1,i,q1,q2,i0,i1,e1⟩:=pk ((sts.length:Nat):Int) (by omega) (by omega) a s h0 (by omega);obtain ⟨a2,s2,k,q3,q4,k0,k1,e2⟩:=pk ((sts.length:Nat):Int) (by omega) (by omega) a1 s1 (by omega) (by omega);obtain ⟨a3,s3,z,q5,q6,z0,z1,e3⟩:=pk 8 (by decide) (by decide) a2 s2 (by omega) (by omega);rw [jHW,rl];by_cases hz0:z=0
 ·have hz0:(z=0)=True:=yC hz0;obtain ⟨a4,s4,x,u1,u2,x0,x1,e4⟩:=pk 2 (by decide) (by decide) a3 s3 (by omega) (by omega);obtain ⟨a5,s5,y,u3,u4,y0,y1,e5⟩:=pk 2 (by decide) (by decide) a4 s4 (by omega) (by omega);have c1:ck (1+y)=some (vi (1+y)):=jE (by omega) (by omega);refine ⟨a5,s5,⟨3,[i],[x,1+y],[]⟩,by omega,by omega,⟨by simp,by simp,by simp,by simp,λw hw=>by rw [ku.1 hw];omega,λw hw=>by
   simp only [jZ,qK,Jb] at hw;rcases hw with rfl|rfl<;>omega,rfl⟩,?_⟩
  simp only [jd,e1,e2,e3,hz0,e4,e5,c1,jM,j4];rfl
 have hz0:(z=0)=False:=ke hz0;by_cases hz1:z=1
 ·have hz1:(z=1)=True:=yC hz1;obtain ⟨a4,s4,x,u1,u2,x0,x1,e4⟩:=pk 3 (by decide) (by decide) a3 s3 (by omega) (by omega);refine ⟨a4,s4,⟨5,[i],[x],[]⟩,by omega,by omega,⟨by simp,by simp,by simp,by simp,λw hw=>by rw [ku.1 hw];omega,λw hw=>by rw [ku.1 hw];omega,rfl⟩,?_⟩;simp only [jd,e1,e2,e3,hz0,hz1,e4,jM,j4];rfl
 have hp:∀w ∈ [i,k],0<=w/\w < ((sts.length:Nat):Int):=λw hw=>by
  simp only [jZ,qK,Jb] at hw;rcases hw with rfl|rfl<;>omega
 have hz1:(z=1)=False:=ke hz1;by_cases hz2:z=2
 ·have hz2:(z=2)=True:=yC hz2;refine ⟨a3,s3,⟨6,[i,k],[],[]⟩,by omega,by omega,⟨by simp,by simp,by simp,by simp,hp,λw hw=>(by cases hw),rfl⟩,?_⟩;simp only [jd,e1,e2,e3,hz0,hz1,hz2,jM,j4];rfl
 have four:∃a7 s7 x y v w,a3<=a7/\a7<=a3+4/\(∀t ∈ [x,y,v,w],(0:Int)<=t/\t<=100)/\ ∃a4 s4 a5 s5 a6 s6,z6 (vi 2) (zq code) (vi a3) (vu s3)=some (.top,[zq code,vi a4,vu s4,vi x])/\z6 (vi 2) (zq code) (vi a4) (vu s4)=some (.top,[zq code,vi a5,vu s5,vi y])/\z6 (vi 2) (zq code) (vi a5) (vu s5)=some (.top,[zq code,vi a6,vu s6,vi v])/\z6 (vi 2) (zq code) (vi a6) (vu s6)=some (.top,[zq code,vi a7,vu s7,vi w]):=by
  obtain ⟨a4,s4,x,u1,u2,x0,x1,e4⟩:=pk 2 (by decide) (by decide) a3 s3 (by omega) (by omega);obtain ⟨a5,s5,y,u3,u4,y0,y1,e5⟩:=pk 2 (by decide) (by decide) a4 s4 (by omega) (by omega);obtain ⟨a6,s6,v,u5,u6,v0,v1,e6⟩:=pk 2 (by decide) (by decide) a5 s5 (by omega) (by omega);obtain ⟨a7,s7,w,u7,u8,w0,w1,e7⟩:=pk 2 (by decide) (by decide) a6 s6 (by omega) (by omega);refine ⟨a7,s7,x,y,v,w,by omega,by omega,λt ht=> ?_,a4,s4,a5,s5,a6,s6,e4,e5,e6,e7⟩;simp only [jZ,qK,Jb] at ht;rcases ht with rfl|rfl|rfl|rfl<;>omega
 have two:∃a5 s5 x y,a3<=a5/\a5<=a3+4/\(∀t ∈ [x,y],(0:Int)<=t/\t<=100)/\ ∃a4 s4,z6 (vi 3) (zq code) (vi a3) (vu s3)=some (.top,[zq code,vi a4,vu s4,vi x])/\z6 (vi 3) (zq code) (vi a4) (vu s4)=some (.top,[zq code,vi a5,vu s5,vi y]):=by
  obtain ⟨a4,s4,x,u1,u2,x0,x1,e4⟩:=pk 3 (by decide) (by decide) a3 s3 (by omega) (by omega);obtain ⟨a5,s5,y,u3,u4,y0,y1,e5⟩:=pk 3 (by decide) (by decide) a4 s4 (by omega) (by omega);refine ⟨a5,s5,x,y,by omega,by omega,λt ht=> ?_,a4,s4,e4,e5⟩;simp only [jZ,qK,Jb] at ht;rcases ht with rfl|rfl<;>omega
 have hz2:(z=2)=False:=ke hz2;by_cases hz3:z=3
 ·have hz3:(z=3)=True:=yC hz3;obtain ⟨a7,s7,x,y,v,w,u1,u2,u3,a4,s4,a5,s5,a6,s6,e4,e5,e6,e7⟩:=four;refine ⟨a7,s7,⟨4,[i,k],[x,y,v,w],[]⟩,by omega,by omega,⟨by simp,by simp,by simp,by simp,hp,u3,rfl⟩,?_⟩;simp only [jd,e1,e2,e3,hz0,hz1,hz2,hz3,e4,e5,e6,e7,jM,j4];rfl
 have hz3:(z=3)=False:=ke hz3;by_cases hz4:z=4
 ·have hz4:(z=4)=True:=yC hz4;obtain ⟨a7,s7,x,y,v,w,u1,u2,u3,a4,s4,a5,s5,a6,s6,e4,e5,e6,e7⟩:=four;refine ⟨a7,s7,⟨4,[i,k],[x,y,v,w],[]⟩,by omega,by omega,⟨by simp,by simp,by simp,by simp,hp,u3,rfl⟩,?_⟩;simp only [jd,e1,e2,e3,hz0,hz1,hz2,hz3,hz4,e4,e5,e6,e7,jM,j4];rfl
 ·have hz4:(z=4)=False:=ke hz4;obtain ⟨a5,s5,x,y,u1,u2,u3,a4,s4,e4,e5⟩:=two;refine ⟨a5,s5,⟨2,[i,k],[x,y],[]⟩,by omega,by omega,⟨by simp,by simp,by simp,by simp,hp,u3,rfl⟩,?_⟩;simp only [jd,e1,e2,e3,hz0,hz1,hz2,hz3,hz4,e4,e5,jM,j4];rfl
end
theorem jG4 {xs:List Stp} {i:Nat} (h:i < xs.length):qc (xs.map stc) i 3 1=some (cm xs[i].cls):=by unfold qc;simp [h]
theorem jA8 {xs:List Stp} {i:Nat} (h:i < xs.length):qc (xs.map stc) i 0 4=some (stm xs[i]):=jA7 h 4
theorem Qs {sts:List Stp} (hz:∀q∈sts,Cz q.cls) {l:List Int} (hr:∀x∈l,0<=x/\x < ((sts.length:Nat):Int)) (j:Nat) (hj:j < l.length):∃(n:Nat) (d:kh),Cz d/\Zf sts.length (vi l[j])=some n/\qc (sts.map stc) n 3 1=some (cm d):=by
 obtain ⟨h0,h1⟩:=hr _ (jC hj);obtain ⟨n,hn⟩:=jcu h0;rw [hn] at h1 ⊢;have hlt:n < sts.length:=by omega
 exact ⟨n,sts[n].cls,hz _ (jC hlt),zz hlt,jG4 hlt⟩
theorem jBE (c:kh):(¬((c.length:Nat):Int)=1)\/ ∃t:Lt,t∈c/\((c.length:Nat):Int)=1/\jl 3 (.sl 3 (c.map jG)) (vi 0)=some (.elt (jG t) 0):=by
 match c with
 | []=>exact Or.inl (by simp)
 | [t]=>exact Or.inr ⟨t,ku.2 rfl,rfl,rfl⟩
 | t::t'::r=>exact Or.inl (by simp only [zk];omega)
def RcD (axs:List kh) (sts:List Stp) (o:Option Out):Prop:=∃(c:kh) (b:Bool),(b=true->Cq c)/\o=some (.top,[cm c,vb b,.sl 1 (List.map QD axs),.sl 4 (List.map stc sts)])
theorem jn1 {r:Option kh} (h:∀c,r=some c->jN c=true):∃(c:kh) (b:Bool),Jz r=some (.tup [cm c,vb b],[])/\(b=true->Cq c):=by
 cases r with
 | none=>exact ⟨[],false,rfl,λh=>by cases h⟩
 | some c=>exact ⟨c,true,rfl,λ_=>(km (h c rfl)).1.cq⟩
section
variable {axs:List kh} {sts:List Stp} (hz:∀q∈sts,Cz q.cls) {g:Stp} (hr:∀x∈g.par,0<=x/\x < ((sts.length:Nat):Int))
include hz hr
theorem rc2 (hs:g.rule=2):RcD axs sts (jgv (vi g.rule) (ints g.par) (ints g.whr) (.sl 3 (g.cls.map jG)) (axs.map QD) (sts.map stc)):=by
 have a1:(g.rule=1)=False:=ke (by omega);have a2:(g.rule=2)=True:=yC hs;have a3:(g.rule=3)=False:=ke (by omega);have a4:(g.rule=4)=False:=ke (by omega);have a5:(g.rule=5)=False:=ke (by omega);have a6:(g.rule=6)=False:=ke (by omega);rw [jo8];by_cases h1:((g.par.length:Nat):Int)=2;rotate_left
 ·exact ⟨[],false,(by simp),by simp only [jd,a1,a2,a3,a4,a5,a6,h1];rfl⟩
 by_cases h2:((g.whr.length:Nat):Int)=2;rotate_left
 ·exact ⟨[],false,(by simp),by simp only [jd,a1,a2,a3,a4,a5,a6,h1,h2];rfl⟩
 have w0:=ixN (l:=g.whr) (j:=0) (by omega) (k:=0) rfl;have w1:=ixN (l:=g.whr) (j:=1) (by omega) (k:=1) rfl;have y0:=ixN (l:=g.par) (j:=0) (by omega) (k:=0) rfl;have y1:=ixN (l:=g.par) (j:=1) (by omega) (k:=1) rfl;obtain ⟨n,d,zd,i0,r0⟩:=Qs hz hr 0 (by omega);obtain ⟨n',d',zd',i1,r1⟩:=Qs hz hr 1 (by omega);obtain ⟨r,_,e2,e3⟩:=jdo d d' zd.1 zd.2 zd'.1 zd'.2 g.whr[0] g.whr[1];obtain ⟨c,b,hf,hq⟩:=jn1 λc h=>(e3 c h).1;rw [hf] at e2;refine ⟨c,b,hq,?_⟩;simp only [jd,a1,a2,a3,a4,a5,a6,h1,h2,w0,w1,y0,y1,qN,i0,r0,i1,r1,e2]
theorem rc3 (hs:g.rule=3) (hw:∀x∈g.whr,I64 x):RcD axs sts (jgv (vi g.rule) (ints g.par) (ints g.whr) (.sl 3 (g.cls.map jG)) (axs.map QD) (sts.map stc)):=by
 have a1:(g.rule=1)=False:=ke (by omega);have a2:(g.rule=2)=False:=ke (by omega);have a3:(g.rule=3)=True:=yC hs;have a4:(g.rule=4)=False:=ke (by omega);have a5:(g.rule=5)=False:=ke (by omega);have a6:(g.rule=6)=False:=ke (by omega);rw [jo8];by_cases h1:((g.par.length:Nat):Int)=1;rotate_left
 ·exact ⟨[],false,(by simp),by simp only [jd,a1,a2,a3,a4,a5,a6,h1];rfl⟩
 by_cases h2:((g.whr.length:Nat):Int)=2;rotate_left
 ·exact ⟨[],false,(by simp),by simp only [jd,a1,a2,a3,a4,a5,a6,h1,h2];rfl⟩
 have w0:=ixN (l:=g.whr) (j:=0) (by omega) (k:=0) rfl;have w1:=ixN (l:=g.whr) (j:=1) (by omega) (k:=1) rfl;have y0:=ixN (l:=g.par) (j:=0) (by omega) (k:=0) rfl;obtain ⟨n,d,zd,i0,r0⟩:=Qs hz hr 0 (by omega);have hi:=hw g.whr[0] (jC (by omega));obtain ⟨r,_,e2,e3⟩:=jeE d zd.1 zd.2 g.whr[0] g.whr[1] (by unfold I64 at hi;omega);obtain ⟨c,b,hf,hq⟩:=jn1 λc h=>(e3 c h).1;rw [hf] at e2;refine ⟨c,b,hq,?_⟩;simp only [jd,a1,a2,a3,a4,a5,a6,h1,h2,w0,w1,y0,qN,i0,r0,e2]
theorem rc4 (hs:g.rule=4) (hl:g.whr.length<=1048576):RcD axs sts (jgv (vi g.rule) (ints g.par) (ints g.whr) (.sl 3 (g.cls.map jG)) (axs.map QD) (sts.map stc)):=by
 have a1:(g.rule=1)=False:=ke (by omega);have a2:(g.rule=2)=False:=ke (by omega);have a3:(g.rule=3)=False:=ke (by omega);have a4:(g.rule=4)=True:=yC hs;have a5:(g.rule=5)=False:=ke (by omega);have a6:(g.rule=6)=False:=ke (by omega);rw [jo8];by_cases h1:((g.par.length:Nat):Int)=2;rotate_left
 ·exact ⟨[],false,(by simp),by simp only [jd,a1,a2,a3,a4,a5,a6,h1];rfl⟩
 by_cases h3:((g.whr.length:Nat):Int) > 3;rotate_left
 ·exact ⟨[],false,(by simp),by simp only [jd,a1,a2,a3,a4,a5,a6,h1,h3];rfl⟩
 have w0:=ixN (l:=g.whr) (j:=0) (by omega) (k:=0) rfl;have w1:=ixN (l:=g.whr) (j:=1) (by omega) (k:=1) rfl;have w2:=ixN (l:=g.whr) (j:=2) (by omega) (k:=2) rfl;have y0:=ixN (l:=g.par) (j:=0) (by omega) (k:=0) rfl;have y1:=ixN (l:=g.par) (j:=1) (by omega) (k:=1) rfl;have hsl:yq 1 (ints g.whr) (some (vi 3)) none=some (ints (g.whr.drop 3)):=by
  have:=qd (k:=1) (xs:=g.whr.map ci) (i:=3) (by rw [kj];omega)
  rw [<-jcA] at this;exact this
 obtain ⟨n,d,zd,i0,r0⟩:=Qs hz hr 0 (by omega);obtain ⟨n',d',zd',i1,r1⟩:=Qs hz hr 1 (by omega);obtain ⟨r,_,e2,e3⟩:=jbc d d' zd.1 zd.2 zd'.1 zd'.2 g.whr[0] g.whr[1] g.whr[2] (g.whr.drop 3) (by rw [qu];omega);obtain ⟨c,b,hf,hq⟩:=jn1 λc h=>(e3 c h).1;rw [hf] at e2;refine ⟨c,b,hq,?_⟩;generalize g.whr.drop 3=D at *;simp only [jd,a1,a2,a3,a4,a5,a6,h1,h3,w0,w1,w2,hsl,y0,y1,qN,i0,r0,i1,r1,e2]
theorem rc5 (hs:g.rule=5):RcD axs sts (jgv (vi g.rule) (ints g.par) (ints g.whr) (.sl 3 (g.cls.map jG)) (axs.map QD) (sts.map stc)):=by
 have a1:(g.rule=1)=False:=ke (by omega);have a2:(g.rule=2)=False:=ke (by omega);have a3:(g.rule=3)=False:=ke (by omega);have a4:(g.rule=4)=False:=ke (by omega);have a5:(g.rule=5)=True:=yC hs;have a6:(g.rule=6)=False:=ke (by omega);rw [jo8];by_cases h1:((g.par.length:Nat):Int)=1;rotate_left
 ·exact ⟨[],false,(by simp),by simp only [jd,a1,a2,a3,a4,a5,a6,h1];rfl⟩
 by_cases h2:((g.whr.length:Nat):Int)=1;rotate_left
 ·exact ⟨[],false,(by simp),by simp only [jd,a1,a2,a3,a4,a5,a6,h1,h2];rfl⟩
 have w0:=ixN (l:=g.whr) (j:=0) (by omega) (k:=0) rfl;have y0:=ixN (l:=g.par) (j:=0) (by omega) (k:=0) rfl;obtain ⟨n,d,zd,i0,r0⟩:=Qs hz hr 0 (by omega);obtain ⟨r,_,e2,e3⟩:=jbb d zd.1 zd.2 g.whr[0];obtain ⟨c,b,hf,hq⟩:=jn1 λc h=>(e3 c h).1;rw [hf] at e2;refine ⟨c,b,hq,?_⟩;simp only [jd,a1,a2,a3,a4,a5,a6,h1,h2,w0,y0,qN,i0,r0,e2]
theorem jMi (h1:((g.par.length:Nat):Int)=2):RcD axs sts (jxM (ints g.par) (axs.map QD) (sts.map stc)):=by
 have y0:=ixN (l:=g.par) (j:=0) (by omega) (k:=0) rfl;have y1:=ixN (l:=g.par) (j:=1) (by omega) (k:=1) rfl;obtain ⟨n,d,zd,i0,r0⟩:=Qs hz hr 0 (by omega);obtain ⟨n',d',zd',i1,r1⟩:=Qs hz hr 1 (by omega);have l1:(1:Int) < 2:=by decide
 have l2:¬(2:Int) < 2:=by decide
 have c1:ck (1+1)=some (vi 2):=jE (by decide) (by decide);rw [jH8,jDt];rcases jBE d' with hne|⟨t,tm',he,hx⟩
 ·exact ⟨[],false,(by simp),by simp only [jd,h1,l1,y1,qN,i1,r1,hne];rfl⟩
 cases hb:t.1
 ·exact ⟨[],false,(by simp),by simp only [jd,h1,l1,y1,qN,i1,r1,he,hx,Qh,Yr,hb];rfl⟩
 have ha:jW ([]:List (List A)) [[sv t.2.name,jH t.2.args]] = [t.2].map jo:=by rw [List.map_singleton,kG];rfl
 have hz1:∀u ∈ [t.2],Tz u:=λu hu=>by rw [ku.1 hu];exact zd'.2 t tm'
 obtain ⟨r,_,b2,b3⟩:=jcc d zd.1 zd.2 [t.2] (by simp) hz1;have hl1:(([t.2].map jo).length:Nat)=1:=rfl;have hf:jA 1 40=true:=by decide
 have b2:G 105 [.agg [.sl 3 (d.map jG)],.sl 2 ([t.2].map jo)]=Jz r:=b2;generalize [t.2].map jo=R at *;have hR1:¬((R.length:Nat):Int)=0:=by omega
 have hend:RcD axs sts (jm5 (ints g.par) (vi 2) R (axs.map QD) (sts.map stc) [] []):=by
  rw [jDu];cases r with
  | none=>
   have b2:G 105 [.agg [.sl 3 (d.map jG)],.sl 2 R]=some (.tup [.agg [.sl 3 []],vb false],[]):=b2;have f1:fin false (.tup [.agg [.sl 3 []],vb false],[])=some (.tup [.agg [.sl 3 []],vb false]):=rfl;exact ⟨[],false,(by simp),by simp only [jd,h1,l2,y0,qN,i0,r0,hR1,b2,f1];rfl⟩
  | some c=>
   have b2:G 105 [.agg [.sl 3 (d.map jG)],.sl 2 R]=some (.tup [.agg [.sl 3 (c.map jG)],vb true],[]):=b2;have f1:fin false (.tup [.agg [.sl 3 (c.map jG)],vb true],[])=some (.tup [.agg [.sl 3 (c.map jG)],vb true]):=rfl;have hn:=(b3 c rfl).1;have zc:=Zq hn;have s2:=jfW c d zc.1 zc.2 zd.2;cases hsame:dq c d<;>rw [hsame] at s2
   ·exact ⟨c,true,λ_=>(km hn).1.cq,by simp only [jd,h1,l2,y0,qN,i0,r0,hR1,b2,f1,s2]⟩
   ·exact ⟨[],false,(by simp),by simp only [jd,h1,l2,y0,qN,i0,r0,hR1,b2,f1,s2];rfl⟩
 simp only [jd,h1,l1,y1,qN,i1,r1,he,hx,Qh,Yr,ldT,hb,hf,c1,ha];exact hend
theorem rc6 (hs:g.rule=6) (hl:g.par.length<=2):RcD axs sts (jgv (vi g.rule) (ints g.par) (ints g.whr) (.sl 3 (g.cls.map jG)) (axs.map QD) (sts.map stc)):=by
 have a1:(g.rule=1)=False:=ke (by omega);have a2:(g.rule=2)=False:=ke (by omega);have a3:(g.rule=3)=False:=ke (by omega);have a4:(g.rule=4)=False:=ke (by omega);have a5:(g.rule=5)=False:=ke (by omega);have a6:(g.rule=6)=True:=yC hs;rw [jo8];by_cases h1:((g.par.length:Nat):Int) > 1;rotate_left
 ·exact ⟨[],false,(by simp),by simp only [jd,a1,a2,a3,a4,a5,a6,h1];rfl⟩
 by_cases h2:((g.whr.length:Nat):Int)=0;rotate_left
 ·exact ⟨[],false,(by simp),by simp only [jd,a1,a2,a3,a4,a5,a6,h1,h2];rfl⟩
 obtain ⟨c,b,hq,e⟩:=jMi (axs:=axs) hz hr (by omega);exact ⟨c,b,hq,by simp only [jd,a1,a2,a3,a4,a5,a6,h1,h2,e,jM,j4,Q1,jyP]⟩
theorem jts (h2:2<=g.rule) (h6:g.rule<=6) (hl:g.par.length<=2) (hw:g.whr.length<=4) (hi:∀x∈g.whr,0<=x/\x<=100):RcD axs sts (jgv (vi g.rule) (ints g.par) (ints g.whr) (.sl 3 (g.cls.map jG)) (axs.map QD) (sts.map stc)):=by
 have h:g.rule=2\/g.rule=3\/g.rule=4\/g.rule=5\/g.rule=6:=by omega
 rcases h with h|h|h|h|h
 ·exact rc2 hz hr h
 ·exact rc3 hz hr h λx hx=>by have:=hi x hx;unfold I64;omega
 ·exact rc4 hz hr h (by omega)
 ·exact rc5 hz hr h
 ·exact rc6 hz hr h hl
end
def Sq (s:Stp):Prop:=s.par.length<=4/\s.whr.length<=4/\(∀x∈s.whr,I64 x)/\Cq s.cls
def Sw (s:Stp):Prop:=s.par.length<=70/\s.whr.length<=70/\(∀x∈s.whr,I64 x)/\Cq s.cls
theorem Sq.w {s:Stp} (h:Sq s):Sw s:=⟨by have:=h.1;omega,by have:=h.2.1;omega,h.2.2⟩
theorem jsv (l:List Stp) (s:Stp):jW (l.map stc) [[vi s.rule,ints s.par,ints s.whr,.sl 3 (s.cls.map jG)]]=(l++[s]).map stc:=by rw [zy];rfl
theorem jtE {l:List Stp} {c:Stp} (h:∀x∈l,Sq x) (hc:Sq c):∀x∈l++[c],Sq x:=λx hx=>by
 rcases kZ.1 hx with hx|hx
 ·exact h x hx
 ·rw [ku.1 hx];exact hc
theorem jGR {n:Nat} (h:n<=1000000):jA n 8=true:=by
 unfold jA;exact jQ ⟨by omega,by omega⟩
def PrD (code:List Int) (q:Nat) (a:Int) (o:Option Out):Prop:=∃(a' s':Int) (p:Prf),a<=a'/\a'<=a+(q:Nat)/\(p.ax.length<=5/\1<=p.st.length/\p.st.length<=30/\(∀c∈p.ax,Cq c)/\ ∀s∈p.st,Sq s)/\o=some (.top,[zq code,vi a',vu s',.sl 1 (List.map QD p.ax),.sl 4 (List.map stc p.st)])
section
variable {code:List Int} (hb:By code)
include hb
theorem jtG {axs:List kh} (hax:axs.length<=5) (hcq:∀c∈axs,Cq c):∀(k:Nat) (sts:List Stp),1<=sts.length->sts.length+k<=30->(∀s∈sts,Sq s)-> ∀a s:Int,0<=a->a<=999700000 - 20 * (k:Nat)->PrD code (20 * k) a (jcG (vi (k:Nat)) (zq code) (vi a) (vu s) [] [] (axs.map QD) (sts.map stc)):=by
 intro k;induction k with
 | zero=>
  intro l h1 h2 h3 a s _ _;have hgt:¬(0:Int) < ((0:Nat):Int):=by decide
  refine ⟨a,s,⟨axs,l⟩,by omega,by omega,⟨hax,h1,by show l.length<=30;omega,hcq,h3⟩,?_⟩
  rw [ju3];simp only [jd,hgt]
 | succ k ih=>
  intro l h1 h2 h3 a s ha hb';have hgt:(0:Int) < ((k+1:Nat):Int):=by omega
  have c1:ck (((k+1:Nat):Int) - 1)=some (vi (k:Nat)):=by rw [show ((k+1:Nat):Int) - 1=(k:Nat) by omega];exact jE (by omega) (by omega)
  obtain ⟨a1,s1,g,q1,q2,⟨g1,g2,g3,g4,g5,g6,g7⟩,e1⟩:=jyO hb axs l h1 (by omega) a s ha (by omega);obtain ⟨c,b,hc,e2⟩:=jts (axs:=axs) (λq hq=>(h3 q hq).2.2.2.cz) g5 g1 g2 g3 g4 g6;rw [ju3];have hf:jA (l.length+1) 80=true:=jdU (by omega);cases b with
  | true=>
   have hs:Sq ⟨g.rule,g.par,g.whr,c⟩:=⟨by show g.par.length<=4;omega,by show g.whr.length<=4;omega,λx hx=>by have:=g6 x hx;unfold I64;omega,hc rfl⟩
   obtain ⟨a2,s2,p,u1,u2,u3,e3⟩:=ih (l++[⟨g.rule,g.par,g.whr,c⟩]) (by rw [zh];omega) (by rw [zh,qm];omega) (jtE h3 hs) a1 s1 (by omega) (by omega)
   rw [<-jsv] at e3;have e3:jcG (vi (k:Nat)) (zq code) (vi a1) (vu s1) [] [] (axs.map QD) (jW (l.map stc) [[vi g.rule,.sl 1 (g.par.map ci),.sl 1 (g.whr.map ci),.sl 3 (c.map jG)]])=_:=e3;refine ⟨a2,s2,p,by omega,by omega,u3,?_⟩;simp only [jd,hgt,e1,jED,jEE,e2,Q1,jyP,hf,c1,e3,jM,j4]
  | false=>
   obtain ⟨a2,s2,p,u1,u2,u3,e3⟩:=ih l h1 (by omega) h3 a1 s1 (by omega) (by omega);refine ⟨a2,s2,p,by omega,by omega,u3,?_⟩;simp only [jd,hgt,e1,jED,jEE,e2,Q1,jyP,c1,e3,jM,j4]
theorem jsO {axs:List kh} (h0:1<=axs.length) (hax:axs.length<=5) (hcq:∀c∈axs,Cq c) (a s:Int) (ha:0<=a) (ha':a<=999600000):∀i,i<=axs.length-> ∀sts:List Stp,sts.length=i->(∀s∈sts,Sq s)->PrD code 400 a (jcF (vi (i:Nat)) (zq code) (vi a) (vu s) [] [] (axs.map QD) (sts.map stc)):=by
 refine upto (n:=axs.length) (P:=λi=>∀sts:List Stp,sts.length=i->(∀s∈sts,Sq s)->PrD code 400 a (jcF (vi (i:Nat)) (zq code) (vi a) (vu s) [] [] (axs.map QD) (sts.map stc))) ?_ ?_
 ·intro sts hl hs;have nlt:¬((axs.length:Nat):Int) < ((axs.length:Nat):Int):=by omega
  obtain ⟨a1,s1,x,q1,q2,x0,x1,e1⟩:=zX hb 10 (by decide) (by decide) a s ha (by omega);obtain ⟨k,rfl⟩:∃k:Nat,x=(k:Nat):=⟨x.toNat,by omega⟩;have c1:ck (4+((k:Nat):Int))=some (vi ((4+k:Nat):Int)):=by rw [show (4:Int)+((k:Nat):Int)=((4+k:Nat):Int) by omega];exact jE (by omega) (by omega)
  obtain ⟨a2,s2,p,u1,u2,u3,e3⟩:=jtG hb hax hcq (4+k) sts (by omega) (by omega) hs a1 s1 (by omega) (by omega);refine ⟨a2,s2,p,by omega,by omega,u3,?_⟩;rw [ju2];simp only [jd,nlt,e1,c1,e3,jM,j4]
 ·intro i hi ih sts hl hs;have hlt:(i:Int) < ((axs.length:Nat):Int):=by omega
  have h5:=js hi (by show axs.length<=9223372036854775807;omega)
  have i1:Zf axs.length (vi ((i:Nat):Int))=some i:=zz hi;have i2:=jA6 hi;have hq:=hcq _ (jC hi);generalize axs[i]=d at i2 hq;have hq1:=hq.1;have o1:=jiY d (by omega) hq.cz.2;have hf:jA (sts.length+1) 80=true:=jdU (by omega);have hs1:Sq ⟨1,[],[(i:Int)],d⟩:=⟨by show 0<=4;omega,by show 1<=4;omega,λx hx=>by
   have hx:x=(i:Int):=ku.1 hx;rw [hx];unfold I64;omega,hq⟩
  obtain ⟨a2,s2,p,u1,u2,u3,e3⟩:=ih (sts++[⟨1,[],[(i:Int)],d⟩]) (by rw [zh,qm];omega) (jtE hs hs1)
  rw [<-jsv] at e3;have e3:jcF (vi ((i+1:Nat):Int)) (zq code) (vi a) (vu s) [] [] (axs.map QD) (jW (sts.map stc) [[vi 1,.sl 1 [],.sl 1 [[vi (i:Nat)]],.sl 3 (d.map jG)]])=_:=e3;refine ⟨a2,s2,p,u1,u2,u3,?_⟩;rw [ju2];simp only [jd,hlt,i1,i2,o1,hf,h5,e3]
theorem jAT (a s:Int) (h0:0<=a) (h1:a<=999500000):PrD code 21000 a (jtX (zq code) (vi a) (vu s)):=by
 obtain ⟨a1,s1,axs,q1,q2,⟨l1,l2,l3⟩,e1⟩:=jvY hb a s h0 (by omega);have hlt:(0:Int) < ((axs.length:Nat):Int):=by omega
 have i1:Zf axs.length (vi 0)=some 0:=zz (i:=0) (by omega);have i2:=jA6 (xs:=axs) (i:=0) (by omega);have hq:=l3 axs[0] (jC _);generalize axs[0]=d at i2 hq;have hq1:=hq.1;have o1:=jiY d (by omega) hq.cz.2;have hf:jA 1 80=true:=by decide
 have hs1:Sq ⟨1,[],[0],d⟩:=⟨by show 0<=4;omega,by show 1<=4;omega,λx hx=>by
  have hx:x=0:=ku.1 hx;rw [hx];unfold I64;omega,hq⟩
 have c1:ck (0+1)=some (vi 1):=jE (by decide) (by decide);obtain ⟨a2,s2,p,u1,u2,u3,e3⟩:=jsO hb l1 l2 l3 a1 s1 (by omega) (by omega) 1 l1 [⟨1,[],[0],d⟩] rfl (λx hx=>by rw [ku.1 hx];exact hs1);have e3:jcF (vi 1) (zq code) (vi a1) (vu s1) [] [] (axs.map QD) (jW [] [[vi 1,.sl 1 [],.sl 1 [[vi 0]],.sl 3 (d.map jG)]])=_:=e3;refine ⟨a2,s2,p,by omega,by omega,u3,?_⟩;rw [jHO];simp only [jd,e1,ja7,jM,j4];rw [jDr];simp only [jd,hlt,i1,i2,o1,hf,c1,e3]
def AnP (p:Prf):Prop:=p.ax.length<=10/\p.st.length<=100/\(∀c∈p.ax,Cq c)/\ ∀s∈p.st,Sw s
omit hb in
theorem AnP.pz {p:Prf} (h:AnP p):Pz p:=by
 obtain ⟨h1,h2,h3,h4⟩:=h;exact ⟨by omega,by omega,λc hc=>(h3 c hc).cz,λs hs=>by have:=(h4 s hs).1;omega,λs hs=>by have:=(h4 s hs).2.1;omega,λs hs=>(h4 s hs).2.2.1,λs hs=>(h4 s hs).2.2.2.cz⟩
def AyD (code:List Int) (o:Option Out):Prop:=∃(a' s':Int) (p:Prf),AnP p/\o=some (.top,[zq code,vi a',vu s',.sl 1 (List.map QD p.ax),.sl 4 (List.map stc p.st)])
omit hb in
theorem jvj (l:List Int) (hl:l.length<=1000000):jhP (.sl 1 (l.map ci))=some (.top,[.sl 1 (l.map ci)]):=by
 have f1:jA l.length 8=true:=jGR hl;rw [jEy];simp only [jd,f1]
omit hb in
theorem jvk (s:Stp) (h:Sq s):jtY (stm s)=some (.top,[vi s.rule,.sl 3 (s.cls.map jG),.sl 1 (s.par.map ci),.sl 1 (s.whr.map ci)]):=by
 obtain ⟨h1,h2,h3,h4⟩:=h;have e1:=jvj s.par (by omega);have e2:=jvj s.whr (by omega);have h5:=h4.1;have e3:=jiY s.cls (by omega) h4.cz.2;rw [jHQ];simp only [jd,e1,e2,e3,jIz]
omit hb in
theorem jG7 (l:List Stp) (i:Nat) (hi:i < l.length):jac (l.map stc) i=some (stc l[i])/\ ∀(q s:Stp),qg (l.map stc) i (yO (stc q) 0 [vi s.rule,.sl 1 (s.par.map ci),.sl 1 (s.whr.map ci),.sl 3 (s.cls.map jG)])=(l.set i s).map stc:=by
 refine ⟨by simp [jac,hi],λq s=> ?_⟩;unfold qg;rw [jct];rfl
omit hb in
theorem jG6 {l:List Stp} {i:Nat} {s:Stp} (h:∀x∈l,Sq x) (hs:Sw s):∀x∈l.set i s,Sw x:=λx hx=>by
 rcases jmh hx with h1|h1
 ·exact (h x h1).w
 ·rw [h1];exact hs
theorem jwa {axs:List kh} (hax:axs.length<=5) (hcq:∀c∈axs,Cq c):∀(k:Nat) (sts:List Stp),62<=sts.length+k->sts.length<=62->1<=sts.length->(∀s∈sts,Sq s)-> ∀a s:Int,0<=a->a<=999900000 - (k:Nat)->AyD code (jec (zq code) (vi a) (vu s) [] [] (axs.map QD) (sts.map stc)):=by
 intro k;induction k with
 | zero=>
  intro sts h1 h2 h3 hs a s h0 ha;obtain ⟨a1,s1,x,q1,q2,x0,x1,e1⟩:=zX hb 2 (by decide) (by decide) a s h0 (by omega);have c1:ck (60+x)=some (vi (60+x)):=jE (by omega) (by omega);have hlt:¬((sts.length:Nat):Int) < 60+x:=by omega
  refine ⟨a1,s1,⟨axs,sts⟩,⟨by show axs.length<=10;omega,by show sts.length<=100;omega,hcq,λx hx=>(hs x hx).w⟩,?_⟩
  rw [jhz];simp only [jd,e1,c1,hlt,jM,j4]
 | succ k ih=>
  intro sts h1 h2 h3 hs a s h0 ha;obtain ⟨a1,s1,x,q1,q2,x0,x1,e1⟩:=zX hb 2 (by decide) (by decide) a s h0 (by omega);have c1:ck (60+x)=some (vi (60+x)):=jE (by omega) (by omega);by_cases hlt:((sts.length:Nat):Int) < 60+x
  ·have i1:Zf sts.length (vi 0)=some 0:=zz (i:=0) (by omega);have i2:=jA8 (xs:=sts) (i:=0) (by omega);have hq:=hs sts[0] (jC _);generalize sts[0]=q at i2 hq;have o1:=jvk q hq;have hf:jA (sts.length+1) 80=true:=jdU (by omega);obtain ⟨a2,s2,p,u1,e3⟩:=ih (sts++[q]) (by rw [zh,qm];omega) (by rw [zh,qm];omega) (by rw [zh];omega) (jtE hs hq) a1 s1 (by omega) (by omega);rw [<-jsv] at e3;have e3:jec (zq code) (vi a1) (vu s1) [] [] (axs.map QD) (jW (sts.map stc) [[vi q.rule,.sl 1 (q.par.map ci),.sl 1 (q.whr.map ci),.sl 3 (q.cls.map jG)]])=_:=e3;refine ⟨a2,s2,p,u1,?_⟩;rw [jhz];simp only [jd,e1,c1,hlt,i1,i2,o1,Q1,ja7,hf,e3,jM,j4]
  ·refine ⟨a1,s1,⟨axs,sts⟩,⟨by show axs.length<=10;omega,by show sts.length<=100;omega,hcq,λx hx=>(hs x hx).w⟩,?_⟩
   rw [jhz];simp only [jd,e1,c1,hlt,jM,j4]
omit hb in
theorem juz (l:List Int) (x:Int):jW (l.map ci) [[vi x]]=(l++[x]).map ci:=by rw [zy];rfl
omit hb in
theorem jD5 (l:List Int) (h:0 < l.length) (x:Int):qg (l.map ci) 0 (yO (ci l[0]) 0 [vi x])=(l.set 0 x).map ci:=by unfold qg;rw [jct];rfl
omit hb in
theorem jDj (l:List Int) (h:0 < l.length):jac (l.map ci) 0=some (ci l[0]):=by simp [jac,h]
omit hb in
theorem jau {axs:List kh} {sts:List Stp} (hax:axs.length<=6) (hst:sts.length<=30) (hcq:∀c∈axs,Cq c) (hs:∀s∈sts,Sq s) {s:Stp} (hw:Sw s) (k:Nat) (a' s':Int) {o:Option Out} (h:o=some (.top,[zq code,vi a',vu s',.sl 1 (axs.map QD),.sl 4 ((sts.set k s).map stc)])):AyD code o:=
 ⟨a',s',⟨axs,sts.set k s⟩,⟨by show axs.length<=10;omega,by show (sts.set k s).length<=100;rw [jkm];omega,hcq,jG6 hs hw⟩,h⟩
theorem jo0 (a s:Int) (h0:0<=a) (h1:a<=999000000):AyD code (jxF (zq code) (vi a) (vu s)):=by
 obtain ⟨a1,s1,⟨axs,sts⟩,q1,q2,⟨l1,l2,l3,l4,l5⟩,e1⟩:=jAT hb a s h0 (by omega);have l1:axs.length<=5:=l1;have l2:1<=sts.length:=l2;have l3:sts.length<=30:=l3;have l4:∀c∈axs,Cq c:=l4;have l5:∀s∈sts,Sq s:=l5;have e1:jtX (zq code) (vi a) (vu s)=some (.top,[zq code,vi a1,vu s1,.sl 1 (axs.map QD),.sl 4 (sts.map stc)]):=e1;have rl:zU (sts.map stc)=vi ((sts.length:Nat):Int):=by rw [KZ,kj]
 obtain ⟨a2,s2,y,q3,q4,y0,y1,e2⟩:=zX hb ((sts.length:Nat):Int) (by omega) (by omega) a1 s1 (by omega) (by omega);obtain ⟨k,rfl⟩:∃k:Nat,y=(k:Nat):=⟨y.toNat,by omega⟩;have hk:k < sts.length:=by omega
 have i1:Zf sts.length (vi ((k:Nat):Int))=some k:=zz hk;have i2:=jA8 (xs:=sts) hk;obtain ⟨g1,g2⟩:=jG7 sts k hk;have hq:=l5 _ (jC hk);generalize sts[k]=q at i2 g1 hq;have o1:=jvk q hq;obtain ⟨p1,p2,p3,p4⟩:=hq;obtain ⟨a3,s3,z,q5,q6,z0,z1,e3⟩:=zX hb 20 (by decide) (by decide) a2 s2 (by omega) (by omega);have fin0:=jau (code:=code) (axs:=axs) (by omega) l3 l4 l5 (s:=q) ⟨by omega,by omega,p3,p4⟩ k;rw [jHN];by_cases hz0:z=0
 ·have hz0:(z=0)=True:=yC hz0;obtain ⟨a4,s4,x,u1,u2,x0,x1,e4⟩:=zX hb 8 (by decide) (by decide) a3 s3 (by omega) (by omega);refine jau (by omega) l3 l4 l5 (s:=⟨x,q.par,q.whr,q.cls⟩) ⟨by show q.par.length<=70;omega,by show q.whr.length<=70;omega,p3,p4⟩ k a4 s4 ?_;have e9:qg (sts.map stc) k (yO (stc q) 0 [vi x,.sl 1 (q.par.map ci),.sl 1 (q.whr.map ci),.sl 3 (q.cls.map jG)])=(sts.set k ⟨x,q.par,q.whr,q.cls⟩).map stc:=g2 q ⟨x,q.par,q.whr,q.cls⟩;simp only [jd,e1,ja7,jdk,rl,e2,i1,i2,o1,Q1,e3,hz0,e4,g1,e9,jM,j4]
 have hz0:(z=0)=False:=ke hz0;by_cases hz1:z=1
 ·have hz1:(z=1)=True:=yC hz1;have c0:ck (((k:Nat):Int)+2)=some (vi (((k:Nat):Int)+2)):=jE (by omega) (by omega);obtain ⟨a4,s4,x,u1,u2,x0,x1,e4⟩:=zX hb (((k:Nat):Int)+2) (by omega) (by omega) a3 s3 (by omega) (by omega);have c1:ck (x - 1)=some (vi (x - 1)):=jE (by omega) (by omega);have hf:jA (q.par.length+1) 8=true:=jGR (by omega);refine jau (by omega) l3 l4 l5 (s:=⟨q.rule,q.par++[x - 1],q.whr,q.cls⟩) ⟨by show (q.par++[x - 1]).length<=70;rw [zh,qm];omega,by show q.whr.length<=70;omega,p3,p4⟩ k a4 s4 ?_;have e8:=juz q.par (x - 1);have e9:qg (sts.map stc) k (yO (stc q) 0 [vi q.rule,.sl 1 ((q.par++[x - 1]).map ci),.sl 1 (q.whr.map ci),.sl 3 (q.cls.map jG)])=(sts.set k ⟨q.rule,q.par++[x - 1],q.whr,q.cls⟩).map stc:=g2 q ⟨q.rule,q.par++[x - 1],q.whr,q.cls⟩;rw [<-e8] at e9;generalize sts.set k _=S at *;simp only [jd,e1,ja7,jdk,rl,e2,i1,i2,o1,Q1,e3,hz0,hz1,c0,e4,c1,hf,g1,e9,jM,j4]
 have hz1:(z=1)=False:=ke hz1;by_cases hz2:z=2
 ·have hz2:(z=2)=True:=yC hz2;obtain ⟨a4,s4,x,u1,u2,x0,x1,e4⟩:=zX hb 3 (by decide) (by decide) a3 s3 (by omega) (by omega);have c1:ck (x - 1)=some (vi (x - 1)):=jE (by omega) (by omega);have hf:jA (q.whr.length+1) 8=true:=jGR (by omega);refine jau (by omega) l3 l4 l5 (s:=⟨q.rule,q.par,q.whr++[x - 1],q.cls⟩) ⟨by show q.par.length<=70;omega,by show (q.whr++[x - 1]).length<=70;rw [zh,qm];omega,λw hw=>by
   have hw:w∈q.whr++[x - 1]:=hw;rcases kZ.1 hw with hw|hw
   ·exact p3 w hw
   ·rw [ku.1 hw];unfold I64;omega,p4⟩ k a4 s4 ?_
  have e8:=juz q.whr (x - 1);have e9:qg (sts.map stc) k (yO (stc q) 0 [vi q.rule,.sl 1 (q.par.map ci),.sl 1 ((q.whr++[x - 1]).map ci),.sl 3 (q.cls.map jG)])=(sts.set k ⟨q.rule,q.par,q.whr++[x - 1],q.cls⟩).map stc:=g2 q ⟨q.rule,q.par,q.whr++[x - 1],q.cls⟩;rw [<-e8] at e9;generalize sts.set k _=S at *;simp only [jd,e1,ja7,jdk,rl,e2,i1,i2,o1,Q1,e3,hz0,hz1,hz2,e4,c1,hf,g1,e9,jM,j4]
 have hz2:(z=2)=False:=ke hz2;by_cases hz3:z=3
 ·have hz3:(z=3)=True:=yC hz3;obtain ⟨a4,s4,c,u1,u2,u3,e4⟩:=QB hb a3 s3 (by omega) (by omega);refine jau (by omega) l3 l4 l5 (s:=⟨q.rule,q.par,q.whr,c⟩) ⟨by show q.par.length<=70;omega,by show q.whr.length<=70;omega,p3,u3⟩ k a4 s4 ?_;have e9:qg (sts.map stc) k (yO (stc q) 0 [vi q.rule,.sl 1 (q.par.map ci),.sl 1 (q.whr.map ci),.sl 3 (c.map jG)])=(sts.set k ⟨q.rule,q.par,q.whr,c⟩).map stc:=g2 q ⟨q.rule,q.par,q.whr,c⟩;have pc:jaO 1 (cm c)=some [.sl 3 (c.map jG)]:=rfl;have cg:jb [A.sl 3 (c.map jG)] 0 = .sl 3 (c.map jG):=rfl;simp only [jd,e1,ja7,jdk,rl,e2,i1,i2,o1,Q1,e3,hz0,hz1,hz2,hz3,e4,pc,cg,g1,e9,jM,j4]
 have hz3:(z=3)=False:=ke hz3;have e9:qg (sts.map stc) k (yO (stc q) 0 [vi q.rule,.sl 1 (q.par.map ci),.sl 1 (q.whr.map ci),.sl 3 (q.cls.map jG)])=(sts.set k q).map stc:=g2 q q;by_cases hz4:z=4
 ·have hz4:(z=4)=True:=yC hz4;by_cases hw:(0:Int) < ((q.whr.length:Nat):Int)
  ·obtain ⟨a4,s4,x,u1,u2,x0,x1,e4⟩:=zX hb 5 (by decide) (by decide) a3 s3 (by omega) (by omega);have c1:ck (x - 1)=some (vi (x - 1)):=jE (by omega) (by omega);have w0:Zf q.whr.length (vi 0)=some 0:=zz (i:=0) (by omega);have w1:=jDj q.whr (by omega);have w2:=jD5 q.whr (by omega) (x - 1);refine jau (by omega) l3 l4 l5 (s:=⟨q.rule,q.par,q.whr.set 0 (x - 1),q.cls⟩) ⟨by show q.par.length<=70;omega,by show (q.whr.set 0 (x - 1)).length<=70;rw [jkm];omega,λw hw=>by
    have hw:w∈q.whr.set 0 (x - 1):=hw;rcases jmh hw with hw|hw
    ·exact p3 w hw
    ·rw [hw];unfold I64;omega,p4⟩ k a4 s4 ?_
   have e9:qg (sts.map stc) k (yO (stc q) 0 [vi q.rule,.sl 1 (q.par.map ci),.sl 1 ((q.whr.set 0 (x - 1)).map ci),.sl 3 (q.cls.map jG)])=(sts.set k ⟨q.rule,q.par,q.whr.set 0 (x - 1),q.cls⟩).map stc:=g2 q ⟨q.rule,q.par,q.whr.set 0 (x - 1),q.cls⟩;rw [<-w2] at e9;generalize sts.set k _=S at *;generalize ci q.whr[0]=W at *;simp only [jd,e1,ja7,jdk,rl,e2,i1,i2,o1,Q1,e3,hz0,hz1,hz2,hz3,hz4,hw,e4,c1,w0,w1,g1,e9,jM,j4]
  ·refine fin0 a3 s3 ?_;simp only [jd,e1,ja7,jdk,rl,e2,i1,i2,o1,Q1,e3,hz0,hz1,hz2,hz3,hz4,hw,g1,e9,jM,j4]
 have hz4:(z=4)=False:=ke hz4;by_cases hz5:z=5
 ·have hz5:(z=5)=True:=yC hz5;obtain ⟨a4,s4,c,u1,u2,u3,e4⟩:=jde hb a3 s3 (by omega) (by omega);have hf:jA (axs.length+1) 24=true:=jFk (by omega);refine jau (axs:=axs++[c]) (by rw [zh,qm];omega) l3 (jym l4 u3) l5 (s:=q) ⟨by omega,by omega,p3,p4⟩ k a4 s4 ?_;have e8:=jxV axs c;have pc:jaO 1 (cm c)=some [.sl 3 (c.map jG)]:=rfl;have cg:jb [A.sl 3 (c.map jG)] 0 = .sl 3 (c.map jG):=rfl;generalize sts.set k _=S at *;generalize axs++[c]=B at *;simp only [jd,e1,ja7,jdk,rl,e2,i1,i2,o1,Q1,e3,hz0,hz1,hz2,hz3,hz4,hz5,e4,pc,cg,hf,e8,g1,e9,jM,j4]
 have hz5:(z=5)=False:=ke hz5;by_cases hz6:z=6
 ·have hz6:(z=6)=True:=yC hz6;have e8:jms (zq code) (vi a3) (vu s3) (axs.map QD) (sts.map stc) [] []=jec (zq code) (vi a3) (vu s3) [] [] (axs.map QD) (sts.map stc):=by
   rw [jDq,jhz]
  obtain ⟨a4,s4,p,u1,e4⟩:=jwa hb l1 l4 62 sts (by omega) (by omega) l2 l5 a3 s3 (by omega) (by omega);refine ⟨a4,s4,p,u1,?_⟩;simp only [jd,e1,ja7,jdk,rl,e2,i1,i2,o1,Q1,e3,hz0,hz1,hz2,hz3,hz4,hz5,hz6,e8,e4,jM,j4]
 ·have hz6:(z=6)=False:=ke hz6;refine fin0 a3 s3 ?_;simp only [jd,e1,ja7,jdk,rl,e2,i1,i2,o1,Q1,e3,hz0,hz1,hz2,hz3,hz4,hz5,hz6,g1,e9,jM,j4]
theorem jnk:∃p,AnP p/\G 5 [zq code]=some (prm p,[]):=by
 obtain ⟨a1,s1,p,hp,e1⟩:=jo0 hb 0 0 (by decide) (by decide);have okb:jI (zq code)=true:=rfl;refine ⟨p,hp,?_⟩;rw [g5];simp only [jd,okb,e1,ja7,jdk,jM,j4]
end
end Go.Proofs.YtbgikpffkgjecaaGreatDoor
