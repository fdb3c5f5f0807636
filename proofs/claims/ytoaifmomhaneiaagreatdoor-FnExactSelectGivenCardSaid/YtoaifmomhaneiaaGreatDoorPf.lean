/- Pf -/
import Derived.Test.YtoaifmomhaneiaaGreatDoorPe
import Derived.Test.YtoaifmomhaneiaaGreatDoorPd
namespace Go.Proofs.YtoaifmomhaneiaaGreatDoor
open Go Go.RowKit Go.Proofs.YtoaifmomhaneiaaGreatDoor.Abs
set_option linter.unusedSimpArgs false
set_option linter.unusedVariables false
set_option maxHeartbeats 1000000
theorem jxx (a b c d e f:A):Jo [a,b,c] 0 [d,e,f] = [d,e,f]:=rfl
theorem jxy (a b c d e f g h:A):Jo [a,b,c,d] 0 [e,f,g,h] = [e,f,g,h]:=rfl
theorem jCK (a b c d e:A) (l:List A):jb (a::b::c::d::e::l) 4=e:=rfl
theorem jg3 (l:Lt):ky 3 (.elt (j8 l) 0)=some (ltm l):=rfl
theorem JK (c:zg):ky 1 (.elt (clc c) 0)=some (cm c):=rfl
theorem qI (s:Stp):ky 4 (.elt (stc s) 0)=some (stm s):=rfl
def lsz:zg->Nat
 | []=>0
 | l::c=>tsz l.2+lsz c
def csz (c:zg):Nat:=c.length+lsz c
def jgK:List zg->Nat
 | []=>0
 | c::l=>csz c+jgK l
def ssz (s:Stp):Nat:=s.par.length+s.whr.length+csz s.cls
def jhd:List Stp->Nat
 | []=>0
 | s::l=>ssz s+jhd l
def psz (p:Prf):Nat:=(p.ax.length+jgK p.ax)+(p.st.length+jhd p.st)
def jh6 (s:Sch):Nat:=psz s.prf+s.act.length+s.pas.length
theorem joJ:∀ {c:zg} {l:Lt},l∈c->tsz l.2<=lsz c
 | x::c,l,h=>by
  simp only [lsz];rcases kW.1 h with rfl|h
  .omega
  .have:=joJ h;omega
theorem jjn:∀ {l:List zg} {c:zg},c∈l->csz c<=jgK l
 | x::c,l,h=>by
  simp only [jgK];rcases kW.1 h with rfl|h
  .omega
  .have:=jjn h;omega
theorem jdv:∀ {l:List Stp} {s:Stp},s∈l->ssz s<=jhd l
 | x::c,l,h=>by
  simp only [jhd];rcases kW.1 h with rfl|h
  .omega
  .have:=jdv h;omega
theorem jEZ (l:Lt) (hw:JO l.2) (left:Int) (h0:0<=left) (h1:left<=1048576):G 136 [ltm l,vi left]=some (vi (ko left ((tsz l.2:Nat):Int)),[]):=by
 have e1:=jCs l.2 hw left h0 h1;rw [jKC];by_cases h:ko left ((tsz l.2:Nat):Int) < 0
 .have:ko left ((tsz l.2:Nat):Int) = -1:=by have:=jaS left (tsz l.2:Nat);omega
  simp only [jd,e1,h,this]
 .simp only [jd,e1,h]
theorem jE1 (l:Lt) (hz:tsz l.2<=1048576):G 146 [ltm l]=some (ltm l,[]):=by
 have e1:=jCw l.2 hz;rw [jKJ];simp only [jd,e1]
theorem jEc (l:Lt) (hw:JO l.2):G 158 [ltm l,ltm l]=some (vb true,[]):=by
 have e1:=jBv l.2 hw;rw [jKU];cases l.1<;>simp only [jd,e1]
theorem jCq (l:List Lt) (hl:l.length<=9223372036854775807) (ih:∀t∈l,∀left:Int,0<=left->left<=1048576->G 136 [ltm t,vi left]=some (vi (ko left ((tsz t.2:Nat):Int)),[]))
  (left:Int) (h0:0<=left) (h1:left<=1048576):G 97 [.sl 3 (l.map j8),vi left]=some (vi (ko left ((l.length+lsz l:Nat):Int)),[]):=by
 have loop:∀(a:Int),0<=a->a<=1048576->jpG (.sl 3 (l.map j8)) (vi a) (vi 0)=some (vi (ko a (lsz l)),[]):=by
  have key:=(upto (P:=λi=>∀a:Int,0<=a->a<=1048576->jpG (.sl 3 (l.map j8)) (vi a) (vi i)=some (vi (ko a (lsz (l.drop i))),[])) (n:=l.length) ?_ ?_ 0 (jD _))
  .simp only [kg,jP] at key;exact key
  .intro b hb hb';rw [jDc,j6];simp only [jd,lsz];rw [jbH hb]
  .intro i hi ih' b hb hb';have e1:=ih l[i] (jo _) b hb hb';rw [jDc,jh hi];simp only [jd,hi,QP,ja hi,jg3,e1,jm hi hl,lsz];by_cases hc:b < (tsz l[i].2:Nat)
   .rw [yn hc,yn (by omega)];rfl
   .have hp:=Ko (jge.1 hc);have ih':=ih' (ko b (tsz l[i].2:Nat)) (by omega) (by omega);have hn:¬ko b ((tsz l[i].2:Nat):Int) < 0:=by omega
    simp only [jd,hn,ih'];rw [jaR (jge.1 hc),<-jdI]
 have hk:=jgJ h0 (jgf h1 (by decide)) hl;rw [g97];simp only [jd,hk];by_cases hc:left - l.length < 0
 .simp only [jd,hc];rw [yn (by omega)]
 .have hl:=loop (left - l.length) (by omega) (by omega);simp only [jd,hc,hl];rw [YC,<-jdI]
theorem jCu (l:List Lt) (hl:l.length<=1048576) (ih:∀t∈l,G 146 [ltm t]=some (ltm t,[])):G 106 [.sl 3 (l.map j8)]=some (.sl 3 (l.map j8),[]):=by
 have key:=(upto (P:=λi=>jnc (.sl 3 (l.map j8)) (vi i) (part j8 [vb false,sv [],.sl 2 []] l i)=some (.sl 3 (l.map j8),[])) (n:=l.length) ?_ ?_ 0 (jD _))
 .rw [jKr];have hm:=Jg (b:=48) (n:=l.length) (by omega) hl;simp only [jP,<-Zj] at key;simp only [jd,hm,key]
 .rw [jyg,Y1];simp only [jd]
 .intro i hi ih';have h1:=Js (f:=j8) (z:=[vb false,sv [],.sl 2 []]) (ZQ hi);have h2:QI (part j8 [vb false,sv [],.sl 2 []] l i).length (vi i)=some i:=yp (by omega);have h4:=Y3 (f:=j8) (z:=[vb false,sv [],.sl 2 []]) hi;have h5:=jm hi (ZR hl (by decide));have e1:=ih l[i] (jo _);rw [jyg];simp only [jd,hi,QP,ja hi,jg3,e1,h2,Y2 hi,jxx,h4,h5,ih']
theorem jBt (l:List Lt) (hl:l.length<=9223372036854775807) (ih:∀t∈l,G 158 [ltm t,ltm t]=some (vb true,[])):G 120 [.sl 3 (l.map j8),.sl 3 (l.map j8)]=some (vb true,[]):=by
 have key:=(upto (P:=λi=>jnf (.sl 3 (l.map j8)) (.sl 3 (l.map j8)) (vi i)=some (vb true,[])) (n:=l.length) ?_ ?_ 0 (jD _))
 .rw [jKz];simp only [jP] at key;simp only [jd,key]
 .rw [jyl];simp only [jd]
 .intro i hi ih';have h5:=jm hi hl;have e1:=ih l[i] (jo _);rw [jyl];simp only [jd,hi,QP,ja hi,jg3,e1,h5,ih']
theorem jAK (c:zg) (hw:cwf c) (left:Int) (h0:0<=left) (h1:left<=1048576):G 72 [cm c,vi left]=some (vi (ko left ((csz c:Nat):Int)),[]):=by
 have e1:G 97 [.sl 3 (c.map j8),vi left]=some (vi (ko left ((csz c:Nat):Int)),[]):=jCq c hw.2 (λl hl=>jEZ l (hw.1 l hl)) left h0 h1;rw [g72];by_cases h:ko left ((csz c:Nat):Int) < 0
 .have:ko left ((csz c:Nat):Int) = -1:=by have:=jaS left (csz c:Nat);omega
  simp only [jd,e1,h,this]
 .simp only [jd,e1,h]
theorem jAN (c:zg) (hz:csz c<=1048576):G 77 [cm c]=some (cm c,[]):=by
 unfold csz at hz;have e1:=jCu c (by omega) λl hl=>jE1 l (by have:=joJ hl;omega);rw [g77];simp only [jd,e1]
theorem jxS (c:zg) (hw:cwf c):G 84 [cm c,cm c]=some (vb true,[]):=by
 have e1:=jBt c hw.2 λl hl=>jEc l (hw.1 l hl);rw [g84];simp only [jd,e1]
theorem jCp (l:List zg) (hl:l.length<=9223372036854775807) (ih:∀t∈l,∀left:Int,0<=left->left<=1048576->G 72 [cm t,vi left]=some (vi (ko left ((csz t:Nat):Int)),[]))
  (left:Int) (h0:0<=left) (h1:left<=1048576):G 40 [.sl 1 (l.map clc),vi left]=some (vi (ko left ((l.length+jgK l:Nat):Int)),[]):=by
 have loop:∀(a:Int),0<=a->a<=1048576->jpB (.sl 1 (l.map clc)) (vi a) (vi 0)=some (vi (ko a (jgK l)),[]):=by
  have key:=(upto (P:=λi=>∀a:Int,0<=a->a<=1048576->jpB (.sl 1 (l.map clc)) (vi a) (vi i)=some (vi (ko a (jgK (l.drop i))),[])) (n:=l.length) ?_ ?_ 0 (jD _))
  .simp only [kg,jP] at key;exact key
  .intro b hb hb';rw [jCU,j6];simp only [jd,jgK];rw [jbH hb]
  .intro i hi ih' b hb hb';have e1:=ih l[i] (jo _) b hb hb';rw [jCU,jh hi];simp only [jd,hi,QP,ja hi,JK,e1,jm hi hl,jgK];by_cases hc:b < (csz l[i]:Nat)
   .rw [yn hc,yn (by omega)];rfl
   .have hp:=Ko (jge.1 hc);have ih':=ih' (ko b (csz l[i]:Nat)) (by omega) (by omega);have hn:¬ko b ((csz l[i]:Nat):Int) < 0:=by omega
    simp only [jd,hn,ih'];rw [jaR (jge.1 hc),<-jdI]
 have hk:=jgJ h0 (jgf h1 (by decide)) hl;rw [g40];simp only [jd,hk];by_cases hc:left - l.length < 0
 .simp only [jd,hc];rw [yn (by omega)]
 .have hl:=loop (left - l.length) (by omega) (by omega);simp only [jd,hc,hl];rw [YC,<-jdI]
theorem jCt (l:List zg) (hl:l.length<=1048576) (ih:∀t∈l,G 77 [cm t]=some (cm t,[])):G 45 [.sl 1 (l.map clc)]=some (.sl 1 (l.map clc),[]):=by
 have key:=(upto (P:=λi=>jub (.sl 1 (l.map clc)) (vi i) (part clc [.sl 3 []] l i)=some (.sl 1 (l.map clc),[])) (n:=l.length) ?_ ?_ 0 (jD _))
 .rw [g45];have hm:=Jg (b:=24) (n:=l.length) (by omega) hl;simp only [jP,<-Zj] at key;simp only [jd,hm,key]
 .rw [jCX,Y1];simp only [jd]
 .intro i hi ih';have h1:=Js (f:=clc) (z:=[.sl 3 []]) (ZQ hi);have h2:QI (part clc [.sl 3 []] l i).length (vi i)=some i:=yp (by omega);have h4:=Y3 (f:=clc) (z:=[.sl 3 []]) hi;have h5:=jm hi (ZR hl (by decide));have e1:=ih l[i] (jo _);rw [jCX];simp only [jd,hi,QP,ja hi,JK,e1,h2,Y2 hi,juv,h4,h5,ih']
theorem jBs (l:List zg) (hl:l.length<=9223372036854775807) (ih:∀t∈l,G 84 [cm t,cm t]=some (vb true,[])):G 50 [.sl 1 (l.map clc),.sl 1 (l.map clc)]=some (vb true,[]):=by
 have key:=(upto (P:=λi=>jud (.sl 1 (l.map clc)) (.sl 1 (l.map clc)) (vi i)=some (vb true,[])) (n:=l.length) ?_ ?_ 0 (jD _))
 .rw [g50];simp only [jP] at key;simp only [jd,key]
 .rw [jCZ];simp only [jd]
 .intro i hi ih';have h5:=jm hi hl;have e1:=ih l[i] (jo _);rw [jCZ];simp only [jd,hi,QP,ja hi,JK,e1,h5,ih']
theorem YV {left:Int} {m n:Nat} (h1:left<=1048576) (h:¬ko left (m:Int) < 0):ko (ko left (m:Int)) (n:Int)=ko left ((m+n:Nat):Int)/\0<=ko left (m:Int)/\ko left (m:Int)<=1048576:=by
 have hm:(m:Int)<=left:=by
  refine jge.1 λhc=>h ?_;rw [yn hc];decide
 have:=Ko hm;refine ⟨?_,by omega,by omega⟩;rw [jaR hm,<-jdI]
theorem jdc {left:Int} {m n:Nat} (h:ko left (m:Int) < 0):ko left ((m+n:Nat):Int) = -1:=by
 have:left < m:=by
  refine Int.not_le.1 λhc=> ?_;rw [Ko hc] at h;omega
 exact yn (by omega)
theorem jCr (s:Stp) (hw:swf s) (left:Int) (h0:0<=left) (h1:left<=1048576):G 73 [stm s,vi left]=some (vi (ko left ((ssz s:Nat):Int)),[]):=by
 have e1:=jiG s.par hw.2.1.2 left h0 h1;rw [g73];unfold ssz;by_cases c1:ko left ((s.par.length:Nat):Int) < 0
 .rw [ja9,jdc c1];simp only [jd,e1,c1]
 .obtain ⟨d1,d2,d3⟩:=YV (n:=s.whr.length) h1 c1;have e2:=jiG s.whr hw.2.2.1.2 _ d2 d3;rw [d1] at e2;by_cases c2:ko left ((s.par.length+s.whr.length:Nat):Int) < 0
  .rw [jdc c2];simp only [jd,e1,c1,e2,c2]
  .obtain ⟨d4,d5,d6⟩:=YV (n:=csz s.cls) h1 c2;have e3:=jAK s.cls hw.2.2.2 _ d5 d6;rw [d4] at e3;by_cases c3:ko left ((s.par.length+s.whr.length+csz s.cls:Nat):Int) < 0
   .have:ko left ((s.par.length+s.whr.length+csz s.cls:Nat):Int) = -1:=by have:=jaS left (s.par.length+s.whr.length+csz s.cls:Nat);omega
    simp only [jd,e1,c1,e2,c2,e3,c3,this]
   .simp only [jd,e1,c1,e2,c2,e3,c3]
theorem jCv (s:Stp) (hz:ssz s<=1048576):G 78 [stm s]=some (stm s,[]):=by
 unfold ssz at hz;have e1:=jiJ s.par (by omega);have e2:=jiJ s.whr (by omega);have e3:=jAN s.cls (by omega);rw [g78];simp only [jd,e1,e2,e3]
theorem jBu (s:Stp) (hw:swf s):G 85 [stm s,stm s]=some (vb true,[]):=by
 have e1:=jit s.par hw.2.1.2;have e2:=jit s.whr hw.2.2.1.2;have e3:=jxS s.cls hw.2.2.2;rw [g85];simp only [jd,e1,e2,e3]
theorem jAL (l:List Stp) (hl:l.length<=9223372036854775807) (ih:∀t∈l,∀left:Int,0<=left->left<=1048576->G 73 [stm t,vi left]=some (vi (ko left ((ssz t:Nat):Int)),[]))
  (left:Int) (h0:0<=left) (h1:left<=1048576):G 41 [.sl 4 (l.map stc),vi left]=some (vi (ko left ((l.length+jhd l:Nat):Int)),[]):=by
 have loop:∀(a:Int),0<=a->a<=1048576->jpC (.sl 4 (l.map stc)) (vi a) (vi 0)=some (vi (ko a (jhd l)),[]):=by
  have key:=(upto (P:=λi=>∀a:Int,0<=a->a<=1048576->jpC (.sl 4 (l.map stc)) (vi a) (vi i)=some (vi (ko a (jhd (l.drop i))),[])) (n:=l.length) ?_ ?_ 0 (jD _))
  .simp only [kg,jP] at key;exact key
  .intro b hb hb';rw [jCV,j6];simp only [jd,jhd];rw [jbH hb]
  .intro i hi ih' b hb hb';have e1:=ih l[i] (jo _) b hb hb';rw [jCV,jh hi];simp only [jd,hi,QP,ja hi,qI,e1,jm hi hl,jhd];by_cases hc:b < (ssz l[i]:Nat)
   .rw [yn hc,yn (by omega)];rfl
   .have hp:=Ko (jge.1 hc);have ih':=ih' (ko b (ssz l[i]:Nat)) (by omega) (by omega);have hn:¬ko b ((ssz l[i]:Nat):Int) < 0:=by omega
    simp only [jd,hn,ih'];rw [jaR (jge.1 hc),<-jdI]
 have hk:=jgJ h0 (jgf h1 (by decide)) hl;rw [g41];simp only [jd,hk];by_cases hc:left - l.length < 0
 .simp only [jd,hc];rw [yn (by omega)]
 .have hl:=loop (left - l.length) (by omega) (by omega);simp only [jd,hc,hl];rw [YC,<-jdI]
theorem jAO (l:List Stp) (hl:l.length<=1048576) (ih:∀t∈l,G 78 [stm t]=some (stm t,[])):G 46 [.sl 4 (l.map stc)]=some (.sl 4 (l.map stc),[]):=by
 have key:=(upto (P:=λi=>juc (.sl 4 (l.map stc)) (vi i) (part stc [vi 0,.sl 1 [],.sl 1 [],.sl 3 []] l i)=some (.sl 4 (l.map stc),[])) (n:=l.length) ?_ ?_ 0 (jD _))
 .rw [g46];have hm:=Jg (b:=80) (n:=l.length) (by omega) hl;simp only [jP,<-Zj] at key;simp only [jd,hm,key]
 .rw [jCY,Y1];simp only [jd]
 .intro i hi ih';have h1:=Js (f:=stc) (z:=[vi 0,.sl 1 [],.sl 1 [],.sl 3 []]) (ZQ hi);have h2:QI (part stc [vi 0,.sl 1 [],.sl 1 [],.sl 3 []] l i).length (vi i)=some i:=yp (by omega);have h4:=Y3 (f:=stc) (z:=[vi 0,.sl 1 [],.sl 1 [],.sl 3 []]) hi;have h5:=jm hi (ZR hl (by decide));have e1:=ih l[i] (jo _);rw [jCY];simp only [jd,hi,QP,ja hi,qI,e1,h2,Y2 hi,jxy,h4,h5,ih']
theorem jxT (l:List Stp) (hl:l.length<=9223372036854775807) (ih:∀t∈l,G 85 [stm t,stm t]=some (vb true,[])):G 51 [.sl 4 (l.map stc),.sl 4 (l.map stc)]=some (vb true,[]):=by
 have key:=(upto (P:=λi=>jue (.sl 4 (l.map stc)) (.sl 4 (l.map stc)) (vi i)=some (vb true,[])) (n:=l.length) ?_ ?_ 0 (jD _))
 .rw [g51];simp only [jP] at key;simp only [jd,key]
 .rw [jC0];simp only [jd]
 .intro i hi ih';have h5:=jm hi hl;have e1:=ih l[i] (jo _);rw [jC0];simp only [jd,hi,QP,ja hi,qI,e1,h5,ih']
theorem ja1 (p:Prf) (hw:pwf p) (left:Int) (h0:0<=left) (h1:left<=1048576):G 12 [Yr p,vi left]=some (vi (ko left ((psz p:Nat):Int)),[]):=by
 have e1:=jCp p.ax hw.1.2 (λc hc=>jAK c (hw.1.1 c hc)) left h0 h1;rw [g12];unfold psz;by_cases c1:ko left ((p.ax.length+jgK p.ax:Nat):Int) < 0
 .rw [jdc c1];simp only [jd,e1,c1]
 .obtain ⟨d1,d2,d3⟩:=YV (n:=p.st.length+jhd p.st) h1 c1;have e2:=jAL p.st hw.2.2 (λs hs=>jCr s (hw.2.1 s hs)) _ d2 d3;rw [d1] at e2;by_cases c2:ko left ((p.ax.length+jgK p.ax+(p.st.length+jhd p.st):Nat):Int) < 0
  .have:ko left ((p.ax.length+jgK p.ax+(p.st.length+jhd p.st):Nat):Int) = -1:=by have:=jaS left (p.ax.length+jgK p.ax+(p.st.length+jhd p.st):Nat);omega
   simp only [jd,e1,c1,e2,c2,this]
  .simp only [jd,e1,c1,e2,c2]
theorem ja4 (p:Prf) (hz:psz p<=1048576):G 14 [Yr p]=some (Yr p,[]):=by
 unfold psz at hz;have e1:=jCt p.ax (by omega) λc hc=>jAN c (by have:=jjn hc;omega);have e2:=jAO p.st (by omega) λs hs=>jCv s (by have:=jdv hs;omega);rw [g14];simp only [jd,e1,e2]
theorem jaN (p:Prf) (hw:pwf p):G 16 [Yr p,Yr p]=some (vb true,[]):=by
 have e1:=jBs p.ax hw.1.2 λc hc=>jxS c (hw.1.1 c hc);have e2:=jxT p.st hw.2.2 λs hs=>jBu s (hw.2.1 s hs);rw [g16];simp only [jd,e1,e2]
theorem jmT (s:Sch) (hw:jmJ s) (left:Int) (h0:0<=left) (h1:left<=1048576):G 25 [scm s,vi left]=some (vi (ko left ((jh6 s:Nat):Int)),[]):=by
 have e1:=ja1 s.prf hw.1 left h0 h1;rw [g25];unfold jh6;by_cases c1:ko left ((psz s.prf:Nat):Int) < 0
 .rw [ja9,jdc c1];simp only [jd,e1,c1]
 .obtain ⟨d1,d2,d3⟩:=YV (n:=s.act.length) h1 c1;have e2:=jiG s.act hw.2.1.2 _ d2 d3;rw [d1] at e2;by_cases c2:ko left ((psz s.prf+s.act.length:Nat):Int) < 0
  .rw [jdc c2];simp only [jd,e1,c1,e2,c2]
  .obtain ⟨d4,d5,d6⟩:=YV (n:=s.pas.length) h1 c2;have e3:=jiG s.pas hw.2.2.2 _ d5 d6;rw [d4] at e3;by_cases c3:ko left ((psz s.prf+s.act.length+s.pas.length:Nat):Int) < 0
   .have:ko left ((psz s.prf+s.act.length+s.pas.length:Nat):Int) = -1:=by have:=jaS left (psz s.prf+s.act.length+s.pas.length:Nat);omega
    simp only [jd,e1,c1,e2,c2,e3,c3,this]
   .simp only [jd,e1,c1,e2,c2,e3,c3]
theorem jmU (s:Sch) (hz:jh6 s<=1048576):G 27 [scm s]=some (scm s,[]):=by
 unfold jh6 at hz;have e1:=ja4 s.prf (by omega);have e2:=jiJ s.act (by omega);have e3:=jiJ s.pas (by omega);rw [g27];simp only [jd,jCK,e1,e2,e3]
theorem jlV (s:Sch) (hw:jmJ s):G 29 [scm s,scm s]=some (vb true,[]):=by
 have e1:=jaN s.prf hw.1;have e2:=jit s.act hw.2.1.2;have e3:=jit s.pas hw.2.2.2;rw [g29];cases s.lost<;>simp only [jd,jCK,e1,e2,e3]
theorem jlL (d:zg) (h:jX d=true):G 189 [cm d]=some (cm (jY d),[]):=by
 obtain ⟨hc,_,_,hnm⟩:=kL h;have hl:=Ke hc;have e1:=jml d hc;have e2:=jen 89 d hc (zi d) (λn=>jeQ) (hc.ren_tz (by decide));have e2:G 235 [cm d,.mp ((K3 89 0 (zi d)).map kn)]=some (cm (jY d),[]):=by rw [e2,<-apart_eq h];rfl
 have hnd:=jbJ d;have hnum:∀i (hi:i < (zi d).length),(zi d)[i]=J1 88 i:=λi hi=>by
  obtain ⟨j,hj,e,e'⟩:=jeS hnm (jo hi);rw [jlQ hnd hi] at e';rw [e,jzT e']
 generalize zi d=ns at *;have key:=upto (P:=λi=>∀m:Nm',(∀n∈ns.drop i,yN m n=none)->m++K3 89 i (ns.drop i)=K3 89 0 ns->jnr (strs ns) (vi (ns.length:Nat)) (vi (i:Nat)) (.sl 3 (d.map j8)) (m.map kn) []=some (cm (jY d),[])) (n:=ns.length) ?_ ?_ 0 (jD _) [] (λn _=>rfl) (by rw [kg];rfl)
 .simp only [jP,ye] at key;rw [jLf];simp only [jd,e1,key]
 .intro m _ hm;rw [j6,K3,JD] at hm;subst hm;rw [jyG];simp only [jd,e2]
 .intro i hi ih m hm hp;have hlt:(i:Int) < ((ns.length:Nat):Int):=by omega
  have h5:=jm hi (by show ns.length<=9223372036854775807;omega)
  have ld:kq (.elt (cs ns[i]) 0)=some (sv ns[i]):=rfl;have hd:(ns.drop i).Nodup:=hnd.sublist (List.drop_sublist i ns);rw [jh hi] at hm hd hp;have pt:=jDj (hm ns[i] (jba ..)) (J1 89 i);have e3:Yq (sv ns[i]) (some (vi 1)) none=some (sv (Lib.decDigits i)):=by
   rw [hnum i hi];have hlen:(J1 88 i).length=(Lib.decDigits i).length+1:=rfl;show (if (0:Int)<=1/\(1:Int)<=(((J1 88 i).length:Nat):Int)/\(((J1 88 i).length:Nat):Int)<=(((J1 88 i).length:Nat):Int) then some (sv (((J1 88 i).take ((((J1 88 i).length:Nat):Int).toNat)).drop 1)) else none)=_;rw [jp ⟨by omega,by omega,by omega⟩,jgg,jgk];rfl
  have e4:=jEE 89 i (by omega);have ih:=ih (m++[(ns[i],J1 89 i)]) (λn hn'=>by
   rw [jgS,hm n (JE _ hn')];show (if ns[i]=n then _ else none)=none;rw [jq];rintro e;exact (jho.1 hd).1 (e ▸ hn')) (by rw [yf];exact hp)
  rw [jyG];simp only [jd,hlt,ja hi,ld,e3,e4,pt,h5,ih]
theorem jgF (d:zg) (h:jX d=true):G 171 [cm d]=some (cm (jY d),[]):=by
 obtain ⟨hc,_,_,_⟩:=kL h;have e1:=jmm d hc;have e2:=jhO 89 (by decide) d hc;rw [apart_eq h] at e2;rw [jK1];simp only [jd,e1,e2]
theorem jxB (c:zg) (hl:c.length<=1000):jsA (.sl 3 (c.map j8))=some (.top,[.sl 3 (c.map j8)]):=by
 have e1:jAd (.sl 3 (c.map j8))=some (c.map j8):=rfl;have f:jK c.length 48=true:=jaU (by omega);rw [jDS];cases c with
 | nil=>
  have f0:jK 0 48=true:=jaU (by omega);have hz:nz (z6 [])=true:=rfl;have e1:jAd (.sl 3 [])=some []:=rfl;simp only [jd,e1,hz,f0,ye,jxr]
 | cons l r=>
  have hz:nz (z6 (List.map j8 (l::r)))=false:=rfl;generalize l::r=x at *;simp only [jd,e1,hz,f]
theorem jvE (c:zg) (hl:c.length<=1000) (i:Nat) (hi:i < c.length):jsz (vi (i:Nat)) (vi ((i+1:Nat):Int)) (c.map j8)=some (.top,[.sl 3 ((c.eraseIdx i).map j8)]):=by
 have e1:z6 (c.map j8)=c.length:=qJ j8 c;have e2:zG (c.map j8) 0=c.length:=by rw [qU,jM];rfl
 have hne:¬((i:Nat):Int)=((i+1:Nat):Int):=by omega
 have k1:pB 0 c.length (some (vi (c.length:Nat)))=some c.length:=Jj (kH _);have k2:pB 0 c.length (some (vi ((i+1:Nat):Int)))=some (i+1):=Jj (by omega);have k3:pB 0 (i+1) (some (vi (i:Nat)))=some i:=Jj (by omega);have k4:pB c.length c.length (some (vi (i:Nat)))=some i:=Jj (by omega);have k5:pB c.length c.length none=some c.length:=yj (kH _);have w1:zj (c.map j8) (0+(i+1)) (j5 c.length (i+1))=(c.drop (i+1)).map j8:=by
  rw [jfW,qS,yc,<-jgi,qf (by rw [jM,qR];omega)]
 have w2:z6 ((c.drop (i+1)).map j8)=c.length - (i+1):=by rw [qJ,qR]
 have rm:jrm 0 (j5 i 0) ((c.drop (i+1)).map j8) (c.map j8)=true:=by
  rw [jAb,qS];exact jW (by rw [jM,jM,qR];omega)
 generalize hov:qc (c.map j8) (0+j5 i 0) ((c.drop (i+1)).map j8)=O at *;have hO:O=(c.eraseIdx i).map j8++(c.map j8).drop (c.length - 1):=by
  rw [<-hov,jaX,qS,jeu,yc,List.eraseIdx_eq_take_drop_succ,zV,jev,jM,qR];congr 2;omega
 have hOl:O.length=c.length:=by
  rw [hO,ym,jM,List.length_eraseIdx_of_lt hi,qR,jM];omega
 have k6:pB (j5 i 0+(c.length - (i+1))) (zG O 0) (some (vi (c.length:Nat)))=some c.length:=by
  rw [qU,hOl];exact Jj (by omega)
 have k7:pB 0 c.length (some (nA (j5 i 0+(c.length - (i+1)))))=some (c.length - 1):=by
  rw [qS,show i - 0+(c.length - (i+1))=c.length - 1 by omega];exact Jj (by omega)
 have fin:List.take (j5 i 0+(c.length - (i+1))) (qc O (0+(c.length - 1)) (qV (j5 c.length (c.length - 1)) [vb false,sv [],.sl 2 []]))=(c.eraseIdx i).map j8:=by
  have hlen:((c.eraseIdx i).map j8).length=c.length - 1:=by rw [jM,List.length_eraseIdx_of_lt hi]
  rw [qS,show i - 0+(c.length - (i+1))=c.length - 1 by omega,jaX,yc,yf,jgj (by rw [qe,hOl];omega),List.take_take,Nat.min_self,hO,jgj (by omega),qf (by omega)]
 rw [jDR];simp only [cev];rw [e1,e2,Ys,jM,k1,yz,k2,yz,k3,yz,jrh,kA hne,yz,YX,yz,Yz,k4,yz,k5,yz,k2,yz,w1,rm,jfs,hov,w2,k6,yz,k7,yz,fin]
theorem Zr (c:zg) (hl:c.length<=1000) (i:Nat) (hi:i < c.length):G 192 [cm c,vi (i:Nat)]=some (.sl 3 ((c.eraseIdx i).map j8),[]):=by
 have e1:=jxB c hl;have e2:=jvE c hl i hi;have r1:∀x:zg,hR 3 (A.top,[.sl 3 (x.map j8)]) 0=some (x.map j8):=λx=>rfl;have h5:=jm hi (by show c.length<=9223372036854775807;omega);rw [jLh];simp only [jd,e1,r1,h5,e2]
theorem Ky (c:zg) (hl:c.length<=1000) (i:Nat) (hi:i < c.length):jcw (.sl 3 (c.map j8)) (vi (i:Nat))=some (.top,[.sl 3 ((c.eraseIdx i).map j8)]):=by
 have s1:zS 3 (.sl 3 (c.map j8)) none (some (vi (i:Nat)))=some (.sl 3 ((c.map j8).take i)):=qP (by rw [jM];omega)
 have s2:zS 3 (.sl 3 (c.map j8)) (some (vi ((i+1:Nat):Int))) none=some (.sl 3 ((c.map j8).drop (i+1))):=qt (by rw [jM];omega)
 have hck:ck ((i:Int)+1)=some (vi ((i+1:Nat):Int)):=jZ (by omega) (by omega);have f1:jK ((c.map j8).take i).length 48=true:=jaU (by rw [qe,jM];omega);have f2:jK (((c.map j8).take i).length+((c.map j8).drop (i+1)).length) 48=true:=jaU (by rw [qe,qR,jM];omega);have fin:jU ((c.map j8).take i) ((c.map j8).drop (i+1))=(c.eraseIdx i).map j8:=by
  rw [List.eraseIdx_eq_take_drop_succ,zV,jev,jgi];rfl
 rw [jDN];simp only [jd,s1,s2,hck,f1,f2,fin]
theorem jBB (n:Nat) (hn:n<=1000):jsy (vi (n:Nat))=some (.top,[.sl 3 []]):=by
 have h0:¬((n:Nat):Int) < 0:=by omega
 have c1:ck (0 - 0)=some (vi 0):=jZ (n:=0 - 0) (by omega) (by omega);have c2:ck (((n:Nat):Int) - 0)=some (vi (n:Nat)):=by rw [Int.sub_zero];exact jZ (by omega) (by omega)
 rw [jDQ];by_cases hz:n=0
 .have hz':¬(0:Int) < ((n:Nat):Int):=by omega
  simp only [jd,h0,c1,c2,hz']
 .have hz':(0:Int) < ((n:Nat):Int):=by omega
  have k1:pB 0 0 (some (vi 0))=some 0:=rfl;have k2:=Jg (b:=48) (n:=n) (by omega) (by omega);have k3:jK n 48=true:=jaU (by omega);have k4:∀X:List (List A),pB (z6 X) (zG X 0) (some (vi 0))=some 0:=λX=>Jj (n:=0) (jD _);simp only [jd,h0,c1,c2,hz',k1,k2,k3,k4,qS,Jm];rfl
theorem jlU (ls:List zg) (hn:ls.length<=10) (hl:∀c∈ls,c.length<=50):jgp (ls.map clc)=some (.top,[.sl 3 (ls.flatten.map j8)]):=by
 have r1:∀x:zg,hR 3 (A.top,[.sl 3 (x.map j8)]) 0=some (x.map j8):=λx=>rfl;have rp:∀i,(hi:i < ls.length)->Yb (ls.map clc) i 0=some (.sl 3 (ls[i].map j8)):=λi hi=>by unfold Yb;simp [hi]
 have hix:∀i,i < ls.length->QI ls.length (vi (i:Nat))=some i:=λi hi=>yp hi;have hend:jcG (vi (ls.length:Nat)) (vi 0) [] (ls.map clc)=some (.top,[.sl 3 (ls.flatten.map j8)]):=by
  have key:=upto (P:=λi=>∀R:zg,R.length<=50 * i->R++(ls.drop i).flatten=ls.flatten->jcG (vi (ls.length:Nat)) (vi (i:Nat)) (R.map j8) (ls.map clc)=some (.top,[.sl 3 (ls.flatten.map j8)])) (n:=ls.length) ?_ ?_ 0 (jD _) [] (jD _) (by rw [kg];rfl)
  .exact key
  .intro R _ hR;rw [j6,List.flatten_nil,JD] at hR;rw [jqG,hR];simp only [jd]
  .intro i hi ih R hRl hR;have hlt:(i:Int) < ((ls.length:Nat):Int):=by omega
   have hck:ck ((i:Int)+1)=some (vi ((i+1:Nat):Int)):=jZ (by omega) (by omega);have hc:=hl _ (jo hi);have hf:jK (R.length+ls[i].length) 48=true:=jaU (by omega);have ha:jU (R.map j8) (ls[i].map j8)=(R++ls[i]).map j8:=by rw [zV];rfl
   have:=ih (R++ls[i]) (by rw [ym];omega) (by rw [yf,<-qh,<-jh hi];exact hR)
   rw [jqG];simp only [jd,hlt,hix i hi,rp i hi,hf,ha,hck,this]
 have key:=upto (P:=λi=>∀z:Nat,z<=50 * i->je9 (vi (z:Nat)) (vi (ls.length:Nat)) (vi (i:Nat)) (ls.map clc)=some (.top,[.sl 3 (ls.flatten.map j8)])) (n:=ls.length) ?_ ?_ 0 (jD _) 0 (jD _)
 .rw [jDO,Ys,jM];exact key
 .intro z hz;have e:=jBB z (by omega);have r0:hR 3 (A.top,[.sl 3 []]) 0=some []:=rfl;rw [jqF];simp only [jd,e,r0,hend]
 .intro i hi ih z hz;have hlt:(i:Int) < ((ls.length:Nat):Int):=by omega
  have hck:ck ((i:Int)+1)=some (vi ((i+1:Nat):Int)):=jZ (by omega) (by omega);have hc:=hl _ (jo hi);have c1:ck ((z:Int)+((ls[i].length:Nat):Int))=some (vi ((z+ls[i].length:Nat):Int)):=jZ (by omega) (by omega);have hneg:¬((z+ls[i].length:Nat):Int) < 0:=by omega
  have:=ih (z+ls[i].length) (by omega);rw [jqF];simp only [jd,hlt,hix i hi,rp i hi,c1,hneg,hck,this]
def LN (l:zg):Prop:=l.length<=40/\ ∀x∈l,Bx x.2/\nodes x.2<=100
theorem LN.app {s:jz} (hs:jI s=true) {l:zg} (h:LN l):∀x∈l.map (λx=>(x.1,Go.Proofs.YtoaifmomhaneiaaGreatDoor.sub s x.2)),Bx x.2/\Tz x.2:=λx hx=>by
 obtain ⟨y,hy,rfl⟩:=yP.1 hx;have hb:=(h.2 y hy).1;exact ⟨hb.sub hs,KA.sub_tz hs hb.ax (by have:=(h.2 y hy).2;omega)⟩
theorem jlM {s:jz} {l c:zg} (h:Q9 s l=some c):CN c/\Asc cmpL c:=⟨(KQ (jfl h).1).1,(jfl h).2⟩
theorem jxl (s:jz) (hs:jI s=true) (l:zg) (h:LN l):G 205 [sb s,.sl 3 (l.map j8)]=Zh (Q9 s l):=by
 have hl:=h.1;have happ:=h.app hs;have e1:=jhG (l.map λx=>(x.1,sub s x.2)) (by rw [jM];omega) (λx hx=>(happ x hx).1.rx) λx hx=>(happ x hx).2;have e2:=jqu (qb cmpL (l.map λx=>(x.1,sub s x.2))) (by have:=jgT cmpL (l.map λx=>(x.1,sub s x.2));rw [jM] at this;omega) λx hx=>(happ x (jgU.1 hx)).2;generalize hd:l.map (λx=>(x.1,sub s x.2))=d at *;have hdl:d.length=l.length:=by rw [<-hd,jM]
 have key:=upto (P:=λi=>jnx (.sl 3 (l.map j8)) (vi (l.length:Nat)) (vi (i:Nat)) (Zz s) ((d.take i).map j8) []=Zh (if ((l.drop i).all λx=>jG (sub s x.2)) && qx (qb cmpL d) then some (qb cmpL d) else none)) (n:=l.length) ?_ ?_ 0 (jD _)
 .simp only [jP,Jm,ye,kg] at key;unfold Q9;rw [hd,<-key,jLr];simp only [jd]
 .rw [jyP,<-hdl,jgk,hdl,j6,jam,jJ];rw [<-hdl];cases hv:qx (qb cmpL d)<;>rw [hv] at e2
  .rw [jq kx] at e2 ⊢;have e2:G 252 [cm (qb cmpL d)]=some (.tup [cz,vb false],[]):=e2;simp only [jd,e1,e2];rfl
  .rw [jp rfl] at e2 ⊢;have e2:G 252 [cm (qb cmpL d)]=some (.tup [cm (qb cmpL d),vb true],[]):=e2;simp only [jd,e1,e2];rfl
 .intro i hi ih;have hi2:i < d.length:=by omega
  have hlt:(i:Int) < ((l.length:Nat):Int):=by omega
  have h5:=jm hi (by show l.length<=9223372036854775807;omega)
  have hb:=h.2 _ (jo hi);have e3:=yE s hs l[i].2 hb.1.ax (by omega);have hdi:d[i]=(l[i].1,sub s l[i].2):=by simp only [<-hd,jex]
  have ta:=ja3 (f:=j8) hi2;have tl:=take_len (f:=j8) (ZQ hi2);have hf:jK (i+1) 48=true:=jaU (by omega);rw [hdi] at ta;rw [jyP,jh hi,zB];cases hsm:jG (sub s l[i].2)<;>rw [hsm] at e3
  .rw [jH,jH,jq kx];have e3:G 196 [sb s,tm l[i].2]=some (.tup [.agg [sv [],.sl 2 []],vb false],[]):=e3;simp only [jd,hlt,ja hi,ze,e3];rfl
  .rw [jJ];have e3:G 196 [sb s,tm l[i].2]=some (.tup [tm (sub s l[i].2),vb true],[]):=e3;generalize (d.take i).map j8=R at *;generalize sub s l[i].2=u at *;rw [<-ih];simp only [jd,hlt,ja hi,ze,e3,tl,hf,ta,h5]
theorem jxm (s:jz) (hs:jI s=true) (l:zg) (h:LN l):G 219 [sb s,.sl 3 (l.map j8)]=Zh (Q9 s l):=by
 have hl:=h.1;have happ:=h.app hs;have e1:=jgP (l.map λx=>(x.1,sub s x.2)) (by rw [jM];omega) λx hx=>(happ x hx).2;have e2:=jdS (qb cmpL (l.map λx=>(x.1,sub s x.2))) (by have:=jgT cmpL (l.map λx=>(x.1,sub s x.2));rw [jM] at this;omega) λx hx=>(happ x (jgU.1 hx)).2;generalize hd:l.map (λx=>(x.1,sub s x.2))=d at *;have hdl:d.length=l.length:=by rw [<-hd,jM]
 have ld:∀l:Lt,kq (.elt (j8 l) 0)=some (vb l.1):=λl=>rfl;have ad:∀(l:Lt) (n:Nat),yI (.elt (j8 l) 0) n=some (.elt (j8 l) n):=λl n=>by rw [qp,yc]
 have ld2:∀l:Lt,ky 2 (.elt (j8 l) 1)=some (tm l.2):=λl=>rfl;have key:=upto (P:=λi=>jnE (.sl 3 (l.map j8)) (vi (i:Nat)) (Zz s) ((d.take i).map j8) []=Zh (if ((l.drop i).all λx=>jG (sub s x.2)) && qx (qb cmpL d) then some (qb cmpL d) else none)) (n:=l.length) ?_ ?_ 0 (jD _)
 .simp only [jP,Jm,ye,kg] at key;unfold Q9;rw [hd,<-key,jLE];simp only [jd]
 .have hlt:¬((l.length:Nat):Int) < ((l.length:Nat):Int):=by omega
  rw [jyW,qf (by omega),j6,jam,jJ];cases hv:qx (qb cmpL d)<;>rw [hv] at e2
  .rw [jq kx];simp only [jd,e1,e2];rfl
  .rw [jp rfl];simp only [jd,e1,e2];rfl
 .intro i hi ih;have hi2:i < d.length:=by omega
  have hlt:(i:Int) < ((l.length:Nat):Int):=by omega
  have h5:=jm hi (by show l.length<=9223372036854775807;omega)
  have hb:=h.2 _ (jo hi);have tz:=hb.1.tz (by omega);have tz2:=KA.sub_tz hs hb.1.ax (by omega);have e3:=Ze s (yO hs).sz l[i].2 tz;have e4:=jl9 (sub s l[i].2) tz2.wf tz2;rw [(hb.1.sub hs).atom] at e4;have hdi:d[i]=(l[i].1,sub s l[i].2):=by simp only [<-hd,jex]
  have ta:=ja3 (f:=j8) hi2;have tl:=take_len (f:=j8) (ZQ hi2);have hf:jK (i+1) 48=true:=jaU (by omega);rw [hdi] at ta;rw [jyW,jh hi,zB];cases hsm:jG (sub s l[i].2)<;>rw [hsm] at e4
  .rw [jH,jH,jq kx];simp only [jd,hlt,ja hi,ad,ld2,e3,e4];rfl
  .rw [jJ];generalize (d.take i).map j8=R at *;generalize sub s l[i].2=u at *;rw [<-ih];simp only [jd,hlt,ja hi,ad,ld,ld2,e3,e4,tl,hf,ta,h5]
theorem ZH (s:jz) (hs:jI s=true) (l:zg) (h:LN l):G 156 [sb s,.sl 3 (l.map j8)]=Zh (JW s l):=by
 have e1:=jxl s hs l h;unfold JW;rw [jKS];cases ha:Q9 s l with
 | none=>
  rw [ha] at e1;have e1:G 205 [sb s,.sl 3 (l.map j8)]=some (.tup [cz,vb false],[]):=e1;simp only [jd,e1];rfl
 | some c=>
  rw [ha] at e1;have e1:G 205 [sb s,.sl 3 (l.map j8)]=some (.tup [cm c,vb true],[]):=e1;have hc:=(jlM ha).1;have e2:=joQ c hc;have e3:=yG (normC c) (by have:=hc.normC.1;omega) hc.normC.tz;rw [yz];cases hn:jX (normC c)<;>rw [hn] at e3
  .rw [jq kx];simp only [jd,e1,e2,e3];rfl
  .rw [jp rfl];simp only [jd,e1,e2,e3];rfl
theorem KN (s:jz) (hs:jI s=true) (l:zg) (h:LN l):G 173 [sb s,.sl 3 (l.map j8)]=Zh (JW s l):=by
 have e1:=jxm s hs l h;unfold JW;rw [jK3];cases ha:Q9 s l with
 | none=>
  rw [ha] at e1;have e1:G 219 [sb s,.sl 3 (l.map j8)]=some (.tup [cz,vb false],[]):=e1;simp only [jd,e1];rfl
 | some c=>
  rw [ha] at e1;have e1:G 219 [sb s,.sl 3 (l.map j8)]=some (.tup [cm c,vb true],[]):=e1;obtain ⟨hc,hasc⟩:=jlM ha;have e2:=jqY c hc hasc;have e3:=jae (normC c) hc.normC;rw [yz];unfold jX;cases hv:qx (normC c)<;>rw [hv] at e2
  .rw [jH,jq kx];simp only [jd,e1,e2];rfl
  .rw [jJ];cases hn:KM (normC c)<;>rw [hn] at e3
   .rw [jq kx];simp only [jd,e1,e2,e3];rfl
   .rw [jp rfl];simp only [jd,e1,e2,e3];rfl
theorem zL (r:Option zg):∃(c:zg) (b:Bool),Zh r=some (.tup [cm c,vb b],[]):=by
 cases r with
 | none=>exact ⟨[],false,rfl⟩
 | some c=>exact ⟨c,true,rfl⟩
theorem jdV (r:Option jz):∃(u:jz) (b:Bool),yi r=some (.tup [sb u,vb b],[])/\(b=true->r=some u)/\(b=false->r=none):=by
 cases r with
 | none=>exact ⟨[],false,rfl,(λh=>by cases h),λ_=>rfl⟩
 | some u=>exact ⟨u,true,rfl,(λ_=>rfl),λh=>by cases h⟩
def jvv (f g:FuncId) (args:List A):Prop:=∃r:Option zg,G f args=Zh r/\G g args=Zh r/\ ∀x,r=some x->jX x=true
theorem Kl {f g:FuncId} {args:List A} (h1:G f args=some (.tup [cz,vb false],[])) (h2:G g args=some (.tup [cz,vb false],[])):jvv f g args:=⟨none,h1,h2,λx h=>by cases h⟩
def Yl (c:zg) (i:Int):Bool:=yS 0 (((c.length:Nat):Int) - 1) i
theorem Kn {c:zg} {i:Int} (h:Yl c i=true):∃k:Nat,i=(k:Int)/\k < c.length:=by
 unfold Yl yS at h;rw [jy,kK,kK] at h;exact ⟨i.toNat,by omega,by omega⟩
theorem zR (c:zg) (hl:c.length<=1000) (i:Int):G 188 [cm c,vi i]=some (vb (Yl c i),[]):=by
 have c1:ck (((c.length:Nat):Int) - 1)=some (vi (((c.length:Nat):Int) - 1)):=jZ (by omega) (by omega);have e:=yw i 0 (((c.length:Nat):Int) - 1);rw [jLe];simp only [jd,c1,e];rfl
theorem LN.erase {c:zg} (h:CN c) (i:Nat):LN (c.eraseIdx i):=⟨by have:=jk9 c i;have:=h.1;omega,λx hx=>by
 have:=h.2 x (List.mem_of_mem_eraseIdx hx);exact ⟨this.1,by omega⟩⟩
theorem LN.append {a b:zg} (ha:CN a) (hb:CN b) (i k:Nat):LN (a.eraseIdx i++b.eraseIdx k):=⟨by
 have:=jk9 a i;have:=jk9 b k;have:=ha.1;have:=hb.1;rw [ym];omega,λx hx=>by
 rcases kM.1 hx with hx|hx
 .exact (LN.erase ha i).2 x hx
 .exact (LN.erase hb k).2 x hx⟩
theorem ldB (l:Lt):kq (.elt (j8 l) 0)=some (vb l.1):=rfl
theorem Qo (l:Lt) (n:Nat):yI (.elt (j8 l) 0) n=some (.elt (j8 l) n):=by rw [qp,yc]
theorem ldT (l:Lt):ky 2 (.elt (j8 l) 1)=some (tm l.2):=rfl
theorem hRl (x:zg):hR 3 (A.top,[.sl 3 (x.map j8)]) 0=some (x.map j8):=rfl
theorem jvy (d:zg) (n:Nat) (h:n < (jY d).length) (h':n < d.length):(jY d)[n].1=d[n].1:=by simp only [jY,jex]
theorem jtH (c d:zg) (hc:jX c=true) (hd:jX d=true) (i k:Int):∃r:Option zg,G 150 [cm c,vi i,cm d,vi k]=Zh r/\G 141 [cm c,vi i,cm d,vi k]=Zh r/\ ∀x,r=some x->jX x=true:=by
 obtain ⟨cc,_,_,_⟩:=kL hc;obtain ⟨cd,_,_,_⟩:=kL hd;have lc:=cc.1;have ld:=cd.1;have ce:=jpM hd;have le:=jgG d;have a1:=jlL d hd;have a2:=jgF d hd;have p1:=zR c (by omega) i;have p2:=zR d (by omega) k;have c1:ck (((c.length:Nat):Int) - 1)=some (vi (((c.length:Nat):Int) - 1)):=jZ (by omega) (by omega);have c2:ck ((((jY d).length:Nat):Int) - 1)=some (vi ((((jY d).length:Nat):Int) - 1)):=jZ (by omega) (by omega);have q1:=zN i 0 (((c.length:Nat):Int) - 1);have q2:=zN k 0 ((((jY d).length:Nat):Int) - 1);have hi':yS 0 (((c.length:Nat):Int) - 1) i=Yl c i:=rfl;have hk':yS 0 ((((jY d).length:Nat):Int) - 1) k=Yl d k:=by rw [le];rfl
 rw [hi'] at q1;rw [hk'] at q2;rw [jKN,jKG];cases hi:Yl c i<;>rw [hi] at p1 q1
 .exact ⟨none,by simp only [jd,p1];rfl,by simp only [jd,a2,c1,q1];rfl,λx h=>by cases h⟩
 cases hk:Yl d k<;>rw [hk] at p2 q2
 .exact ⟨none,by simp only [jd,p1,p2];rfl,by simp only [jd,a2,c1,q1,c2,q2];rfl,λx h=>by cases h⟩
 obtain ⟨m,rfl,hm⟩:=Kn hi;obtain ⟨n,rfl,hn⟩:=Kn hk;have hn2:n < (jY d).length:=by omega
 have sg:(jY d)[n].1=d[n].1:=jvy d n hn2 hn;have x1:=ja (k:=3) (f:=j8) hm;have x2:=ja (k:=3) (f:=j8) hn;have x3:=ja (k:=3) (f:=j8) hn2;have hb1:=cc.2 _ (jo hm);have hb2:=ce.2 _ (jo hn2);have u1:=jga c[m].2 (jY d)[n].2 (hb1.1.exx (by omega)) (hb2.1.exx (by omega));have u2:=jbG c[m].2 (jY d)[n].2 (hb1.1.exx (by omega)) (hb2.1.exx (by omega));have hval:∀s,jaj c[m].2 (jY d)[n].2=some s->jI s=true:=λs hs=>Yv (hb1.1.exx (by omega)) (hb2.1.exx (by omega)) hs;by_cases hs:c[m].1=d[n].1
 .have hs2:c[m].1=(jY d)[n].1:=by rw [sg];exact hs
  exact ⟨none,by simp only [jd,p1,p2,x1,x2,Qo,ldB,hs];rfl,by simp only [jd,a2,c1,q1,c2,q2,x1,x3,Qo,ldB,hs2];rfl,λx h=>by cases h⟩
 have hs1:=kA hs;have hs2:decide (c[m].1=(jY d)[n].1)=false:=by rw [sg];exact hs1
 obtain ⟨u,b,hu,hut,huf⟩:=jdV (jaj c[m].2 (jY d)[n].2);rw [hu] at u1 u2;cases b
 .exact ⟨none,by simp only [jd,p1,p2,x1,x2,x3,Qo,ldB,ldT,hs1,a1,u1];rfl,by simp only [jd,a2,c1,q1,c2,q2,x1,x3,Qo,ldB,ldT,hs2,u2];rfl,λx h=>by cases h⟩
 have hv:=hval u (hut rfl);have hln:=LN.append cc ce m n;have w1:=Zr c (by omega) m hm;have w2:=Zr (jY d) (by omega) n hn2;have w3:=Ky c (by omega) m hm;have w4:=Ky (jY d) (by omega) n hn2;have cat:=jlU [c.eraseIdx m,(jY d).eraseIdx n] (by simp) (λx hx=>by
  simp only [kW,jcv,jdF] at hx;rcases hx with rfl|rfl
  .have:=(LN.erase cc m).1;omega
  .have:=(LN.erase ce n).1;omega)
 have hfl: [c.eraseIdx m,(jY d).eraseIdx n].flatten=c.eraseIdx m++(jY d).eraseIdx n:=by simp
 rw [hfl] at cat;have cat:jgp [[.sl 3 ((c.eraseIdx m).map j8)],[.sl 3 (((jY d).eraseIdx n).map j8)]]=some (.top,[.sl 3 ((c.eraseIdx m++(jY d).eraseIdx n).map j8)]):=cat;have e1:=ZH u hv _ hln;have e2:=KN u hv _ hln;have hf:jK ((c.eraseIdx m).length+((jY d).eraseIdx n).length) 48=true:=jaU (by have:=(LN.erase cc m).1;have:=(LN.erase ce n).1;omega);have ha:jU ((c.eraseIdx m).map j8) (((jY d).eraseIdx n).map j8)=(c.eraseIdx m++(jY d).eraseIdx n).map j8:=by rw [zV];rfl
 refine ⟨JW u (c.eraseIdx m++(jY d).eraseIdx n),?_,?_,λx hx=>ZN hx⟩
 .obtain ⟨c',b',hr⟩:=zL (JW u (c.eraseIdx m++(jY d).eraseIdx n));rw [hr] at e1 ⊢;generalize c.eraseIdx m++(jY d).eraseIdx n=L at *;simp only [jd,p1,p2,x1,x2,x3,Qo,ldB,ldT,hs1,a1,u1,w1,w2,cat,hRl,e1]
 .obtain ⟨c',b',hr⟩:=zL (JW u (c.eraseIdx m++(jY d).eraseIdx n));rw [hr] at e2 ⊢;generalize c.eraseIdx m++(jY d).eraseIdx n=L at *;simp only [jd,a2,c1,q1,c2,q2,x1,x3,Qo,ldB,ldT,hs2,u2,w3,w4,hRl,hf,ha,e2]
theorem jo5 (c d:zg) (lc:c.length<=1048576) (zc:∀l∈c,Tz l.2) (ld:d.length<=1048576) (zd:∀l∈d,Tz l.2) (i k:Int):jvv 112 100 [cm c,vi i,cm d,vi k]:=by
 have n1:=yG c lc zc;have n2:=yG d ld zd;have m1:=qm c lc zc;have m2:=qm d ld zd;cases hc:jX c<;>rw [hc] at n1 m1
 .exact Kl (by rw [jEj];simp only [jd,n1]) (by rw [jEh];simp only [jd,m1])
 cases hd:jX d<;>rw [hd] at n2 m2
 .exact Kl (by rw [jEj];simp only [jd,n1,n2]) (by rw [jEh];simp only [jd,m1,m2])
 obtain ⟨r,e1,e2,e3⟩:=jtH c d hc hd i k;obtain ⟨c',b',hr⟩:=zL r;refine ⟨r,?_,?_,e3⟩
 .rw [hr] at e1 ⊢;rw [jEj];simp only [jd,n1,n2,e1]
 .rw [hr] at e2 ⊢;rw [jEh];simp only [jd,m1,m2,e2]
theorem jvI (c:zg) (hc:jX c=true) (i k:Int) (ib: -9223372036854775808<=i/\i<=9223372036854775807):∃r:Option zg,G 151 [cm c,vi i,vi k]=Zh r/\G 142 [cm c,vi i,vi k]=Zh r/\ ∀x,r=some x->jX x=true:=by
 obtain ⟨cc,_,_,_⟩:=kL hc;have lc:=cc.1;have p1:=zR c (by omega) i;have p2:=zR c (by omega) k;have c1:ck (((c.length:Nat):Int) - 1)=some (vi (((c.length:Nat):Int) - 1)):=jZ (by omega) (by omega);have q1:=zN i 0 (((c.length:Nat):Int) - 1);have q2:=zN k (i+1) (((c.length:Nat):Int) - 1);have hi':yS 0 (((c.length:Nat):Int) - 1) i=Yl c i:=rfl;rw [hi'] at q1;rw [jKO,jKH];cases hi:Yl c i<;>rw [hi] at p1 q1
 .exact ⟨none,by simp only [jd,p1];rfl,by simp only [jd,c1,q1];rfl,λx h=>by cases h⟩
 obtain ⟨m,rfl,hm⟩:=Kn hi;have cm1:ck ((m:Int)+1)=some (vi ((m:Int)+1)):=jZ (by omega) (by omega);have hk':yS ((m:Int)+1) (((c.length:Nat):Int) - 1) k=(Yl c k && !decide (k<=(m:Int))):=by
  unfold Yl yS;by_cases h1:k<=(m:Int)
  .rw [kA (show ¬(m:Int)+1<=k by omega),jW h1,jH,jan,yb]
  .rw [jW (show (m:Int)+1<=k by omega),kA h1,jW (show (0:Int)<=k by omega),jli,ja8]
 rw [hk'] at q2;cases hk:Yl c k<;>rw [hk] at p2 q2
 .rw [jH] at q2;exact ⟨none,by simp only [jd,p1,p2];rfl,by simp only [jd,c1,q1,cm1,q2];rfl,λx h=>by cases h⟩
 rw [jJ] at q2;by_cases hik:k<=(m:Int)
 .rw [jW hik] at q2;exact ⟨none,by simp only [jd,p1,p2,hik];rfl,by simp only [jd,c1,q1,cm1,q2];rfl,λx h=>by cases h⟩
 have hik':=kA hik;rw [hik'] at q2;obtain ⟨n,rfl,hn⟩:=Kn hk;have x1:=ja (k:=3) (f:=j8) hm;have x2:=ja (k:=3) (f:=j8) hn;have hb1:=cc.2 _ (jo hm);have hb2:=cc.2 _ (jo hn);have u1:=jga c[m].2 c[n].2 (hb1.1.exx (by omega)) (hb2.1.exx (by omega));have u2:=jbG c[m].2 c[n].2 (hb1.1.exx (by omega)) (hb2.1.exx (by omega));by_cases hs:c[m].1=c[n].1;rotate_left
 .have hs1:=kA hs;exact ⟨none,by simp only [jd,p1,p2,hik',x1,x2,Qo,ldB,hs1];rfl,by simp only [jd,c1,q1,cm1,q2,x1,x2,Qo,ldB,hs1];rfl,λx h=>by cases h⟩
 have hs1:=jW hs;obtain ⟨u,b,hu,hut,huf⟩:=jdV (jaj c[m].2 c[n].2);rw [hu] at u1 u2;cases b
 .exact ⟨none,by simp only [jd,p1,p2,hik',x1,x2,Qo,ldB,ldT,hs1,u1];rfl,by simp only [jd,c1,q1,cm1,q2,x1,x2,Qo,ldB,ldT,hs1,u2];rfl,λx h=>by cases h⟩
 have hv:=Yv (hb1.1.exx (by omega)) (hb2.1.exx (by omega)) (hut rfl);have hln:=LN.erase cc n;have w1:=Zr c (by omega) n hn;have w3:=Ky c (by omega) n hn;have e1:=ZH u hv _ hln;have e2:=KN u hv _ hln;refine ⟨JW u (c.eraseIdx n),?_,?_,λx hx=>ZN hx⟩
 .obtain ⟨c',b',hr⟩:=zL (JW u (c.eraseIdx n));rw [hr] at e1 ⊢;simp only [jd,p1,p2,hik',x1,x2,Qo,ldB,ldT,hs1,u1,w1,e1]
 .obtain ⟨c',b',hr⟩:=zL (JW u (c.eraseIdx n));rw [hr] at e2 ⊢;simp only [jd,c1,q1,cm1,q2,x1,x2,Qo,ldB,ldT,hs1,u2,w3,hRl,e2]
theorem jqd (c:zg) (lc:c.length<=1048576) (zc:∀l∈c,Tz l.2) (i k:Int) (ib: -9223372036854775808<=i/\i<=9223372036854775807):jvv 113 101 [cm c,vi i,vi k]:=by
 have n1:=yG c lc zc;have m1:=qm c lc zc;cases hc:jX c<;>rw [hc] at n1 m1
 .exact Kl (by rw [jFF];simp only [jd,n1]) (by rw [jFC];simp only [jd,m1])
 obtain ⟨r,e1,e2,e3⟩:=jvI c hc i k ib;obtain ⟨c',b',hr⟩:=zL r;refine ⟨r,?_,?_,e3⟩
 .rw [hr] at e1 ⊢;rw [jFF];simp only [jd,n1,e1]
 .rw [hr] at e2 ⊢;rw [jFC];simp only [jd,m1,e2]
theorem ldA (l:Lt):kq (.elt (j8 l) 2)=some (jQ l.2.args):=rfl
theorem jaH (l:Lt):yI (.elt (j8 l) 1) 1=some (.elt (j8 l) 2):=rfl
theorem jc0 (l:Lt) (b:Bool):G 175 [ltm l,vb b]=some (vb (decide (l.1=b) && decide (l.2.name = [61])),[]):=by
 rw [jK4];by_cases h:l.1=b
 .rw [jW h,jJ];simp only [jd,h]
 .rw [kA h,jH];simp only [jd,h]
theorem jqa {t:T} (hb:Bx t) (he:t.name = [61]) (hn:nodes t<=30):t.args.length=2/\yH (jaJ t)=true/\yH (jcp t)=true/\nodes (jaJ t)<=30/\nodes (jcp t)<=30/\jg 2 (jQ t.args) (vi 0)=some (.elt (jw (jaJ t)) 0)/\jg 2 (jQ t.args) (vi 1)=some (.elt (jw (jcp t)) 0):=by
 rcases hb with hb|hb
 rotate_left
 .rw [he] at hb;exact absurd hb.1 (by decide)
 obtain ⟨f1,f2,f3,f4⟩:=K8 hb.2.1;have g1:=Je f3;have g2:=Je f4;exact ⟨hb.2.1,hb.2.2 _ f3,hb.2.2 _ f4,by omega,by omega,f1,f2⟩
theorem jo1 (c:zg) (hc:jX c=true) (i:Int):∃r:Option zg,G 153 [cm c,vi i]=Zh r/\G 144 [cm c,vi i]=Zh r/\ ∀x,r=some x->jX x=true:=by
 obtain ⟨cc,_,_,_⟩:=kL hc;have lc:=cc.1;have p1:=zR c (by omega) i;have c1:ck (((c.length:Nat):Int) - 1)=some (vi (((c.length:Nat):Int) - 1)):=jZ (by omega) (by omega);have q1:=zN i 0 (((c.length:Nat):Int) - 1);have hi':yS 0 (((c.length:Nat):Int) - 1) i=Yl c i:=rfl;rw [hi'] at q1;rw [jKP,jKI];cases hi:Yl c i<;>rw [hi] at p1 q1
 .exact ⟨none,by simp only [jd,p1];rfl,by simp only [jd,c1,q1];rfl,λx h=>by cases h⟩
 obtain ⟨m,rfl,hm⟩:=Kn hi;have x1:=ja (k:=3) (f:=j8) hm;have hb1:=cc.2 _ (jo hm);have e3:=qv c[m].2;have e4:=jc0 c[m] false;generalize hl:c[m]=l at *;have e4:G 175 [ltm l,vb false]=_:=e4;cases hs:l.1<;>rw [hs] at e4
 rotate_left
 .exact ⟨none,by simp only [jd,p1,x1,Qo,ldB,hs];rfl,by simp only [jd,c1,q1,x1,ze,hs,e4,jH];rfl,λx h=>by cases h⟩
 by_cases he:l.2.name = [61];rotate_left
 .rw [kA he] at e3 e4;exact ⟨none,by simp only [jd,p1,x1,Qo,ldB,ldT,hs,e3];rfl,by simp only [jd,c1,q1,x1,ze,hs,e4,yb];rfl,λx h=>by cases h⟩
 rw [jW he] at e3 e4;obtain ⟨_,k0,k1,n0,n1,i0,i1⟩:=jqa hb1.1 he hb1.2;have u1:=jga (jaJ l.2) (jcp l.2) ⟨Or.inl k0,by omega⟩ ⟨Or.inl k1,by omega⟩;have u2:=jbG (jaJ l.2) (jcp l.2) ⟨Or.inl k0,by omega⟩ ⟨Or.inl k1,by omega⟩;obtain ⟨u,b,hu,hut,huf⟩:=jdV (jaj (jaJ l.2) (jcp l.2));rw [hu] at u1 u2;cases b
 .exact ⟨none,by simp only [jd,p1,x1,Qo,jaH,ldA,ldB,ldT,hs,e3,i0,i1,jf,u1];rfl,by simp only [jd,c1,q1,x1,ze,hs,e4,jdG,Qo,jaH,ldA,i0,i1,jf,u2];rfl,λx h=>by cases h⟩
 have hv:=Yv ⟨Or.inl k0,by omega⟩ ⟨Or.inl k1,by omega⟩ (hut rfl);have hln:=LN.erase cc m;have w1:=Zr c (by omega) m hm;have w3:=Ky c (by omega) m hm;have e1:=ZH u hv _ hln;have e2:=KN u hv _ hln;refine ⟨JW u (c.eraseIdx m),?_,?_,λx hx=>ZN hx⟩
 .obtain ⟨c',b',hr⟩:=zL (JW u (c.eraseIdx m));rw [hr] at e1 ⊢;simp only [jd,p1,x1,Qo,jaH,ldA,ldB,ldT,hs,e3,i0,i1,jf,u1,w1,e1]
 .obtain ⟨c',b',hr⟩:=zL (JW u (c.eraseIdx m));rw [hr] at e2 ⊢;simp only [jd,c1,q1,x1,ze,hs,e4,jdG,Qo,jaH,ldA,i0,i1,jf,u2,w3,hRl,e2]
theorem jkt (c:zg) (lc:c.length<=1048576) (zc:∀l∈c,Tz l.2) (i:Int):jvv 115 103 [cm c,vi i]:=by
 have n1:=yG c lc zc;have m1:=qm c lc zc;cases hc:jX c<;>rw [hc] at n1 m1
 .exact Kl (by rw [jFG];simp only [jd,n1]) (by rw [jFD];simp only [jd,m1])
 obtain ⟨r,e1,e2,e3⟩:=jo1 c hc i;obtain ⟨c',b',hr⟩:=zL r;refine ⟨r,?_,?_,e3⟩
 .rw [hr] at e1 ⊢;rw [jFG];simp only [jd,n1,e1]
 .rw [hr] at e2 ⊢;rw [jFD];simp only [jd,m1,e2]
theorem yK (n:Int):kq (.elt (ci n) 0)=some (vi n):=rfl
theorem jor (n:Nat) (x:Int):yS 0 (((n:Nat):Int) - 1) x=decide (0<=x/\x < (n:Int)):=by
 unfold yS;rw [<-Bool.decide_and];exact jhi.2 ⟨λh=>⟨h.1,by omega⟩,λh=>⟨h.1,by omega⟩⟩
theorem jDG (t:T) (p:List Int) (ht:Tz t) (hl:p.length<=1048576):G 194 [tm t,ints p]=outT (atI p t):=by
 have key:=upto (P:=λi=>∀t:T,Tz t->jnv (ints p) (vi (p.length:Nat)) (vi (i:Nat)) (sv t.name) (jQ t.args) (sv []) []=outT (atI (p.drop i) t)) (n:=p.length) ?_ ?_ 0 (jD _) t ht
 .simp only [jP,kg] at key;rw [jLj];simp only [jd,key]
 .intro t ht;rw [jyM,j6,atI];simp only [jd];rfl
 .intro i hi ih t ht;have hz:=ht;unfold Tz at hz;rw [kQ] at hz;have hlt:(i:Int) < ((p.length:Nat):Int):=by omega
  have h5:=jm hi (by show p.length<=9223372036854775807;omega)
  have c1:ck (((t.args.length:Nat):Int) - 1)=some (vi (((t.args.length:Nat):Int) - 1)):=jZ (by omega) (by omega);have e1:=yw p[i] 0 (((t.args.length:Nat):Int) - 1);rw [jor] at e1;have ix:=J3 hi;rw [jyM,jh hi,atI];by_cases hc:0<=p[i]/\p[i] < (t.args.length:Int)
  .rw [jW hc] at e1;rw [jp hc];have hn:p[i].toNat < t.args.length:=by omega
   have ix2:=ja (k:=2) (f:=jw) hn;rw [show ((p[i].toNat:Nat):Int)=p[i] by omega] at ix2;rw [ql hn];have:=ih t.args[p[i].toNat] (ht.args _ (jo hn));simp only [jd,hlt,ix,yK,c1,e1,ix2,jf,h5,this]
  .rw [kA hc] at e1;rw [jq hc];simp only [jd,hlt,ix,yK,c1,e1];rfl
theorem jDH (t:T) (p:List Int) (ht:Tz t) (hl:p.length<=1048576):G 176 [tm t,ints p]=outT (atI p t):=by
 have key:=upto (P:=λi=>∀t:T,Tz t->jiV (ints p) (vi (i:Nat)) (sv t.name) (jQ t.args) (sv []) []=outT (atI (p.drop i) t)) (n:=p.length) ?_ ?_ 0 (jD _) t ht
 .simp only [jP,kg] at key;rw [jFH];simp only [jd,key]
 .intro t ht;have e1:=jdh t ht;rw [jox,j6,atI];simp only [jd,e1];rfl
 .intro i hi ih t ht;have hz:=ht;unfold Tz at hz;rw [kQ] at hz;have hlt:(i:Int) < ((p.length:Nat):Int):=by omega
  have h5:=jm hi (by show p.length<=9223372036854775807;omega)
  have c1:ck (((t.args.length:Nat):Int) - 1)=some (vi (((t.args.length:Nat):Int) - 1)):=jZ (by omega) (by omega);have e1:=zN p[i] 0 (((t.args.length:Nat):Int) - 1);rw [jor] at e1;have ix:=J3 hi;rw [jox,jh hi,atI];by_cases hc:0<=p[i]/\p[i] < (t.args.length:Int)
  .rw [jW hc] at e1;rw [jp hc];have hn:p[i].toNat < t.args.length:=by omega
   have ix2:=ja (k:=2) (f:=jw) hn;rw [show ((p[i].toNat:Nat):Int)=p[i] by omega] at ix2;rw [ql hn];have:=ih t.args[p[i].toNat] (ht.args _ (jo hn));simp only [jd,hlt,ix,yK,c1,e1,ix2,jf,h5,this]
  .rw [kA hc] at e1;rw [jq hc];simp only [jd,hlt,ix,yK,c1,e1];rfl
theorem jx8 (q:List Nat):ints (q.map λn:Nat=>(n:Int))=pln q:=by
 show A.sl 1 ((q.map _).map ci)=_;rw [qY];rfl
theorem jp1 (t:T) (ht:Tz t):jgq (sv t.name) (jQ t.args)=some (.top,[sv t.name,jQ t.args]):=by
 have hz:=ht;unfold Tz at hz;rw [kQ] at hz;have e1:=jbz t.args (by omega) λu hu=>Jp u (ht.args u hu);have r1:hR 2 (A.top,[jQ t.args]) 0=some (t.args.map jw):=rfl;rw [jxs];simp only [jd,e1,r1]
theorem jh2 (s:T) (hs:Tz s):∀(p:List Nat) (t:T),Tz t->okP p t->p.length<=2000000->G 198 [tm t,pln p,tm s]=some (tm (zq s p t),[])
 | [],t,_,_,_=>by
  have e1:=jp1 s hs;have hz:(((0:Nat):Int)=0)=True:=by simp
  rw [jFK,zq];simp only [jd,hz,e1,ye,qa]
 | i::p,t,ht,hp,hl=>by
  obtain ⟨h1,h2⟩:=hp;have e:t.args.getD i (.mk [] [])=t.args[i]:=ql h1;rw [e] at h2;have e1:=jp1 t ht;have e2:=jh2 s hs p t.args[i] (ht.args _ (jo h1)) h2 (by rw [yd] at hl;omega);have hz:¬((p.length+1:Nat):Int)=0:=by omega
  have i0:jg 1 (pln (i::p)) (vi 0)=some (.elt [vi (i:Nat)] 0):=YY (p:=i::p) (i:=0) (by simp);have sl:zS 1 (pln (i::p)) (some (vi 1)) none=some (pln p):=by
   have:=qt (k:=1) (xs:=(i::p).map λn:Nat=>[vi (n:Nat)]) (i:=1) (by simp);exact this
  have ix:QI t.args.length (vi (i:Nat))=some i:=yp h1;have rg:jd9 (t.args.map jw) i=some (jw t.args[i]):=by unfold jd9;simp [h1]
  have co:Jo (jw t.args[i]) 0 [sv (zq s p t.args[i]).name,jQ (zq s p t.args[i]).args]=jw (zq s p t.args[i]):=by rw [zn,zn];rfl
  have rs:J6 (t.args.map jw) i (jw (zq s p t.args[i]))=(t.args.set i (zq s p t.args[i])).map jw:=by unfold J6;rw [jm5]
  have ll:(kE (pln (i::p)))=some (vi ((p.length+1:Nat):Int)):=by rw [jrs];simp only [jd]
  rw [jFK,zq,e];simp only [jd,ll,hz,e1,i0,ja h1,jf,sl,e2,ix,rg,co,rs,qa];rfl
theorem jeT {t:T} (hk:yH t=true) (hn:nodes t<=30):Tz t/\Exx t:=⟨KA.tz (Or.inl hk) (by omega),Or.inl hk,by omega⟩
theorem jd5 {s:jz} (hs:jI s=true) {t:T} (hk:yH t=true):kZ (sub s t)=jG (sub s t):=by
 unfold kZ;rw [jbY (Zq hs) t hk,ja8]
theorem jdw (c d:zg) (cc:CN c) (hd:jX d=true) (m n:Nat) (hm:m < c.length) (hn:n < d.length) (hs:c[m].1=true) (he:c[m].2.name = [61]) (l r:T) (side:Int) (hside:yS 0 1 side=true) (sl:jg 2 (jQ c[m].2.args) (vi side)=some (.elt (jw l) 0)) (sr:jg 2 (jQ c[m].2.args) (vi (1 - side))=some (.elt (jw r) 0)) (kl:yH l=true) (kr:yH r=true) (nl:nodes l<=30) (nr:nodes r<=30) (p:List Int) (hpl:p.length<=1048576) (hp:p≠ []) :
  ∃o:Option zg,G 152 [cm c,vi (m:Nat),vi side,cm d,vi (n:Nat),ints p]=Zh o/\G 143 [cm c,vi (m:Nat),vi side,cm d,vi (n:Nat),ints p]=Zh o/\ ∀x,o=some x->jX x=true:=by
 obtain ⟨cd,_,_,_⟩:=kL hd;have lc:=cc.1;have ld:=cd.1;have ce:=jpM hd;have le:=jgG d;have a1:=jlL d hd;have a2:=jgF d hd;have p1:=zR c (by omega) (m:Nat);have p2:=zR d (by omega) (n:Nat);have hi:Yl c (m:Nat)=true:=by unfold Yl;rw [jor];exact jW ⟨by omega,by omega⟩
 have hk:Yl d (n:Nat)=true:=by unfold Yl;rw [jor];exact jW ⟨by omega,by omega⟩
 have c1:ck (((c.length:Nat):Int) - 1)=some (vi (((c.length:Nat):Int) - 1)):=jZ (by omega) (by omega);have c2:ck ((((jY d).length:Nat):Int) - 1)=some (vi ((((jY d).length:Nat):Int) - 1)):=jZ (by omega) (by omega);have q1:=zN (m:Nat) 0 (((c.length:Nat):Int) - 1);have q2:=zN (n:Nat) 0 ((((jY d).length:Nat):Int) - 1);have q3:=zN side 0 1;have p3:=yw side 0 1;have hi':yS 0 (((c.length:Nat):Int) - 1) (m:Nat)=true:=hi;have hk':yS 0 ((((jY d).length:Nat):Int) - 1) (n:Nat)=true:=by rw [le];exact hk
 rw [hi'] at q1;rw [hk'] at q2;rw [hside] at q3 p3;rw [hi] at p1;rw [hk] at p2;have hn2:n < (jY d).length:=by omega
 have x1:=ja (k:=3) (f:=j8) hm;have x3:=ja (k:=3) (f:=j8) hn2;have hb2:=ce.2 _ (jo hn2);have e3:=qv c[m].2;have e4:=jc0 c[m] true;rw [hs,he,jW rfl,jW rfl,jdG] at e4;rw [jW he] at e3;have e4:G 175 [.agg [vb c[m].1,sv c[m].2.name,jQ c[m].2.args],vb true]=some (vb true,[]):=e4;have hp0:¬((p.length:Nat):Int)=0:=by
  cases p with
  | nil=>exact (hp rfl).elim
  | cons _ _=>simp only [yd];omega
 have cs:ck (1 - side)=some (vi (1 - side)):=by
  unfold yS at hside;rw [jy,kK,kK] at hside;exact jZ (by omega) (by omega)
 generalize hL:c[m]=L at *;generalize hE:(jY d)[n]=E at *;have tE:=hb2.1.tz (by omega);have t1:=jDG E.2 p tE hpl;have t2:=jDH E.2 p tE hpl;rw [jqh,js7];cases hat:atI p E.2 with
 | none=>
  rw [hat] at t1 t2;have t1:G 194 [tm E.2,ints p]=some (.tup [.agg [sv [],.sl 2 []],vb false],[]):=t1;have t2:G 176 [tm E.2,ints p]=some (.tup [.agg [sv [],.sl 2 []],vb false],[]):=t2;refine ⟨none,?_,?_,λx h=>by cases h⟩
  .simp only [jd,p1,p2,p3,x1,x3,Qo,jaH,ldA,ldB,ldT,hs,e3,hp0,sl,sr,cs,jf,a1,t1];rfl
  .simp only [jd,a2,c1,q1,c2,q2,q3,x1,x3,ze,e4,hp0,Qo,jaH,ldA,ldB,ldT,sl,sr,cs,jf,t2];rfl
 | some w=>
  rw [hat] at t1 t2;have t1:G 194 [tm E.2,ints p]=some (.tup [tm w,vb true],[]):=t1;have t2:G 176 [tm E.2,ints p]=some (.tup [tm w,vb true],[]):=t2;obtain ⟨q,hpe,hq,hw⟩:=jxp hat;have hqne:q≠ []:=λh=>hp (by rw [hpe,h];rfl);have hql:q.length<=2000000:=by rw [hpe,jM] at hpl;omega
  obtain ⟨kw,nw⟩:=jzV hqne hq hb2.1.args;rw [<-hw] at kw nw;obtain ⟨tzw,exw⟩:=jeT kw (by omega);obtain ⟨tzl,exl⟩:=jeT kl nl;obtain ⟨tzr,exr⟩:=jeT kr nr;have v1:=yM w (Or.inl kw);have v2:=zy w.name ((kJ w).1 tzw.wf).1;cases hv:ju w.name<;>rw [hv] at v1 v2
  rotate_left
  .refine ⟨none,?_,?_,λx h=>by cases h⟩
   .simp only [jd,p1,p2,p3,x1,x3,Qo,jaH,ldA,ldB,ldT,hs,e3,hp0,sl,sr,cs,jf,a1,t1,v1];rfl
   .simp only [jd,a2,c1,q1,c2,q2,q3,x1,x3,ze,e4,hp0,Qo,jaH,ldA,ldB,ldT,sl,sr,cs,jf,t2,v2];rfl
  have u1:=jga l w exl exw;have u2:=jbG l w exl exw;obtain ⟨u,b,hu,hut,huf⟩:=jdV (jaj l w);rw [hu] at u1 u2;cases b
  .refine ⟨none,?_,?_,λx h=>by cases h⟩
   .simp only [jd,p1,p2,p3,x1,x3,Qo,jaH,ldA,ldB,ldT,hs,e3,hp0,sl,sr,cs,jf,a1,t1,v1,u1];rfl
   .simp only [jd,a2,c1,q1,c2,q2,q3,x1,x3,ze,e4,hp0,Qo,jaH,ldA,ldB,ldT,sl,sr,cs,jf,t2,v2,u2];rfl
  have hval:=Yv exl exw (hut rfl);have b1:=yE u hval l (Or.inl kl) (by omega);have b2:=yE u hval r (Or.inl kr) (by omega);have b3:=Ze u (yO hval).sz l tzl;have b4:=Ze u (yO hval).sz r tzr;have tsl:=KA.sub_tz hval (Or.inl kl) (by omega);have tsr:=KA.sub_tz hval (Or.inl kr) (by omega);have b5:=Zd (sub u l) tsl.wf tsl;have b6:=Zd (sub u r) tsr.wf tsr;rw [jd5 hval kl] at b5;rw [jd5 hval kr] at b6;cases s1:jG (sub u l)<;>rw [s1] at b1 b5
  .have b1:G 196 [sb u,tm l]=some (.tup [.agg [sv [],.sl 2 []],vb false],[]):=b1;obtain ⟨z,hz⟩:∃z:T × Bool,G 196 [sb u,tm r]=some (.tup [tm z.1,vb z.2],[]):=by
    cases h:jG (sub u r)<;>rw [h] at b2
    .exact ⟨(.mk [] [],false),b2⟩
    .exact ⟨(sub u r,true),b2⟩
   refine ⟨none,?_,?_,λx h=>by cases h⟩
   .simp only [jd,p1,p2,p3,x1,x3,Qo,jaH,ldA,ldB,ldT,hs,e3,hp0,sl,sr,cs,jf,a1,t1,v1,u1,b1,hz];rfl
   .simp only [jd,a2,c1,q1,c2,q2,q3,x1,x3,ze,e4,hp0,Qo,jaH,ldA,ldB,ldT,sl,sr,cs,jf,t2,v2,u2,b3,b4,b5];rfl
  have b1:G 196 [sb u,tm l]=some (.tup [tm (sub u l),vb true],[]):=b1;cases s2:jG (sub u r)<;>rw [s2] at b2 b6
  .have b2:G 196 [sb u,tm r]=some (.tup [.agg [sv [],.sl 2 []],vb false],[]):=b2;refine ⟨none,?_,?_,λx h=>by cases h⟩
   .simp only [jd,p1,p2,p3,x1,x3,Qo,jaH,ldA,ldB,ldT,hs,e3,hp0,sl,sr,cs,jf,a1,t1,v1,u1,b1,b2];rfl
   .simp only [jd,a2,c1,q1,c2,q2,q3,x1,x3,ze,e4,hp0,Qo,jaH,ldA,ldB,ldT,sl,sr,cs,jf,t2,v2,u2,b3,b4,b5,b6];rfl
  have b2:G 196 [sb u,tm r]=some (.tup [tm (sub u r),vb true],[]):=b2;obtain ⟨o,o1,o2,_⟩:=jrf (sub u l) (sub u r) tsl.wf tsr.wf tsl tsr (by rw [jd5 hval kl];exact s1) (by rw [jd5 hval kr];exact s2);by_cases h1:o=1
  .refine ⟨none,?_,?_,λx h=>by cases h⟩
   .simp only [jd,p1,p2,p3,x1,x3,Qo,jaH,ldA,ldB,ldT,hs,e3,hp0,sl,sr,cs,jf,a1,t1,v1,u1,b1,b2,o2,h1];rfl
   .simp only [jd,a2,c1,q1,c2,q2,q3,x1,x3,ze,e4,hp0,Qo,jaH,ldA,ldB,ldT,sl,sr,cs,jf,t2,v2,u2,b3,b4,b5,b6,o1,h1];rfl
  by_cases h3:o=3
  .refine ⟨none,?_,?_,λx h=>by cases h⟩
   .have h13:¬(3:Int)=1:=by decide
    simp only [jd,p1,p2,p3,x1,x3,Qo,jaH,ldA,ldB,ldT,hs,e3,hp0,sl,sr,cs,jf,a1,t1,v1,u1,b1,b2,o2,h3,h13];rfl
   .have h13:¬(3:Int)=1:=by decide
    simp only [jd,a2,c1,q1,c2,q2,q3,x1,x3,ze,e4,hp0,Qo,jaH,ldA,ldB,ldT,sl,sr,cs,jf,t2,v2,u2,b3,b4,b5,b6,o1,h3,h13];rfl
  have hint:=jx8 q;have rp1:=jh2 r tzr q E.2 tE hq hql;have rp2:=jpk r tzr q E.2 tE hq hql;rw [<-hint,<-hpe] at rp1 rp2;have hbw:=jCB kr hqne hq hb2.1;have hnw:=jkZ r q E.2 hq;have hlnA:=LN.append cc ce m n;have hlen8:(c.eraseIdx m).length<=8/\((jY d).eraseIdx n).length<=8:=⟨by have:=jk9 c m;omega,by have:=jk9 (jY d) n;have:=ce.1;omega⟩;have hln:LN (c.eraseIdx m++(jY d).eraseIdx n++[(E.1,zq r q E.2)]):=⟨by
   rw [ym,ym];simp only [yd,qM];omega,λx hx=>by
   rcases kM.1 hx with hx|hx
   .exact hlnA.2 x hx
   .rw [kG.1 hx];exact ⟨hbw,by show nodes (zq r q E.2)<=100;omega⟩⟩
  have w1:=Zr c (by omega) m hm;have w2:=Zr (jY d) (by omega) n hn2;have w3:=Ky c (by omega) m hm;have w4:=Ky (jY d) (by omega) n hn2;have cat:=jlU [c.eraseIdx m,(jY d).eraseIdx n,[(E.1,zq r q E.2)]] (by simp) (λx hx=>by
   simp only [kW,jcv,jdF] at hx;rcases hx with rfl|rfl|rfl
   .omega
   .omega
   .simp)
  have hfl: [c.eraseIdx m,(jY d).eraseIdx n,[(E.1,zq r q E.2)]].flatten=c.eraseIdx m++(jY d).eraseIdx n++[(E.1,zq r q E.2)]:=by simp
  rw [hfl] at cat;have cat:jgp [[.sl 3 ((c.eraseIdx m).map j8)],[.sl 3 (((jY d).eraseIdx n).map j8)],[.sl 3 [[vb E.1,sv (zq r q E.2).name,jQ (zq r q E.2).args]]]]=some (.top,[.sl 3 ((c.eraseIdx m++(jY d).eraseIdx n++[(E.1,zq r q E.2)]).map j8)]):=cat;have g1:=ZH u hval _ hln;have g2:=KN u hval _ hln;have hf:jK ((c.eraseIdx m).length+((jY d).eraseIdx n).length) 48=true:=jaU (by omega);have ha:jU ((c.eraseIdx m).map j8) (((jY d).eraseIdx n).map j8)=(c.eraseIdx m++(jY d).eraseIdx n).map j8:=by rw [zV];rfl
  have hf2:jK ((c.eraseIdx m++(jY d).eraseIdx n).length+1) 48=true:=jaU (by rw [ym];omega)
  have ha2:jU ((c.eraseIdx m++(jY d).eraseIdx n).map j8) [[vb E.1,sv (zq r q E.2).name,jQ (zq r q E.2).args]]=(c.eraseIdx m++(jY d).eraseIdx n++[(E.1,zq r q E.2)]).map j8:=by rw [zV (l₁:=c.eraseIdx m++(jY d).eraseIdx n)];rfl
  refine ⟨JW u (c.eraseIdx m++(jY d).eraseIdx n++[(E.1,zq r q E.2)]),?_,?_,λx hx=>ZN hx⟩
  .obtain ⟨c',b',hr⟩:=zL (JW u (c.eraseIdx m++(jY d).eraseIdx n++[(E.1,zq r q E.2)]));rw [hr] at g1 ⊢;generalize c.eraseIdx m++(jY d).eraseIdx n++[(E.1,zq r q E.2)]=Z at *;simp only [jd,p1,p2,p3,x1,x3,Qo,jaH,ldA,ldB,ldT,hs,e3,hp0,sl,sr,cs,jf,a1,t1,v1,u1,b1,b2,o2,h1,h3,rp1];generalize hB:zo _ _ _=B;have hB':B=some (ltm (E.1,zq r q E.2)):=by rw [<-hB];kernel_rfl
   rw [hB'];simp only [jd,w1,w2,cat,hRl,g1]
  .obtain ⟨c',b',hr⟩:=zL (JW u (c.eraseIdx m++(jY d).eraseIdx n++[(E.1,zq r q E.2)]));rw [hr] at g2 ⊢;generalize c.eraseIdx m++(jY d).eraseIdx n++[(E.1,zq r q E.2)]=Z at *;simp only [jd,a2,c1,q1,c2,q2,q3,x1,x3,ze,e4,hp0,Qo,jaH,ldA,ldB,ldT,sl,sr,cs,jf,t2,v2,u2,b3,b4,b5,b6,o1,h1,h3,w3,w4,hRl,hf,ha,rp2];generalize hB:zo _ _ _=B;have hB':B=some (ltm (E.1,zq r q E.2)):=by rw [<-hB];kernel_rfl
   rw [hB'];simp only [jd,hf2,ha2,g2]
theorem jpf (c d:zg) (hc:jX c=true) (hd:jX d=true) (i side k:Int) (p:List Int) (hpl:p.length<=1048576):∃o:Option zg,G 152 [cm c,vi i,vi side,cm d,vi k,ints p]=Zh o/\G 143 [cm c,vi i,vi side,cm d,vi k,ints p]=Zh o/\ ∀x,o=some x->jX x=true:=by
 obtain ⟨cc,_,_,_⟩:=kL hc;obtain ⟨cd,_,_,_⟩:=kL hd;have lc:=cc.1;have ld:=cd.1;have le:=jgG d;have a2:=jgF d hd;have p1:=zR c (by omega) i;have p2:=zR d (by omega) k;have c1:ck (((c.length:Nat):Int) - 1)=some (vi (((c.length:Nat):Int) - 1)):=jZ (by omega) (by omega);have c2:ck ((((jY d).length:Nat):Int) - 1)=some (vi ((((jY d).length:Nat):Int) - 1)):=jZ (by omega) (by omega);have q1:=zN i 0 (((c.length:Nat):Int) - 1);have q2:=zN k 0 ((((jY d).length:Nat):Int) - 1);have q3:=zN side 0 1;have p3:=yw side 0 1;have hi':yS 0 (((c.length:Nat):Int) - 1) i=Yl c i:=rfl;have hk':yS 0 ((((jY d).length:Nat):Int) - 1) k=Yl d k:=by rw [le];rfl
 rw [hi'] at q1;rw [hk'] at q2;cases hi:Yl c i<;>rw [hi] at p1 q1
 .exact ⟨none,by rw [jqh];simp only [jd,p1];rfl,by rw [js7];simp only [jd,a2,c1,q1];rfl,λx h=>by cases h⟩
 cases hk:Yl d k<;>rw [hk] at p2 q2
 .exact ⟨none,by rw [jqh];simp only [jd,p1,p2];rfl,by rw [js7];simp only [jd,a2,c1,q1,c2,q2];rfl,λx h=>by cases h⟩
 cases hs:yS 0 1 side<;>rw [hs] at p3 q3
 .exact ⟨none,by rw [jqh];simp only [jd,p1,p2,p3];rfl,by rw [js7];simp only [jd,a2,c1,q1,c2,q2,q3];rfl,λx h=>by cases h⟩
 obtain ⟨m,rfl,hm⟩:=Kn hi;obtain ⟨n,rfl,hn⟩:=Kn hk;have x1:=ja (k:=3) (f:=j8) hm;have hb1:=cc.2 _ (jo hm);have e3:=qv c[m].2;have e4:=jc0 c[m] true;have e4:G 175 [.agg [vb c[m].1,sv c[m].2.name,jQ c[m].2.args],vb true]=_:=e4;by_cases hp:c[m].1=true;rotate_left
 .have hp0:c[m].1=false:=by cases h:c[m].1 with|false=>rfl|true=>exact (hp h).elim
  rw [kA hp,jH] at e4;refine ⟨none,?_,?_,λx h=>by cases h⟩
  .rw [jqh];simp only [jd,p1,p2,p3,x1,Qo,ldB,hp0];rfl
  .rw [js7];simp only [jd,a2,c1,q1,c2,q2,q3,x1,ze,e4];rfl
 rw [jW hp,jJ] at e4;by_cases he:c[m].2.name = [61];rotate_left
 .rw [kA he] at e3 e4;refine ⟨none,?_,?_,λx h=>by cases h⟩
  .rw [jqh];simp only [jd,p1,p2,p3,x1,Qo,ldB,ldT,hp,e3];rfl
  .rw [js7];simp only [jd,a2,c1,q1,c2,q2,q3,x1,ze,e4];rfl
 by_cases hne:p = []
 .have e3':=e3;rw [jW he] at e3' e4;subst hne;have hl:kE (ints [])=some (vi 0):=rfl;refine ⟨none,?_,?_,λx h=>by cases h⟩
  .rw [jqh];simp only [jd,p1,p2,p3,x1,Qo,ldB,ldT,hp,e3',hl];rfl
  .rw [js7];simp only [jd,a2,c1,q1,c2,q2,q3,x1,ze,e4,hl];rfl
 obtain ⟨_,k0,k1,n0,n1,i0,i1⟩:=jqa hb1.1 he hb1.2;have hside:side=0\/side=1:=by
  unfold yS at hs;rw [jy,kK,kK] at hs;omega
 rcases hside with rfl|rfl
 .exact jdw c d cc hd m n hm hn hp he (jaJ c[m].2) (jcp c[m].2) 0 hs i0 i1 k0 k1 n0 n1 p hpl hne
 .exact jdw c d cc hd m n hm hn hp he (jcp c[m].2) (jaJ c[m].2) 1 hs i1 i0 k1 k0 n1 n0 p hpl hne
theorem jkQ (c d:zg) (lc:c.length<=1048576) (zc:∀l∈c,Tz l.2) (ld:d.length<=1048576) (zd:∀l∈d,Tz l.2) (i side k:Int) (p:List Int) (hpl:p.length<=1048576):jvv 114 102 [cm c,vi i,vi side,cm d,vi k,ints p]:=by
 have n1:=yG c lc zc;have n2:=yG d ld zd;have m1:=qm c lc zc;have m2:=qm d ld zd;cases hc:jX c<;>rw [hc] at n1 m1
 .exact Kl (by rw [jBz];simp only [jd,n1]) (by rw [jEi];simp only [jd,m1])
 cases hd:jX d<;>rw [hd] at n2 m2
 .exact Kl (by rw [jBz];simp only [jd,n1,n2]) (by rw [jEi];simp only [jd,m1,m2])
 obtain ⟨r,e1,e2,e3⟩:=jpf c d hc hd i side k p hpl;obtain ⟨c',b',hr⟩:=zL r;refine ⟨r,?_,?_,e3⟩
 .rw [hr] at e1 ⊢;rw [jBz];simp only [jd,n1,n2,e1]
 .rw [hr] at e2 ⊢;rw [jEi];simp only [jd,m1,m2,e2]
noncomputable def rwL (rs:List T):zg->Option zg
 | []=>some []
 | x::r=>(match rwN rs false 51 0 x.2 with
  | none=>none
  | some q=>(rwL rs r).map ((x.1,q.1)::·))
theorem jrU {rs:List T} {c:zg} {i:Nat} (h:i < c.length):rwL rs (c.drop i)=(match rwN rs false 51 0 c[i].2 with|none=>none|some q=>(rwL rs (c.drop (i+1))).map ((c[i].1,q.1)::·)):=by
 rw [jh h];rfl
noncomputable def jid (rs:List T) (R:zg) (l:zg):Option zg:=(rwL rs l).bind λr=>JW [] (R++r)
theorem jrL (c:zg) (hc:jX c=true) (rs:List T) (hr:RS rs):∃r:Option zg,jiP (jQ rs) (.sl 3 (c.map j8)) (vi (c.length:Nat)) (vi 0) [] []=Zh r/\G 182 [cm c,jQ rs]=Zh r/\ ∀x,r=some x->jX x=true:=by
 obtain ⟨cc,_,_,_⟩:=kL hc;have lc:=cc.1;have zb:sb [] = .agg [.sl 3 []]:=rfl;have ld:∀l:Lt,kq (.elt (j8 l) 0)=some (vb l.1):=λl=>rfl;have kI:=upto (P:=λi=>∀R:zg,R.length<=i->(∀x∈R,Bx x.2/\nodes x.2<=100)->jiP (jQ rs) (.sl 3 (c.map j8)) (vi (c.length:Nat)) (vi (i:Nat)) (R.map j8) []=Zh (jid rs R (c.drop i))) (n:=c.length) ?_ ?_ 0 (jD _) [] (jD _) (λx h=>by cases h);rotate_left
 .intro R hR hx;have e:=ZH [] jhf R ⟨by omega,hx⟩;have hend:jid rs R (c.drop c.length)=JW [] R:=by
   rw [j6];show JW [] (R++[])=_;rw [JD]
  rw [hend];obtain ⟨c',b',hr'⟩:=zL (JW [] R);rw [hr'] at e ⊢;have e:G 156 [.agg [.sl 3 []],.sl 3 (R.map j8)]=_:=e;rw [jyj];simp only [jd,e]
 .intro i hi ih R hR hx;have hlt:(i:Int) < ((c.length:Nat):Int):=by omega
  have hck:ck ((i:Int)+1)=some (vi ((i+1:Nat):Int)):=jZ (by omega) (by omega);have hb:=cc.2 _ (jo hi);have e1:=jAo rs hr c[i].2 (hb.1.exB hb.2);have hf:jK (R.length+1) 48=true:=jaU (by omega);rw [jyj];unfold jid;rw [jrU hi];cases hq:rwN rs false 51 0 c[i].2 with
  | none=>
   rw [hq] at e1;have e1:G 155 [tm c[i].2,jQ rs,vb false]=some (.tup [.agg [sv [],.sl 2 []],vi 0,vb false],[]):=e1;simp only [jd,hlt,ja hi,ze,e1];rfl
  | some q=>
   rw [hq] at e1;have e1:G 155 [tm c[i].2,jQ rs,vb false]=some (.tup [tm q.1,vi (q.2:Nat),vb true],[]):=e1;obtain ⟨bq,nq⟩:=jhb hr 51 0 (hb.1.exB hb.2) hq;have:=ih (R++[(c[i].1,q.1)]) (by rw [ym];simp only [yd,qM];omega) (λx h=>by
    rcases kM.1 h with h|h
    .exact hx x h
    .rw [kG.1 h];exact ⟨bq,by show nodes q.1<=100;omega⟩)
   have ha:jU (R.map j8) [[vb c[i].1,sv q.1.name,jQ q.1.args]]=(R++[(c[i].1,q.1)]).map j8:=by rw [zV];rfl
   have hend:((rwL rs (c.drop (i+1))).map ((c[i].1,q.1)::·)).bind (λr=>JW [] (R++r))=jid rs (R++[(c[i].1,q.1)]) (c.drop (i+1)):=by
    unfold jid;cases rwL rs (c.drop (i+1)) with
    | none=>rfl
    | some r=>show JW [] (R++(c[i].1,q.1)::r)=JW [] (R++[(c[i].1,q.1)]++r);rw [yf];rfl
   show _=Zh (((rwL rs (c.drop (i+1))).map ((c[i].1,q.1)::·)).bind (λr=>JW [] (R++r)));rw [hend,<-this];simp only [jd,hlt,ja hi,ze,e1,hf,ha,hck]
 have kS:=upto (P:=λi=>∀R:zg,R.length<=i->(∀x∈R,Bx x.2/\nodes x.2<=100)->jnq (jQ rs) (vi (i:Nat)) (.sl 3 (c.map j8)) (R.map j8) []=Zh (jid rs R (c.drop i))) (n:=c.length) ?_ ?_ 0 (jD _) [] (jD _) (λx h=>by cases h);rotate_left
 .intro R hR hx;have e:=KN [] jhf R ⟨by omega,hx⟩;have hend:jid rs R (c.drop c.length)=JW [] R:=by
   rw [j6];show JW [] (R++[])=_;rw [JD]
  rw [hend];obtain ⟨c',b',hr'⟩:=zL (JW [] R);rw [hr'] at e ⊢;have e:G 173 [.agg [.sl 3 []],.sl 3 (R.map j8)]=_:=e;rw [jyE];simp only [jd,e]
 .intro i hi ih R hR hx;have hlt:(i:Int) < ((c.length:Nat):Int):=by omega
  have hck:ck ((i:Int)+1)=some (vi ((i+1:Nat):Int)):=jZ (by omega) (by omega);have hb:=cc.2 _ (jo hi);have e1:=jAp rs hr c[i].2 (hb.1.exB hb.2);have hf:jK (R.length+1) 48=true:=jaU (by omega);rw [jyE];unfold jid;rw [jrU hi];cases hq:rwN rs false 51 0 c[i].2 with
  | none=>
   rw [hq] at e1;have e1:G 226 [tm c[i].2,jQ rs,vb false]=some (.tup [.agg [sv [],.sl 2 []],vi 0,vb false],[]):=e1;simp only [jd,hlt,ja hi,Qo,ldT,e1];rfl
  | some q=>
   rw [hq] at e1;have e1:G 226 [tm c[i].2,jQ rs,vb false]=some (.tup [tm q.1,vi (q.2:Nat),vb true],[]):=e1;obtain ⟨bq,nq⟩:=jhb hr 51 0 (hb.1.exB hb.2) hq;have:=ih (R++[(c[i].1,q.1)]) (by rw [ym];simp only [yd,qM];omega) (λx h=>by
    rcases kM.1 h with h|h
    .exact hx x h
    .rw [kG.1 h];exact ⟨bq,by show nodes q.1<=100;omega⟩)
   have ha:jU (R.map j8) [[vb c[i].1,sv q.1.name,jQ q.1.args]]=(R++[(c[i].1,q.1)]).map j8:=by rw [zV];rfl
   have hend:((rwL rs (c.drop (i+1))).map ((c[i].1,q.1)::·)).bind (λr=>JW [] (R++r))=jid rs (R++[(c[i].1,q.1)]) (c.drop (i+1)):=by
    unfold jid;cases rwL rs (c.drop (i+1)) with
    | none=>rfl
    | some r=>show JW [] (R++(c[i].1,q.1)::r)=JW [] (R++[(c[i].1,q.1)]++r);rw [yf];rfl
   show _=Zh (((rwL rs (c.drop (i+1))).map ((c[i].1,q.1)::·)).bind (λr=>JW [] (R++r)));rw [hend,<-this];simp only [jd,hlt,ja hi,Qo,ldB,ldT,e1,hf,ha,hck]
 simp only [jP,ye,kg] at kI kS;refine ⟨jid rs [] c,kI,?_,λx h=> ?_⟩
 .rw [jK9];simp only [jd,kS]
 .unfold jid at h;rw [zJ] at h;obtain ⟨r,_,h⟩:=h;exact ZN h
theorem jlC (c:zg) (lc:c.length<=1048576) (zc:∀l∈c,Tz l.2) (rs:List T) (hl:rs.length<=1048576) (hz:∀r∈rs,Tz r):jvv 117 145 [cm c,jQ rs]:=by
 have n1:=yG c lc zc;have m1:=qm c lc zc;cases hc:jX c<;>rw [hc] at n1 m1
 .exact Kl (by rw [jEk];simp only [jd,n1]) (by rw [jBA];simp only [jd,m1])
 obtain ⟨b,r1,r2,hb⟩:=jrQ rs hl hz;cases b
 .exact Kl (by rw [jEk];simp only [jd,n1,r2]) (by rw [jBA];simp only [jd,m1,r1])
 obtain ⟨r,e1,e2,e3⟩:=jrL c hc rs (hb rfl).1;obtain ⟨c',b',hr⟩:=zL r;refine ⟨r,?_,?_,e3⟩
 .rw [hr] at e1 ⊢;rw [jEk];simp only [jd,n1,r2,e1]
 .rw [hr] at e2 ⊢;rw [jBA];simp only [jd,m1,r1,e2]
def Cz (c:zg):Prop:=c.length<=1048576/\ ∀l∈c,Tz l.2
noncomputable def wfP (p:Prf):Bool:=decide (p.ax.length<=30) && p.ax.all jX && decide (p.st.length<=60)
theorem jlo (c:zg) (hc:Cz c):G 108 [cm c]=some (vb (!jX c),[]):=by
 have e:=yG c hc.1 hc.2;rw [jKt];simp only [jd,e]
theorem jqv (l:List zg) (hl:l.length<=1048576) (hz:∀c∈l,Cz c):∃k:Int,jiR (cls l) (.fn 108 []) (vi (l.length:Nat)) (vi 0)=some (vi k,[])/\decide (k>=0)=l.any (λc=> !jX c):=by
 have key:=upto (P:=λi=>∃k:Int,jiR (cls l) (.fn 108 []) (vi (l.length:Nat)) (vi (i:Nat))=some (vi k,[])/\decide (k>=0)=(l.drop i).any (λc=> !jX c)) (n:=l.length) ?_ ?_ 0 (jD _)
 .simpa only [jP,kg] using key
 .refine ⟨-1,?_,?_⟩
  .rw [jyo];simp only [jd]
  .rw [j6];rfl
 .intro i hi ⟨k,ih1,ih2⟩;have hlt:(i:Int) < ((l.length:Nat):Int):=by omega
  have h5:=jm hi (by show l.length<=9223372036854775807;omega)
  have e1:=jlo l[i] (hz _ (jo hi));have hp:K.pureF 108=true:=rfl;have cc:DX.run K (MM K) (.callc (.fn 108 []) [cm l[i]] false)=some (vb (!jX l[i])):=by
   rw [qD hp,JD,e1];rfl
  rw [jyo,jh hi,List.any_cons];cases hn:jX l[i]<;>rw [hn] at cc
  .refine ⟨i,?_,?_⟩
   .simp only [jd,hlt,ja hi,JK,cc]
   .rw [jW (by omega)];rfl
  .refine ⟨k,?_,?_⟩
   .simp only [jd,hlt,ja hi,JK,cc,h5,ih1]
   .rw [ih2];rfl
theorem joe (l:List zg) (hl:l.length<=1048576) (hz:∀c∈l,Cz c):G 79 [cls l]=some (vb (l.all jX),[]):=by
 obtain ⟨k,h1,h2⟩:=jqv l hl hz;have e2:G 147 [cls l,.fn 108 []]=some (vi k,[]):=by
  rw [jKK];simp only [jd,h1]
 have e3:G 107 [cls l,.fn 108 []]=some (vb (l.any (λc=> !jX c)),[]):=by
  rw [jKs];simp only [jd,e2,h2]
 have e4:(!l.any (λc=> !jX c))=l.all jX:=by rw [List.all_eq_not_any_not]
 rw [g79];simp only [jd,e3,e4]
theorem jak (p:Prf) (ha:p.ax.length<=1048576) (hz:∀c∈p.ax,Cz c):G 47 [Yr p]=some (vb (wfP p),[]):=by
 have e:=joe p.ax ha hz;unfold wfP;rw [g47];by_cases h1:((p.ax.length:Nat):Int)<=30
 .rw [jW (p:=p.ax.length<=30) (by omega),jJ];cases h2:p.ax.all jX<;>rw [h2] at e
  .rw [jH];simp only [jd,h1,e]
  .rw [jJ,show decide (p.st.length<=60)=decide (((p.st.length:Nat):Int)<=60) from jhi.2 (by omega)];simp only [jd,h1,e]
 .rw [kA (p:=p.ax.length<=30) (by omega),jH,jH];simp only [jd,h1]
theorem jc9 (p:Prf) (ha:p.ax.length<=1048576) (hz:∀c∈p.ax,Cz c):G 42 [Yr p]=some (vb (wfP p),[]):=by
 have key:=upto (P:=λi=>jua (vi (i:Nat)) (cls p.ax) (yr p.st)=some (vb ((p.ax.drop i).all jX),[])) (n:=p.ax.length) ?_ ?_ 0 (jD _)
 .simp only [jP,kg] at key;unfold wfP;rw [g42];by_cases h1:((p.ax.length:Nat):Int) > 30
  .rw [kA (p:=p.ax.length<=30) (by omega),jH,jH];simp only [jd,h1]
  .by_cases h2:((p.st.length:Nat):Int) > 60
   .rw [kA (p:=p.st.length<=60) (by omega),yb];simp only [jd,h1,h2]
   .rw [jW (p:=p.st.length<=60) (by omega),jW (p:=p.ax.length<=30) (by omega),jJ,ja8];simp only [jd,h1,h2,key]
 .rw [jCW,j6];simp only [jd]
 .intro i hi ih;have hlt:(i:Int) < ((p.ax.length:Nat):Int):=by omega
  have h5:=jm hi (by show p.ax.length<=9223372036854775807;omega)
  have hc:=hz _ (jo hi);have e1:=qm p.ax[i] hc.1 hc.2;rw [jCW,jh hi,zB];cases hn:jX p.ax[i]<;>rw [hn] at e1
  .rw [jH];simp only [jd,hlt,ja hi,JK,e1]
  .rw [jJ,<-ih];simp only [jd,hlt,ja hi,JK,e1,h5]
theorem ZE (a:A):Z1 a a=true:=by unfold Z1;exact @jW _ (Classical.propDecidable _) rfl
def Pok (p:Prf) (s:Stp):Prop:=∀x∈s.par,0<=x/\x < ((p.st.length:Nat):Int)
theorem adS (q:Stp):yI (.elt (stc q) 0) 3=some (.elt (stc q) 3):=by rw [qp,yc]
theorem ldC (q:Stp):ky 1 (.elt (stc q) 3)=some (cm q.cls):=rfl
theorem ixN {l:List Int} {j:Nat} (h:j < l.length) {k:Int} (hk:k=(j:Int)):jg 1 (ints l) (vi k)=some (.elt (ci l[j]) 0):=by
 rw [hk];exact ja h
theorem qT {p:Prf} {l:List Int} (hr:∀x∈l,0<=x/\x < ((p.st.length:Nat):Int)) (j:Nat) (hj:j < l.length):∃q∈p.st,p.st[l[j].toNat]? = some q/\jg 4 (yr p.st) (vi l[j])=some (.elt (stc q) 0):=by
 have h:=hr _ (jo hj);generalize l[j]=x at h ⊢;obtain ⟨n,rfl⟩:=jce h.1;have hlt:n < p.st.length:=by omega
 exact ⟨p.st[n],jo hlt,by rw [jgg,kh hlt],ja hlt⟩
theorem jeA {p:Prf} {s:Stp} (j:Nat) (hj:j < s.par.length) {k:Int} (hk:k=(j:Int)) {q:Stp} (hq:jg 4 (yr p.st) (vi s.par[j])=some (.elt (stc q) 0)) :
  QQ (vi k) (cls p.ax) (yr p.st) (vi s.rule) (ints s.par) (ints s.whr) (.sl 3 (s.cls.map j8))=some (.top,[cls p.ax,yr p.st,vi s.rule,ints s.par,ints s.whr,.sl 3 (s.cls.map j8),.sl 3 (q.cls.map j8)]):=by
 have e:=ixN hj hk;rw [jDL];simp only [jd,e,yK,hq,adS,ldC]
section
variable (a b c d e f g:A)
theorem jqi:([a,b,c,d,e,f,g]:List A)[0]? = some a:=rfl
theorem jqj:([a,b,c,d,e,f,g]:List A)[1]? = some b:=rfl
theorem jqk:([a,b,c,d,e,f,g]:List A)[2]? = some c:=rfl
theorem jql:([a,b,c,d,e,f,g]:List A)[3]? = some d:=rfl
theorem jqm:([a,b,c,d,e,f,g]:List A)[4]? = some e:=rfl
theorem jqn:([a,b,c,d,e,f,g]:List A)[5]? = some f:=rfl
theorem jqo:([a,b,c,d,e,f,g]:List A)[6]? = some g:=rfl
end
def Res (o:Option Out) (r:Option zg):Prop:=∃(c:zg) (b:Bool),o=some (.tup [cm c,vb b],[])/\(b=true->r=some c)/\(b=false->r=none)
theorem Res.of {o:Option Out} {r:Option zg} {c:zg} {b:Bool} (h:Zh r=some (.tup [cm c,vb b],[])) (ho:o=some (.tup [cm c,vb b],[])):Res o r:=by
 cases r with
 | none=>exact ⟨[],false,by rw [ho,<-h];rfl,(λh=>by cases h),λ_=>rfl⟩
 | some c'=>exact ⟨c',true,by rw [ho,<-h];rfl,(λ_=>rfl),λh=>by cases h⟩
def joa (p:Prf) (s:Stp):Prop:=∃r:Option zg,Res (G 82 [Yr p,stm s]) r/\Res (G 75 [Yr p,stm s]) r/\ ∀c,r=some c->Cz c/\(wfP p=true->jX c=true)
theorem zP {p:Prf} {s:Stp} (h1:G 82 [Yr p,stm s]=some (.tup [cz,vb false],[])) (h2:G 75 [Yr p,stm s]=some (.tup [cz,vb false],[])):joa p s:=
 ⟨none,⟨[],false,h1,(λh=>by cases h),λ_=>rfl⟩,⟨[],false,h2,(λh=>by cases h),λ_=>rfl⟩,λc h=>by cases h⟩
theorem jE7 {p:Prf} (h:wfP p=true):∀c∈p.ax,jX c=true:=by
 unfold wfP at h;rw [jy,jy] at h;exact λc hc=>z7.1 h.1.2 c hc
theorem Zg {c:zg} (h:jX c=true):Cz c:=⟨by have:=(kL h).1.1;omega,(kL h).1.tz⟩
theorem jM2 (p:Prf) (s:Stp) (hs:s.rule=1) (hz:∀c∈p.ax,Cz c) (ha:p.ax.length<=1048576):joa p s:=by
 have a1:(s.rule=1)=True:=eq_true hs;have a2:(s.rule=2)=False:=qd (by omega);have a3:(s.rule=3)=False:=qd (by omega);have a4:(s.rule=4)=False:=qd (by omega);have a5:(s.rule=5)=False:=qd (by omega);have a6:(s.rule=6)=False:=qd (by omega);by_cases h1:((s.par.length:Nat):Int)=0;rotate_left
 .exact zP (by rw [g82];simp only [jd,a1,a2,a3,a4,a5,a6,h1]) (by rw [g75];simp only [jd,a1,a2,a3,a4,a5,a6,h1])
 by_cases h2:((s.whr.length:Nat):Int)=1;rotate_left
 .exact zP (by rw [g82];simp only [jd,a1,a2,a3,a4,a5,a6,h1,h2]) (by rw [g75];simp only [jd,a1,a2,a3,a4,a5,a6,h1,h2])
 have w0:=ixN (l:=s.whr) (j:=0) (by omega) (k:=0) rfl;have c1:ck (((p.ax.length:Nat):Int) - 1)=some (vi (((p.ax.length:Nat):Int) - 1)):=jZ (by omega) (by omega);have p1:=yw s.whr[0] 0 (((p.ax.length:Nat):Int) - 1);have q1:=zN s.whr[0] 0 (((p.ax.length:Nat):Int) - 1);cases hb:yS 0 (((p.ax.length:Nat):Int) - 1) s.whr[0]<;>rw [hb] at p1 q1
 .exact zP (by rw [g82];simp only [jd,a1,a2,a3,a4,a5,a6,h1,h2,w0,yK,c1,p1]) (by rw [g75];simp only [jd,a1,a2,a3,a4,a5,a6,h1,h2,w0,yK,c1,q1])
 have hx:0<=s.whr[0]/\s.whr[0] < ((p.ax.length:Nat):Int):=by
  unfold yS at hb;rw [jy,kK,kK] at hb;omega
 obtain ⟨n,hn⟩:=jce hx.1;have hlt:n < p.ax.length:=by omega
 have x1:jg 1 (cls p.ax) (vi s.whr[0])=some (.elt (clc p.ax[n]) 0):=by rw [hn];exact ja hlt
 refine ⟨some p.ax[n],Res.of rfl ?_,Res.of rfl ?_,λc h=>by cases h;exact ⟨hz _ (jo hlt),λhw=>jE7 hw _ (jo hlt)⟩⟩
 .rw [g82];simp only [jd,a1,a2,a3,a4,a5,a6,h1,h2,w0,yK,c1,p1,x1,JK]
 .rw [g75];simp only [jd,a1,a2,a3,a4,a5,a6,h1,h2,w0,yK,c1,q1,x1,JK]
theorem jM3 (p:Prf) (s:Stp) (hs:s.rule=2) (hr:Pok p s) (hz:∀q∈p.st,Cz q.cls):joa p s:=by
 have a1:(s.rule=1)=False:=qd (by omega);have a2:(s.rule=2)=True:=eq_true hs;have a3:(s.rule=3)=False:=qd (by omega);have a4:(s.rule=4)=False:=qd (by omega);have a5:(s.rule=5)=False:=qd (by omega);have a6:(s.rule=6)=False:=qd (by omega);by_cases h1:((s.par.length:Nat):Int)=2;rotate_left
 .exact zP (by rw [g82];simp only [jd,a1,a2,a3,a4,a5,a6,h1]) (by rw [g75];simp only [jd,a1,a2,a3,a4,a5,a6,h1])
 by_cases h2:((s.whr.length:Nat):Int)=2;rotate_left
 .exact zP (by rw [g82];simp only [jd,a1,a2,a3,a4,a5,a6,h1,h2]) (by rw [g75];simp only [jd,a1,a2,a3,a4,a5,a6,h1,h2])
 have w0:=ixN (l:=s.whr) (j:=0) (by omega) (k:=0) rfl;have w1:=ixN (l:=s.whr) (j:=1) (by omega) (k:=1) rfl;have y0:=ixN (l:=s.par) (j:=0) (by omega) (k:=0) rfl;have y1:=ixN (l:=s.par) (j:=1) (by omega) (k:=1) rfl;obtain ⟨q,mq,_,xq⟩:=qT hr 0 (by omega);obtain ⟨q',mq',_,xq'⟩:=qT hr 1 (by omega);have k0:=jeA (s:=s) 0 (by omega) (k:=0) rfl xq;have k1:=jeA (s:=s) 1 (by omega) (k:=1) rfl xq';obtain ⟨r,e1,e2,e3⟩:=jo5 q.cls q'.cls (hz _ mq).1 (hz _ mq).2 (hz _ mq').1 (hz _ mq').2 s.whr[0] s.whr[1];obtain ⟨c',b',hf⟩:=zL r;rw [hf] at e1 e2;refine ⟨r,Res.of hf ?_,Res.of hf ?_,λc h=>⟨Zg (e3 c h),λ_=>e3 c h⟩⟩
 .rw [g82];simp only [jd,a1,a2,a3,a4,a5,a6,h1,h2,w0,w1,yK,k0,k1,jqi,jqj,jqk,jql,jqm,jqn,jqo,ZE,e1]
 .rw [g75];simp only [jd,a1,a2,a3,a4,a5,a6,h1,h2,w0,w1,y0,y1,yK,xq,xq',adS,ldC,e2]
theorem jM4 (p:Prf) (s:Stp) (hs:s.rule=3) (hr:Pok p s) (hz:∀q∈p.st,Cz q.cls) (hw:∀x∈s.whr,I64 x):joa p s:=by
 have a1:(s.rule=1)=False:=qd (by omega);have a2:(s.rule=2)=False:=qd (by omega);have a3:(s.rule=3)=True:=eq_true hs;have a4:(s.rule=4)=False:=qd (by omega);have a5:(s.rule=5)=False:=qd (by omega);have a6:(s.rule=6)=False:=qd (by omega);by_cases h1:((s.par.length:Nat):Int)=1;rotate_left
 .exact zP (by rw [g82];simp only [jd,a1,a2,a3,a4,a5,a6,h1]) (by rw [g75];simp only [jd,a1,a2,a3,a4,a5,a6,h1])
 by_cases h2:((s.whr.length:Nat):Int)=2;rotate_left
 .exact zP (by rw [g82];simp only [jd,a1,a2,a3,a4,a5,a6,h1,h2]) (by rw [g75];simp only [jd,a1,a2,a3,a4,a5,a6,h1,h2])
 have w0:=ixN (l:=s.whr) (j:=0) (by omega) (k:=0) rfl;have w1:=ixN (l:=s.whr) (j:=1) (by omega) (k:=1) rfl;have y0:=ixN (l:=s.par) (j:=0) (by omega) (k:=0) rfl;obtain ⟨q,mq,_,xq⟩:=qT hr 0 (by omega);have k0:=jeA (s:=s) 0 (by omega) (k:=0) rfl xq;have hi:=hw s.whr[0] (jo (by omega));obtain ⟨r,e1,e2,e3⟩:=jqd q.cls (hz _ mq).1 (hz _ mq).2 s.whr[0] s.whr[1] (by unfold I64 at hi;omega);obtain ⟨c',b',hf⟩:=zL r;rw [hf] at e1 e2;refine ⟨r,Res.of hf ?_,Res.of hf ?_,λc h=>⟨Zg (e3 c h),λ_=>e3 c h⟩⟩
 .rw [g82];simp only [jd,a1,a2,a3,a4,a5,a6,h1,h2,w0,w1,yK,k0,jqi,jqj,jqk,jql,jqm,jqn,jqo,ZE,e1]
 .rw [g75];simp only [jd,a1,a2,a3,a4,a5,a6,h1,h2,w0,w1,y0,yK,xq,adS,ldC,e2]
theorem jM6 (p:Prf) (s:Stp) (hs:s.rule=5) (hr:Pok p s) (hz:∀q∈p.st,Cz q.cls):joa p s:=by
 have a1:(s.rule=1)=False:=qd (by omega);have a2:(s.rule=2)=False:=qd (by omega);have a3:(s.rule=3)=False:=qd (by omega);have a4:(s.rule=4)=False:=qd (by omega);have a5:(s.rule=5)=True:=eq_true hs;have a6:(s.rule=6)=False:=qd (by omega);by_cases h1:((s.par.length:Nat):Int)=1;rotate_left
 .exact zP (by rw [g82];simp only [jd,a1,a2,a3,a4,a5,a6,h1]) (by rw [g75];simp only [jd,a1,a2,a3,a4,a5,a6,h1])
 by_cases h2:((s.whr.length:Nat):Int)=1;rotate_left
 .exact zP (by rw [g82];simp only [jd,a1,a2,a3,a4,a5,a6,h1,h2]) (by rw [g75];simp only [jd,a1,a2,a3,a4,a5,a6,h1,h2])
 have w0:=ixN (l:=s.whr) (j:=0) (by omega) (k:=0) rfl;have y0:=ixN (l:=s.par) (j:=0) (by omega) (k:=0) rfl;obtain ⟨q,mq,_,xq⟩:=qT hr 0 (by omega);have k0:=jeA (s:=s) 0 (by omega) (k:=0) rfl xq;obtain ⟨r,e1,e2,e3⟩:=jkt q.cls (hz _ mq).1 (hz _ mq).2 s.whr[0];obtain ⟨c',b',hf⟩:=zL r;rw [hf] at e1 e2;refine ⟨r,Res.of hf ?_,Res.of hf ?_,λc h=>⟨Zg (e3 c h),λ_=>e3 c h⟩⟩
 .rw [g82];simp only [jd,a1,a2,a3,a4,a5,a6,h1,h2,w0,yK,k0,jqi,jqj,jqk,jql,jqm,jqn,jqo,ZE,e1]
 .rw [g75];simp only [jd,a1,a2,a3,a4,a5,a6,h1,h2,w0,y0,yK,xq,adS,ldC,e2]
theorem jlD (c d:zg) (zc:Cz c) (zd:Cz d) (i side k:Int):G 114 [cm c,vi i,vi side,cm d,vi k,ints []]=some (.tup [cz,vb false],[]):=by
 have n1:=yG c zc.1 zc.2;have n2:=yG d zd.1 zd.2;rw [jBz];cases hc:jX c<;>rw [hc] at n1
 .simp only [jd,n1]
 cases hd:jX d<;>rw [hd] at n2
 .simp only [jd,n1,n2]
 have key:G 152 [cm c,vi i,vi side,cm d,vi k,ints []]=some (.tup [cz,vb false],[]):=by
  obtain ⟨cc,_,_,_⟩:=kL hc;obtain ⟨cd,_,_,_⟩:=kL hd;have lc:=cc.1;have ld:=cd.1;have p1:=zR c (by omega) i;have p2:=zR d (by omega) k;have p3:=yw side 0 1;rw [jqh];cases hi:Yl c i<;>rw [hi] at p1
  .simp only [jd,p1]
  cases hk:Yl d k<;>rw [hk] at p2
  .simp only [jd,p1,p2]
  cases hs:yS 0 1 side<;>rw [hs] at p3
  .simp only [jd,p1,p2,p3]
  obtain ⟨m,rfl,hm⟩:=Kn hi;have x1:=ja (k:=3) (f:=j8) hm;have e3:=qv c[m].2;cases hp:c[m].1
  .simp only [jd,p1,p2,p3,x1,Qo,ldB,hp]
  have hl:kE (ints [])=some (vi 0):=rfl;cases he:decide (c[m].2.name = [61])<;>rw [he] at e3
  .simp only [jd,p1,p2,p3,x1,Qo,ldB,ldT,hp,e3]
  .simp only [jd,p1,p2,p3,x1,Qo,ldB,ldT,hp,e3,hl]
 simp only [jd,n1,n2,key]
theorem jM5 (p:Prf) (s:Stp) (hs:s.rule=4) (hr:Pok p s) (hz:∀q∈p.st,Cz q.cls) (hl:s.whr.length<=1048576):joa p s:=by
 have a1:(s.rule=1)=False:=qd (by omega);have a2:(s.rule=2)=False:=qd (by omega);have a3:(s.rule=3)=False:=qd (by omega);have a4:(s.rule=4)=True:=eq_true hs;have a5:(s.rule=5)=False:=qd (by omega);have a6:(s.rule=6)=False:=qd (by omega);by_cases h1:((s.par.length:Nat):Int)=2;rotate_left
 .exact zP (by rw [g82];simp only [jd,a1,a2,a3,a4,a5,a6,h1]) (by rw [g75];simp only [jd,a1,a2,a3,a4,a5,a6,h1])
 by_cases h2:((s.whr.length:Nat):Int)>=3;rotate_left
 .have h3:¬((s.whr.length:Nat):Int) > 3:=by omega
  exact zP (by rw [g82];simp only [jd,a1,a2,a3,a4,a5,a6,h1,h2]) (by rw [g75];simp only [jd,a1,a2,a3,a4,a5,a6,h1,h3])
 have w0:=ixN (l:=s.whr) (j:=0) (by omega) (k:=0) rfl;have w1:=ixN (l:=s.whr) (j:=1) (by omega) (k:=1) rfl;have w2:=ixN (l:=s.whr) (j:=2) (by omega) (k:=2) rfl;have y0:=ixN (l:=s.par) (j:=0) (by omega) (k:=0) rfl;have y1:=ixN (l:=s.par) (j:=1) (by omega) (k:=1) rfl;have hsl:zS 1 (ints s.whr) (some (vi 3)) none=some (ints (s.whr.drop 3)):=by
  have:=qt (k:=1) (xs:=s.whr.map ci) (i:=3) (by rw [jM];omega)
  rw [<-jgi] at this;exact this
 obtain ⟨q,mq,_,xq⟩:=qT hr 0 (by omega);obtain ⟨q',mq',_,xq'⟩:=qT hr 1 (by omega);have k0:=jeA (s:=s) 0 (by omega) (k:=0) rfl xq;have k1:=jeA (s:=s) 1 (by omega) (k:=1) rfl xq';by_cases h3:((s.whr.length:Nat):Int) > 3
 .obtain ⟨r,e1,e2,e3⟩:=jkQ q.cls q'.cls (hz _ mq).1 (hz _ mq).2 (hz _ mq').1 (hz _ mq').2 s.whr[0] s.whr[1] s.whr[2] (s.whr.drop 3) (by rw [qR];omega)
  obtain ⟨c',b',hf⟩:=zL r;rw [hf] at e1 e2;refine ⟨r,Res.of hf ?_,Res.of hf ?_,λc h=>⟨Zg (e3 c h),λ_=>e3 c h⟩⟩
  .rw [g82];generalize s.whr.drop 3=D at *;simp only [jd,a1,a2,a3,a4,a5,a6,h1,h2,w0,w1,w2,hsl,yK,k0,k1,jqi,jqj,jqk,jql,jqm,jqn,jqo,ZE,e1]
  .rw [g75];generalize s.whr.drop 3=D at *;simp only [jd,a1,a2,a3,a4,a5,a6,h1,h3,w0,w1,w2,hsl,y0,y1,yK,xq,xq',adS,ldC,e2]
 .rw [show s.whr.drop 3 = [] from jvs (by omega)] at hsl;have e1:=jlD q.cls q'.cls (hz _ mq) (hz _ mq') s.whr[0] s.whr[1] s.whr[2];have hsl:zS 1 (.sl 1 (s.whr.map ci)) (some (vi 3)) none=some (.sl 1 []):=hsl;have e1:G 114 [cm q.cls,vi s.whr[0],vi s.whr[1],cm q'.cls,vi s.whr[2],.sl 1 []]=some (.tup [cz,vb false],[]):=e1;refine zP ?_ ?_
  .rw [g82];simp only [jd,a1,a2,a3,a4,a5,a6,h1,h2,w0,w1,w2,hsl,yK,k0,k1,jqi,jqj,jqk,jql,jqm,jqn,jqo,ZE,e1]
  .rw [g75];simp only [jd,a1,a2,a3,a4,a5,a6,h1,h3]
theorem jM1 (p:Prf) (s:Stp) (h1:¬s.rule=1) (h2:¬s.rule=2) (h3:¬s.rule=3) (h4:¬s.rule=4) (h5:¬s.rule=5) (h6:¬s.rule=6):joa p s:=by
 refine zP ?_ ?_
 .rw [g82];simp only [jd,h1,h2,h3,h4,h5,h6]
 .rw [g75];simp only [jd,h1,h2,h3,h4,h5,h6]
def jer:zg->Option T
 | [l]=>if l.1=true then some l.2 else none
 | _=>none
def Jx (p:Prf):List Int->Option (List T)
 | []=>some []
 | x::xs=>match p.st[x.toNat]? with
  | some q=>(match jer q.cls with
   | some t=>(Jx p xs).map (t::·)
   | none=>none)
  | none=>none
theorem jf2 {p:Prf} (hz:∀q∈p.st,Cz q.cls):∀ {l:List Int} {rs:List T},Jx p l=some rs->rs.length=l.length/\ ∀r∈rs,Tz r
 | [],rs,h=>by cases h;exact ⟨rfl,λr hr=>by cases hr⟩
 | x::xs,rs,h=>by
  unfold Jx at h;split at h
  .rename_i q hq;split at h
   .rename_i t ht;rw [Jl] at h;obtain ⟨rs',h1,rfl⟩:=h;obtain ⟨i1,i2⟩:=jf2 hz h1;refine ⟨by simp [i1],λr hr=> ?_⟩;rcases kW.1 hr with rfl|hr
    .have hm:=hz q (K4 hq);unfold jer at ht;split at ht
     .rename_i l hl;split at ht
      .cases ht;exact hm.2 l (by rw [hl];exact jba ..)
      .cases ht
     .cases ht
    .exact i2 r hr
   .cases h
  .cases h
theorem QN {p:Prf} {x:Int} {xs:List Int} {q:Stp} (eq:p.st[x.toNat]? = some q) (hu:jer q.cls=none):Jx p (x::xs)=none:=by
 rw [Jx,eq];dsimp only;rw [hu]
theorem jh4 {p:Prf} {x:Int} {xs:List Int} {q:Stp} {t:T} (eq:p.st[x.toNat]? = some q) (hu:jer q.cls=some t):Jx p (x::xs)=(Jx p xs).map (t::·):=by
 rw [Jx,eq];dsimp only;rw [hu]
theorem jkU (c:zg):(¬((c.length:Nat):Int)=1/\jer c=none)\/ ∃t:Lt,((c.length:Nat):Int)=1/\jg 3 (.sl 3 (c.map j8)) (vi 0)=some (.elt (j8 t) 0)/\jer c=if t.1=true then some t.2 else none:=by
 match c with
 | []=>exact Or.inl ⟨by simp,rfl⟩
 | [t]=>exact Or.inr ⟨t,rfl,rfl,rfl⟩
 | t::t'::r=>exact Or.inl ⟨by simp only [yd];omega,rfl⟩
theorem jo8 (p:Prf) (l:List Int) (hl:l.length<=1048576) (hr:∀x∈l,0<=x/\x < ((p.st.length:Nat):Int)) :
  jgs (ints l) (vi (l.length:Nat)) (vi 0) (cls p.ax) (yr p.st) []=match Jx p l with|some rs=>some (.tup [jQ rs,vb true],[])|none=>some (.tup [.sl 2 [],vb false],[]):=by
 have key:=upto (P:=λi=>∀R:List T,R.length<=i->jgs (ints l) (vi (l.length:Nat)) (vi (i:Nat)) (cls p.ax) (yr p.st) (R.map jw)=match Jx p (l.drop i) with|some rs=>some (.tup [jQ (R++rs),vb true],[])|none=>some (.tup [.sl 2 [],vb false],[])) (n:=l.length) ?_ ?_ 0 (jD _) [] (kH _)
 .simpa only [jP,kg,ye,qQ] using key
 .intro R hR;rw [jyi,j6];simp only [jd,Jx,JD]
 .intro i hi ih R hR;have hlt:(i:Int) < ((l.length:Nat):Int):=by omega
  have h5:=jm hi (by show l.length<=9223372036854775807;omega)
  have y:=ixN (l:=l) (j:=i) hi (k:=i) rfl;obtain ⟨q,mq,eq,xq⟩:=qT hr i hi;have hf:jK (R.length+1) 40=true:=jrk (by omega);rw [jyi,jh hi];rcases jkU q.cls with ⟨hne,hu⟩|⟨t,he,hx,hu⟩
  .rw [QN eq hu];simp only [jd,hlt,y,yK,xq,adS,ldC,hne]
  .cases hb:t.1<;>rw [hb] at hu
   .have hu:jer q.cls=none:=hu;rw [QN eq hu];simp only [jd,hlt,y,yK,xq,adS,ldC,he,hx,ldB,Qo,hb]
   .have hu:jer q.cls=some t.2:=hu;rw [jh4 eq hu];have:=ih (R++[t.2]) (by rw [ym];simp only [yd,qM];omega);have ha:jU (R.map jw) [[sv t.2.name,jQ t.2.args]]=(R++[t.2]).map jw:=by rw [zV,List.map_singleton,zn];rfl
    simp only [jd,hlt,y,yK,xq,adS,ldC,he,hx,ldB,Qo,ldT,hb,hf,ha,h5,this];cases Jx p (l.drop (i+1)) with
    | none=>rfl
    | some rs=>simp only [JG,yf,Qn,qQ]
theorem jkC (p:Prf) (l:List Int) (hl:l.length<=1048576) (hr:∀x∈l,0<=x/\x < ((p.st.length:Nat):Int)) (h1:1<=l.length) :
  ZW (ints l) (vi 1) (cls p.ax) (yr p.st) [] [] []=match Jx p (l.drop 1) with|some rs=>ZW (ints l) (vi (l.length:Nat)) (cls p.ax) (yr p.st) (rs.map jw) [] []|none=>some (.tup [cz,vb false],[]):=by
 have key:=upto (P:=λi=>∀R:List T,R.length<=i->ZW (ints l) (vi (i:Nat)) (cls p.ax) (yr p.st) (R.map jw) [] []=match Jx p (l.drop i) with|some rs=>ZW (ints l) (vi (l.length:Nat)) (cls p.ax) (yr p.st) ((R++rs).map jw) [] []|none=>some (.tup [cz,vb false],[])) (n:=l.length) ?_ ?_ 1 h1 [] (jD _)
 .simpa only [jle,ye,qQ] using key
 .intro R hR;rw [j6];simp only [Jx,JD]
 .intro i hi ih R hR;have hlt:(i:Int) < ((l.length:Nat):Int):=by omega
  have h5:=jm hi (by show l.length<=9223372036854775807;omega)
  have y:=ixN (l:=l) (j:=i) hi (k:=i) rfl;obtain ⟨q,mq,eq,xq⟩:=qT hr i hi;have hf:jK (R.length+1) 40=true:=jrk (by omega);generalize hend:ZW (ints l) (vi (l.length:Nat)) (cls p.ax) (yr p.st)=E at ih ⊢;rw [jjJ,jh hi];rcases jkU q.cls with ⟨hne,hu⟩|⟨t,he,hx,hu⟩
  .rw [QN eq hu];simp only [jd,hlt,y,yK,xq,adS,ldC,hne]
  .cases hb:t.1<;>rw [hb] at hu
   .have hu:jer q.cls=none:=hu;rw [QN eq hu];simp only [jd,hlt,y,yK,xq,adS,ldC,he,hx,ldB,Qo,hb]
   .have hu:jer q.cls=some t.2:=hu;rw [jh4 eq hu];have:=ih (R++[t.2]) (by rw [ym];simp only [yd,qM];omega);have ha:jU (R.map jw) [[sv t.2.name,jQ t.2.args]]=(R++[t.2]).map jw:=by rw [zV,List.map_singleton,zn];rfl
    simp only [jd,hlt,y,yK,xq,adS,ldC,he,hx,ldB,Qo,ldT,hb,hf,ha,h5,this];cases Jx p (l.drop (i+1)) with
    | none=>rfl
    | some rs=>simp only [JG,yf,Qn,qQ]
theorem jo6 (c:zg) (zc:Cz c) (rs:List T) (hl:rs.length<=1048576) (hz:∀r∈rs,Tz r) (hm:10 < rs.length):G 145 [cm c,jQ rs]=some (.tup [cz,vb false],[]):=by
 have m1:=qm c zc.1 zc.2;obtain ⟨b,r1,r2,hb⟩:=jrQ rs hl hz;rw [jBA];cases hc:jX c<;>rw [hc] at m1
 .simp only [jd,m1]
 cases b
 .simp only [jd,m1,r1]
 .have:=(hb rfl).1.1;omega
theorem jM7 (p:Prf) (s:Stp) (hs:s.rule=6) (hr:Pok p s) (hz:∀q∈p.st,Cz q.cls) (hl:s.par.length<=1048576):joa p s:=by
 have a1:(s.rule=1)=False:=qd (by omega);have a2:(s.rule=2)=False:=qd (by omega);have a3:(s.rule=3)=False:=qd (by omega);have a4:(s.rule=4)=False:=qd (by omega);have a5:(s.rule=5)=False:=qd (by omega);have a6:(s.rule=6)=True:=eq_true hs;have wi:=yw ((s.par.length:Nat):Int) 2 11;by_cases h1:((s.par.length:Nat):Int) > 1;rotate_left
 .rw [show yS 2 11 ((s.par.length:Nat):Int)=false by unfold yS;rw [kA (by omega),jH]] at wi
  exact zP (by rw [g82];simp only [jd,a1,a2,a3,a4,a5,a6,wi]) (by rw [g75];simp only [jd,a1,a2,a3,a4,a5,a6,h1])
 by_cases h2:((s.whr.length:Nat):Int)=0;rotate_left
 .refine zP ?_ (by rw [g75];simp only [jd,a1,a2,a3,a4,a5,a6,h1,h2])
  rw [g82];cases hb:yS 2 11 ((s.par.length:Nat):Int)<;>rw [hb] at wi<;>simp only [jd,a1,a2,a3,a4,a5,a6,wi,h2]
 have y0:=ixN (l:=s.par) (j:=0) (by omega) (k:=0) rfl;obtain ⟨q,mq,_,xq⟩:=qT hr 0 (by omega);have k0:=jeA (s:=s) 0 (by omega) (k:=0) rfl xq;have e1:=jo8 p (s.par.drop 1) (by rw [qR];omega) (λx hx=>hr x (jso hx));have e2:=jkC p s.par hl hr (by omega);have hsl:zS 1 (ints s.par) (some (vi 1)) none=some (ints (s.par.drop 1)):=by
  have:=qt (k:=1) (xs:=s.par.map ci) (i:=1) (by rw [jM];omega)
  rw [<-jgi] at this;exact this
 have nlt:¬((s.par.length:Nat):Int) < ((s.par.length:Nat):Int):=by omega
 have eS:∀o,ZW (ints s.par) (vi 1) (cls p.ax) (yr p.st) [] [] []=some (.tup [cm o,vb false],[])->G 75 [Yr p,stm s]=some (.tup [cm o,vb false],[]):=λo h=>by
  have h':G 104 [Yr p,ints s.par]=some (.tup [cm o,vb false],[]):=by
   rw [jFE];simp only [jd,h]
  rw [g75];simp only [jd,a1,a2,a3,a4,a5,a6,h1,h2,h']
 have eT:∀o,ZW (ints s.par) (vi 1) (cls p.ax) (yr p.st) [] [] []=some (.tup [cm o,vb true],[])->G 75 [Yr p,stm s]=some (.tup [cm o,vb true],[]):=λo h=>by
  have h':G 104 [Yr p,ints s.par]=some (.tup [cm o,vb true],[]):=by
   rw [jFE];simp only [jd,h]
  rw [g75];simp only [jd,a1,a2,a3,a4,a5,a6,h1,h2,h']
 have eR:G 116 [Yr p,ints (s.par.drop 1)]=jgs (ints (s.par.drop 1)) (vi ((s.par.drop 1).length:Nat)) (vi 0) (cls p.ax) (yr p.st) []:=by
  rw [jKw];generalize s.par.drop 1=D;simp only [jd]
 rw [e1] at eR;cases hrs:Jx p (s.par.drop 1) with
 | none=>
  rw [hrs] at eR e2;refine zP ?_ (eS [] e2);rw [g82];generalize s.par.drop 1=D at *;cases hb:yS 2 11 ((s.par.length:Nat):Int)<;>rw [hb] at wi
  .simp only [jd,a1,a2,a3,a4,a5,a6,wi]
  .have eR:G 116 [Yr p,ints D]=some (.tup [.sl 2 [],vb false],[]):=eR;simp only [jd,a1,a2,a3,a4,a5,a6,wi,h2,hsl,eR]
 | some rs=>
  rw [hrs] at eR e2;have eR:G 116 [Yr p,ints (s.par.drop 1)]=some (.tup [jQ rs,vb true],[]):=eR;have e2:ZW (ints s.par) (vi 1) (cls p.ax) (yr p.st) [] [] []=ZW (ints s.par) (vi (s.par.length:Nat)) (cls p.ax) (yr p.st) (rs.map jw) [] []:=e2;obtain ⟨f1,f2⟩:=jf2 hz hrs;rw [qR] at f1;have hne:¬((rs.length:Nat):Int)=0:=by omega
  by_cases hm:10 < rs.length
  .have er:=jo6 q.cls (hz _ mq) rs (by omega) f2 hm;rw [show yS 2 11 ((s.par.length:Nat):Int)=false by unfold yS;rw [kA (p:=((s.par.length:Nat):Int)<=11) (by omega),yb]] at wi;refine zP (by rw [g82];simp only [jd,a1,a2,a3,a4,a5,a6,wi]) (eS [] ?_);rw [e2,jjJ];simp only [jd,nlt,y0,yK,xq,adS,ldC,hne,er];rfl
  .rw [show yS 2 11 ((s.par.length:Nat):Int)=true by unfold yS;rw [jW (by omega),jW (by omega)];rfl] at wi
   obtain ⟨r,b1,b2,b3⟩:=jlC q.cls (hz _ mq).1 (hz _ mq).2 rs (by omega) f2;generalize s.par.drop 1=D at *;cases r with
   | none=>
    have b1:G 117 [cm q.cls,jQ rs]=some (.tup [cz,vb false],[]):=b1;have b2:G 145 [cm q.cls,jQ rs]=some (.tup [cz,vb false],[]):=b2;refine zP ?_ (eS [] ?_)
    .rw [g82];simp only [jd,a1,a2,a3,a4,a5,a6,wi,h2,hsl,eR,k0,jqi,jqj,jqk,jql,jqm,jqn,jqo,ZE,b1]
    .rw [e2,jjJ];simp only [jd,nlt,y0,yK,xq,adS,ldC,hne,b2];rfl
   | some c=>
    have b1:G 117 [cm q.cls,jQ rs]=some (.tup [cm c,vb true],[]):=b1;have b2:G 145 [cm q.cls,jQ rs]=some (.tup [cm c,vb true],[]):=b2;have zc:=Zg (b3 c rfl);have s1:=jep c q.cls zc.1 zc.2 (hz _ mq).2;have s2:=jme c q.cls zc.1 zc.2 (hz _ mq).2;have k0':=k0;cases hsame:dq c q.cls<;>rw [hsame] at s1 s2
    .refine ⟨some c,Res.of (c:=c) (b:=true) rfl ?_,Res.of (c:=c) (b:=true) rfl (eT c ?_),λx h=>by cases h;exact ⟨zc,λ_=>b3 c rfl⟩⟩
     .rw [g82];simp only [jd,a1,a2,a3,a4,a5,a6,wi,h2,hsl,eR,k0,jqi,jqj,jqk,jql,jqm,jqn,jqo,ZE,b1,s1]
     .rw [e2,jjJ];simp only [jd,nlt,y0,yK,xq,adS,ldC,hne,b2,s2]
    .refine ⟨none,⟨c,false,?_,(λh=>by cases h),λ_=>rfl⟩,⟨[],false,eS [] ?_,(λh=>by cases h),λ_=>rfl⟩,λx h=>by cases h⟩
     .rw [g82];simp only [jd,a1,a2,a3,a4,a5,a6,wi,h2,hsl,eR,k0,jqi,jqj,jqk,jql,jqm,jqn,jqo,ZE,b1,s1]
     .rw [e2,jjJ];simp only [jd,nlt,y0,yK,xq,adS,ldC,hne,b2,s2];rfl
structure Pz (p:Prf):Prop where
 ax:p.ax.length<=1048576
 st:p.st.length<=1048576
 axs:∀c∈p.ax,Cz c
 par:∀s∈p.st,s.par.length<=1048576
 whr:∀s∈p.st,s.whr.length<=1048576
 wI:∀s∈p.st,∀x∈s.whr,I64 x
 cls:∀s∈p.st,Cz s.cls
theorem Cz.of {c:zg} (h:csz c<=1048576):Cz c:=⟨by unfold csz at h;omega,λl hl=>by have:=joJ hl;unfold csz at h;show tsz l.2<=1048576;omega⟩
theorem Pz.of {p:Prf} (hw:pwf p) (h:psz p<=1048576):Pz p:=by
 unfold psz at h;refine ⟨by omega,by omega,λc hc=> ?_,λs hs=> ?_,λs hs=> ?_,λs hs=>(hw.2.1 s hs).2.2.1.1,λs hs=> ?_⟩
 .have:=jjn hc;exact Cz.of (by omega)
 .have:=jdv hs;unfold ssz at this;omega
 .have:=jdv hs;unfold ssz at this;omega
 .have:=jdv hs;unfold ssz at this;exact Cz.of (by omega)
theorem jB9 {p:Prf} (hp:Pz p) {s:Stp} (hs:s∈p.st) (hr:Pok p s):joa p s:=by
 by_cases h1:s.rule=1
 .exact jM2 p s h1 hp.axs hp.ax
 by_cases h2:s.rule=2
 .exact jM3 p s h2 hr hp.cls
 by_cases h3:s.rule=3
 .exact jM4 p s h3 hr hp.cls (hp.wI s hs)
 by_cases h4:s.rule=4
 .exact jM5 p s h4 hr hp.cls (hp.whr s hs)
 by_cases h5:s.rule=5
 .exact jM6 p s h5 hr hp.cls
 by_cases h6:s.rule=6
 .exact jM7 p s h6 hr hp.cls (hp.par s hs)
 exact jM1 p s h1 h2 h3 h4 h5 h6
theorem jpX (i:Nat) (hi:i<=1048576) (x:Int):G 81 [vi x,.elt [vi (i:Nat)] 0]=some (vb (!yS 0 ((i:Int) - 1) x),[]):=by
 have c1:ck ((i:Int) - 1)=some (vi ((i:Int) - 1)):=jZ (by omega) (by omega);have e:=yw x 0 ((i:Int) - 1);have ld:kq (.elt [vi (i:Nat)] 0)=some (vi (i:Nat)):=rfl;rw [g81];simp only [jd,ld,c1,e]
theorem joi (i:Nat) (hi:i<=1048576) (l:List Int) (hl:l.length<=1048576):G 80 [ints l,.fn 81 [.elt [vi (i:Nat)] 0]]=some (vb (!l.all (yS 0 ((i:Int) - 1))),[]):=by
 have key:=upto (P:=λj=>∃k:Int,jnd (ints l) (.fn 81 [.elt [vi (i:Nat)] 0]) (vi (l.length:Nat)) (vi (j:Nat))=some (vi k,[])/\decide (k>=0)=!(l.drop j).all (yS 0 ((i:Int) - 1))) (n:=l.length) ?_ ?_ 0 (jD _)
 .obtain ⟨k,h1,h2⟩:=key;simp only [jP,kg] at h1 h2;have e2:G 110 [ints l,.fn 81 [.elt [vi (i:Nat)] 0]]=some (vi k,[]):=by
   rw [jKv];simp only [jd,h1]
  rw [g80,<-h2];simp only [jd,e2]
 .refine ⟨-1,?_,?_⟩
  .rw [jyh];simp only [jd]
  .rw [j6];rfl
 .intro j hj ⟨k,ih1,ih2⟩;have hlt:(j:Int) < ((l.length:Nat):Int):=by omega
  have h5:=jm hj (by show l.length<=9223372036854775807;omega)
  have e1:=jpX i hi l[j];have hp:K.pureF 81=true:=rfl;have cc:DX.run K (MM K) (.callc (.fn 81 [.elt [vi (i:Nat)] 0]) [vi l[j]] false)=some (vb (!yS 0 ((i:Int) - 1) l[j])):=by
   rw [qD hp,List.singleton_append,e1];rfl
  rw [jyh,jh hj,zB];cases hn:yS 0 ((i:Int) - 1) l[j]<;>rw [hn] at cc
  .refine ⟨j,?_,?_⟩
   .simp only [jd,hlt,ja hj,yK,cc]
   .rw [jW (by omega)];rfl
  .refine ⟨k,?_,?_⟩
   .simp only [jd,hlt,ja hj,yK,cc,h5,ih1]
   .rw [ih2,jJ]
theorem jeg (p:Prf) (s:Stp) (i:Nat) (hi:i<=1048576) (hl:s.par.length<=1048576) :
  jfh (vi (i:Nat)) (vi 0) (cls p.ax) (yr p.st) (vi s.rule) (ints s.par) (ints s.whr) (.sl 3 (s.cls.map j8))=if s.par.all (yS 0 ((i:Int) - 1)) then jfh (vi (i:Nat)) (vi (s.par.length:Nat)) (cls p.ax) (yr p.st) (vi s.rule) (ints s.par) (ints s.whr) (.sl 3 (s.cls.map j8)) else some (vb false,[]):=by
 generalize hend:jfh (vi (i:Nat)) (vi (s.par.length:Nat)) (cls p.ax) (yr p.st) (vi s.rule) (ints s.par) (ints s.whr) (.sl 3 (s.cls.map j8))=E;have key:=upto (P:=λj=>jfh (vi (i:Nat)) (vi (j:Nat)) (cls p.ax) (yr p.st) (vi s.rule) (ints s.par) (ints s.whr) (.sl 3 (s.cls.map j8))=if (s.par.drop j).all (yS 0 ((i:Int) - 1)) then E else some (vb false,[])) (n:=s.par.length) ?_ ?_ 0 (jD _)
 .simpa only [jP,kg] using key
 .rw [j6,hend];rfl
 .intro j hj ih;have c1:ck ((i:Int) - 1)=some (vi ((i:Int) - 1)):=jZ (by omega) (by omega);have hlt:(j:Int) < ((s.par.length:Nat):Int):=by omega
  have h5:=jm hj (by show s.par.length<=9223372036854775807;omega)
  have e1:=zN s.par[j] 0 ((i:Int) - 1);rw [jzG,jh hj,zB];cases hn:yS 0 ((i:Int) - 1) s.par[j]<;>rw [hn] at e1
  .rw [jH];simp only [jd,hlt,ja hj,yK,c1,e1]
  .rw [jJ,<-ih];simp only [jd,hlt,ja hj,yK,c1,e1,h5]
theorem jsX {p:Prf} (hp:Pz p) (i:Nat) (hi:i < p.st.length):∃b:Bool,G 49 [Yr p,vi (i:Nat)]=some (vb b,[])/\G 44 [Yr p,vi (i:Nat)]=some (vb b,[])/\(b=true->wfP p=true->jX p.st[i].cls=true):=by
 have hst:=hp.st;have ms:=jo hi;have x1:jg 4 (yr p.st) (vi (i:Nat))=some (.elt (stc p.st[i]) 0):=ja hi;generalize p.st[i]=s at ms x1 ⊢;have hl:=hp.par s ms;have e1:=joi i (by omega) s.par hl;have e2:=jeg p s i (by omega) hl;have ok:jR (vi (i:Nat))=true:=rfl;cases hb:s.par.all (yS 0 ((i:Int) - 1))<;>rw [hb] at e1 e2
 .refine ⟨false,?_,?_,λh=>by cases h⟩
  .rw [g49];simp only [jd,ok,x1,qI,e1]
  .have e2:=e2.trans (jq (by decide));rw [g44];simp only [jd,x1,qI,e2]
 have e2:=e2.trans (jp rfl);have hr:Pok p s:=λx hx=>by
  have:=z7.1 hb x hx;unfold yS at this;rw [jy,kK,kK] at this;omega
 have nlt:¬((s.par.length:Nat):Int) < ((s.par.length:Nat):Int):=by omega
 obtain ⟨r,⟨c1,b1,i1,t1,f1⟩,⟨c2,b2,i2,t2,f2⟩,hz⟩:=jB9 hp ms hr;cases b1
 .have hr0:=f1 rfl;cases b2
  .have e3:jfh (vi (i:Nat)) (vi (s.par.length:Nat)) (cls p.ax) (yr p.st) (vi s.rule) (ints s.par) (ints s.whr) (.sl 3 (s.cls.map j8))=some (vb false,[]):=by
    rw [jzG];simp only [jd,nlt,i2]
   rw [e3] at e2;refine ⟨false,?_,?_,λh=>by cases h⟩
   .rw [g49];simp only [jd,ok,x1,qI,e1,i1]
   .rw [g44];simp only [jd,x1,qI,e2]
  .rw [hr0] at t2;exact absurd (t2 rfl) (by intro h;cases h)
 .have hr1:=t1 rfl;cases b2
  .rw [hr1] at f2;exact absurd (f2 rfl) (by intro h;cases h)
  .have hr2:=t2 rfl;rw [hr1] at hr2;cases hr2;have zc:=(hz _ hr1).1;have s1:=jep c1 s.cls zc.1 zc.2 (hp.cls s ms).2;have s2:=jme c1 s.cls zc.1 zc.2 (hp.cls s ms).2;have e3:jfh (vi (i:Nat)) (vi (s.par.length:Nat)) (cls p.ax) (yr p.st) (vi s.rule) (ints s.par) (ints s.whr) (.sl 3 (s.cls.map j8))=some (vb (dq c1 s.cls),[]):=by
    rw [jzG];simp only [jd,nlt,i2,s2]
   rw [e3] at e2;refine ⟨dq c1 s.cls,?_,?_,λh w=>by rw [<-Ji.1 h];exact (hz _ hr1).2 w⟩
   .rw [g49];simp only [jd,ok,x1,qI,e1,i1,s1]
   .rw [g44];simp only [jd,x1,qI,e2]
noncomputable def jic (p:Prf) (i:Nat):Bool:=@decide (G 44 [Yr p,vi (i:Nat)]=some (vb true,[])) (Classical.propDecidable _)
theorem YQ {p:Prf} (hp:Pz p) (i:Nat) (hi:i < p.st.length):G 49 [Yr p,vi (i:Nat)]=some (vb (jic p i),[])/\G 44 [Yr p,vi (i:Nat)]=some (vb (jic p i),[])/\(jic p i=true->wfP p=true->jX p.st[i].cls=true):=by
 obtain ⟨b,h1,h2,h3⟩:=jsX hp i hi;have:jic p i=b:=by
  unfold jic;rw [h2];cases b with
  | true=>exact @jW _ (Classical.propDecidable _) rfl
  | false=>exact @kA _ (Classical.propDecidable _) (by intro h;cases h)
 rw [this];exact ⟨h1,h2,h3⟩
noncomputable def qF (p:Prf):Nat->Nat->Int
 | 0,_=> -1
 | n+1,i=>if jic p i then qF p n (i+1) else i
theorem jlZ {p:Prf} (hp:Pz p):G 53 [Yr p]=some (vi (qF p p.st.length 0),[]):=by
 have hst:=hp.st;have key:=upto (P:=λi=>juf (vi (p.st.length:Nat)) (vi (i:Nat)) (cls p.ax) (yr p.st)=some (vi (qF p (p.st.length - i) i),[])) (n:=p.st.length) ?_ ?_ 0 (jD _)
 .simp only [jP,jeu] at key;rw [g53];simp only [jd,key]
 .rw [jC1,jb2];simp only [jd,qF]
 .intro i hi ih;have hlt:(i:Int) < ((p.st.length:Nat):Int):=by omega
  have h5:=jm hi (by show p.st.length<=9223372036854775807;omega)
  have e:=(YQ hp i hi).1;rw [jC1,show p.st.length - i=(p.st.length - (i+1))+1 by omega,qF];cases hc:jic p i<;>rw [hc] at e
  .simp only [jd,hlt,e]
  .simp only [jd,hlt,e,h5,ih]
theorem jl0 {p:Prf} (hp:Pz p):G 55 [Yr p]=some (vi (qF p p.st.length 0),[]):=by
 have hst:=hp.st;have key:=upto (P:=λi=>jug (vi (i:Nat)) (cls p.ax) (yr p.st)=some (vi (qF p (p.st.length - i) i),[])) (n:=p.st.length) ?_ ?_ 0 (jD _)
 .simp only [jP,jeu] at key;rw [g55];simp only [jd,key]
 .rw [jC2,jb2];simp only [jd,qF]
 .intro i hi ih;have hlt:(i:Int) < ((p.st.length:Nat):Int):=by omega
  have h5:=jm hi (by show p.st.length<=9223372036854775807;omega)
  have e:=(YQ hp i hi).2.1;rw [jC2,show p.st.length - i=(p.st.length - (i+1))+1 by omega,qF];cases hc:jic p i<;>rw [hc] at e
  .simp only [jd,hlt,e]
  .simp only [jd,hlt,e,h5,ih]
theorem jAD {p:Prf} (hp:Pz p) (i:Int):∃a b:Bool,G 15 [Yr p,vi i]=some (.tup [vb a,vb b],[])/\G 13 [Yr p,vi i]=some (.tup [vb a,vb b],[]):=by
 have hst:=hp.st;have e1:=jak p hp.ax hp.axs;have e2:=jc9 p hp.ax hp.axs;have c1:ck (((p.st.length:Nat):Int) - 1)=some (vi (((p.st.length:Nat):Int) - 1)):=jZ (by omega) (by omega);have p1:=yw i 0 (((p.st.length:Nat):Int) - 1);have q1:=zN i 0 (((p.st.length:Nat):Int) - 1);cases hw:wfP p<;>rw [hw] at e1 e2
 .refine ⟨false,false,?_,?_⟩
  .rw [g15];simp only [jd,e1]
  .rw [g13];simp only [jd,e2]
 cases hb:yS 0 (((p.st.length:Nat):Int) - 1) i<;>rw [hb] at p1 q1
 .refine ⟨false,false,?_,?_⟩
  .rw [g15];simp only [jd,e1,c1,p1]
  .rw [g13];simp only [jd,e2,c1,q1]
 have hx:0<=i/\i < ((p.st.length:Nat):Int):=by
  unfold yS at hb;rw [jy,kK,kK] at hb;omega
 obtain ⟨n,rfl⟩:=jce hx.1;obtain ⟨h1,h2,_⟩:=YQ hp n (by omega);refine ⟨jic p n,true,?_,?_⟩
 .rw [g15];simp only [jd,e1,c1,p1,h1]
 .rw [g13];simp only [jd,e2,c1,q1,h2]
noncomputable def KR (p:Prf):Bool:=wfP p && decide (qF p p.st.length 0 < 0)
theorem YF {p:Prf} (hp:Pz p):G 18 [Yr p]=some (vb (KR p),[])/\G 52 [Yr p]=some (vb (KR p),[]):=by
 have e1:=jak p hp.ax hp.axs;have e2:=jc9 p hp.ax hp.axs;have f1:=jlZ hp;have f2:=jl0 hp;unfold KR;cases hw:wfP p<;>rw [hw] at e1 e2
 .refine ⟨?_,?_⟩
  .rw [g18];simp only [jd,e1,jH]
  .rw [g52];simp only [jd,e2,jH]
 .refine ⟨?_,?_⟩
  .rw [g18];simp only [jd,e1,f1,jJ]
  .rw [g52];simp only [jd,e2,f2,jJ]
theorem jt1 {p:Prf} (hp:Pz p):G 17 [Yr p]=some (vb (KR p),[]):=by
 have e:=(YF hp).2;rw [g17];simp only [jd,e]
theorem js6 {p:Prf} (hp:Pz p):∃(k:Int) (b:Bool),G 22 [Yr p]=some (.tup [vi k,vb b],[])/\G 21 [Yr p]=some (.tup [vi k,vb b],[]):=by
 have e1:=jak p hp.ax hp.axs;have e2:=jc9 p hp.ax hp.axs;have f1:=jlZ hp;have f2:=jl0 hp;cases hw:wfP p<;>rw [hw] at e1 e2
 .refine ⟨0,false,?_,?_⟩
  .rw [g22];simp only [jd,e1]
  .rw [g21];simp only [jd,e2]
 .refine ⟨qF p p.st.length 0,true,?_,?_⟩
  .rw [g22];simp only [jd,e1,f1]
  .rw [g21];simp only [jd,e2,f2]
theorem jBd (q:Stp):yI (.elt (stc q) 3) 0=some (.elt (stc q) 3):=by rw [qp]
theorem jBG (q:Stp):kq (.elt (stc q) 3)=some (.sl 3 (q.cls.map j8)):=rfl
theorem jAl {p:Prf} (hp:Pz p):∃b:Bool,G 20 [Yr p]=some (vb b,[])/\G 19 [Yr p]=some (vb b,[]):=by
 have hst:=hp.st;obtain ⟨v1,v2⟩:=YF hp;by_cases h:((p.st.length:Nat):Int) > 0
 .have c1:ck (((p.st.length:Nat):Int) - 1)=some (vi (((p.st.length:Nat):Int) - 1)):=jZ (by omega) (by omega);have hlt:p.st.length - 1 < p.st.length:=by omega
  have x1:jg 4 (yr p.st) (vi (((p.st.length:Nat):Int) - 1))=some (.elt (stc p.st[p.st.length - 1]) 0):=by
   have:=ja (k:=4) (f:=stc) hlt;rwa [show ((p.st.length - 1:Nat):Int)=((p.st.length:Nat):Int) - 1 by omega] at this
  generalize p.st[p.st.length - 1]=q at x1;by_cases hl:((q.cls.length:Nat):Int)=0
  .have r1:G 54 [Yr p]=some (vb true,[]):=by
    rw [g54];simp only [jd,h,c1,x1,adS,jBd,kC,jBG,hl]
   refine ⟨KR p,?_,?_⟩
   .rw [g20];simp only [jd,r1,v1]
   .rw [g19];simp only [jd,h,c1,x1,adS,jBd,kC,jBG,hl,v2]
  .have r1:G 54 [Yr p]=some (vb false,[]):=by
    rw [g54];simp only [jd,h,c1,x1,adS,jBd,kC,jBG,hl]
   refine ⟨false,?_,?_⟩
   .rw [g20];simp only [jd,r1]
   .rw [g19];simp only [jd,h,c1,x1,adS,jBd,kC,jBG,hl]
 .have r1:G 54 [Yr p]=some (vb false,[]):=by
   rw [g54];simp only [jd,h]
  refine ⟨false,?_,?_⟩
  .rw [g20];simp only [jd,r1]
  .rw [g19];simp only [jd,h]
theorem jfL (p:Prf) (i:Int) (hw:pwf p):G 3 [Yr p,vi i]=some (vb true,[]):=by
 have e1:=ja1 p hw 1048576 (by decide) (by decide);rw [g3];by_cases h1:ko 1048576 ((psz p:Nat):Int) < 0
 .simp only [jd,e1,h1]
 .obtain ⟨b1,b2,b3⟩:=YU (by decide) (by decide) h1;have a1:=ja4 p b3;have a2:=jaN p hw;obtain ⟨x,y,r1,r2⟩:=jAD (Pz.of hw b3) i;simp only [jd,e1,h1,a1,a2,r1,r2]
theorem jgR (p:Prf) (hw:pwf p):G 4 [Yr p]=some (vb true,[]):=by
 have e1:=ja1 p hw 1048576 (by decide) (by decide);rw [g4];by_cases h1:ko 1048576 ((psz p:Nat):Int) < 0
 .simp only [jd,e1,h1]
 .obtain ⟨b1,b2,b3⟩:=YU (by decide) (by decide) h1;have a1:=ja4 p b3;have a2:=jaN p hw;have r1:=(YF (Pz.of hw b3)).1;have r2:=jt1 (Pz.of hw b3);simp only [jd,e1,h1,a1,a2,r1,r2]
theorem jgQ (p:Prf) (hw:pwf p):G 5 [Yr p]=some (vb true,[]):=by
 have e1:=ja1 p hw 1048576 (by decide) (by decide);rw [g5];by_cases h1:ko 1048576 ((psz p:Nat):Int) < 0
 .simp only [jd,e1,h1]
 .obtain ⟨b1,b2,b3⟩:=YU (by decide) (by decide) h1;have a1:=ja4 p b3;have a2:=jaN p hw;obtain ⟨b,r1,r2⟩:=jAl (Pz.of hw b3);simp only [jd,e1,h1,a1,a2,r1,r2]
theorem jeL (p:Prf) (hw:pwf p):G 6 [Yr p]=some (vb true,[]):=by
 have e1:=ja1 p hw 1048576 (by decide) (by decide);rw [g6];by_cases h1:ko 1048576 ((psz p:Nat):Int) < 0
 .simp only [jd,e1,h1]
 .obtain ⟨b1,b2,b3⟩:=YU (by decide) (by decide) h1;have a1:=ja4 p b3;have a2:=jaN p hw;obtain ⟨k,b,r1,r2⟩:=js6 (Pz.of hw b3);simp only [jd,e1,h1,a1,a2,r1,r2]
theorem jxH {p:Prf} (hp:Pz p) (i:Nat) (hi:i < p.st.length) (h:jic p i=true):p.st[i].par.all (yS 0 ((i:Int) - 1))=true:=by
 have hst:=hp.st;have ms:=jo hi;have x1:jg 4 (yr p.st) (vi (i:Nat))=some (.elt (stc p.st[i]) 0):=ja hi;have e:=(YQ hp i hi).2.1;rw [h] at e;generalize p.st[i]=s at ms x1;have hl:=hp.par s ms;have e2:=jeg p s i (by omega) hl;cases hb:s.par.all (yS 0 ((i:Int) - 1))
 .rw [hb] at e2;have e2:=e2.trans (jq (by decide));have e3:G 44 [Yr p,vi (i:Nat)]=some (vb false,[]):=by
   rw [g44];simp only [jd,x1,qI,e2]
  rw [e3] at e;exact absurd (congrArg (λo:Option Out=>o.bind λx=>yR x.1) e) (by intro h;cases h)
 .rfl
theorem jbC (p:Prf):∀(n i:Nat),qF p n i < 0-> ∀j,i<=j->j < i+n->jic p j=true
 | 0,i,_,j,h1,h2=>by omega
 | n+1,i,h,j,h1,h2=>by
  unfold qF at h;by_cases hc:jic p i=true
  .rw [jp hc] at h;by_cases e:j=i
   .rw [e];exact hc
   .exact jbC p n (i+1) h j (by omega) (by omega)
  .rw [jq hc] at h;omega
theorem jw0 {p:Prf} (hp:Pz p) (h:KR p=true):p.st.length<=60/\ ∀(i:Nat) (hi:i < p.st.length),∀x∈p.st[i].par,0<=x/\x < (i:Int):=by
 unfold KR wfP at h;simp only [jy,kK] at h;refine ⟨h.1.2,λi hi x hx=> ?_⟩;have:=jxH hp i hi (jbC p _ 0 h.2 i (jD _) (by omega));have:=z7.1 this x hx;unfold yS at this;rw [jy,kK,kK] at this;omega
abbrev cn (n:Nat):List A:=[vi (n:Nat)]
def jcY (acc:List Nat):Nat->List Int->Nat
 | d,[]=>d
 | d,x::r=>jcY acc (max d (acc.getD x.toNat 0+1)) r
theorem jp4 {acc:List Nat} {m:Nat} (h:∀x∈acc,x<=m):∀(l:List Int) (d:Nat),d<=m+1->jcY acc d l<=m+1
 | [],d,hd=>hd
 | x::r,d,hd=>by
  rw [jcY];refine jp4 h r _ ?_;have:acc.getD x.toNat 0<=m:=by
   by_cases hx:x.toNat < acc.length
   .rw [zO,kh hx];exact h _ (jo hx)
   .rw [zO,yQ (by omega)];exact jD _
  omega
def dpt (p:Prf):Nat->List Nat
 | 0=>[]
 | i+1=>dpt p i++[jcY (dpt p i) 0 (((p.st[i]?).map Stp.par).getD [])]
theorem jdN (p:Prf):∀i,(dpt p i).length=i
 | 0=>rfl
 | i+1=>by rw [dpt,ym,jdN p i];rfl
theorem jok (p:Prf):∀i,∀x∈dpt p i,x<=i
 | 0,x,h=>by cases h
 | i+1,x,h=>by
  rw [dpt] at h;rcases kM.1 h with h|h
  .have:=jok p i x h;omega
  .rw [kG] at h;rw [h];exact jp4 (jok p i) _ 0 (jD _)
theorem jp7 {p:Prf} {i:Nat} (hi:i < p.st.length):dpt p (i+1)=dpt p i++[jcY (dpt p i) 0 p.st[i].par]:=by
 rw [dpt,kh hi];rfl
theorem jkF {l:List Nat} {n v:Nat} (h:l[n]? = some v):QI l.length (vi (n:Nat))=some n/\Yb (l.map cn) n 0=some (vi (v:Nat))/\jd9 (l.map cn) n=some (cn v):=by
 have hn:=(KV.1 h).1;refine ⟨yp hn,?_,?_⟩
 .unfold Yb;rw [qu,h];rfl
 .unfold jd9;rw [qu,h];rfl
theorem pF8 {n:Nat} (h:n<=4194304):jK n 8=true:=by
 unfold jK;exact jW ⟨by omega,by omega⟩
theorem inI (X0 X2 X3 X4:A) (acc:List Nat) (m:Nat) (hacc:∀x∈acc,x<=m) (hm:m<=1000000) (par:List Int) (hpar:∀x∈par,0<=x/\x < ((acc.length:Nat):Int)) (hl:par.length<=1048576) (E:Nat->Option Out)
  (hE:∀d:Nat,jlJ X0 (vi (d:Nat)) X2 X3 X4 (ints par) (vi (par.length:Nat)) (vi (par.length:Nat)) (acc.map cn)=E d) :
  jlJ X0 (vi 0) X2 X3 X4 (ints par) (vi (par.length:Nat)) (vi 0) (acc.map cn)=E (jcY acc 0 par):=by
 have key:=upto (P:=λj=>∀d:Nat,d<=m+1->jlJ X0 (vi (d:Nat)) X2 X3 X4 (ints par) (vi (par.length:Nat)) (vi (j:Nat)) (acc.map cn)=E (jcY acc d (par.drop j))) (n:=par.length) ?_ ?_ 0 (jD _) 0 (jD _)
 .simpa only [jP,kg] using key
 .intro d hd;rw [j6];exact hE d
 .intro j hj ih d hd;have hlt:(j:Int) < ((par.length:Nat):Int):=by omega
  have h5:=jm hj (by show par.length<=9223372036854775807;omega)
  have hx:=hpar par[j] (jo hj);obtain ⟨n,hn⟩:=jce hx.1;have hn2:n < acc.length:=by omega
  have a1:jg 1 (ints par) (vi (j:Nat))=some (.elt (ci par[j]) 0):=ja hj;obtain ⟨i1,r1,_⟩:=jkF (kh hn2);have hb:=hacc _ (jo hn2);have g1:acc.getD n 0=acc[n]:=by rw [zO,kh hn2];rfl
  rw [jh hj,jcY,hn,jgg,g1];rw [hn] at a1;generalize acc[n]=v at r1 hb;have c1:ck ((v:Int)+1)=some (vi ((v+1:Nat):Int)):=by rw [jZ (by omega) (by omega)];rfl
  have m1:(if (d:Int) < ((v+1:Nat):Int) then ((v+1:Nat):Int) else (d:Int))=((max d (v+1):Nat):Int):=by split<;>omega
  have ih:=ih (max d (v+1)) (by omega);rw [jCR];simp only [jd,hlt,a1,yK,i1,r1,c1,m1,h5,ih]
theorem ld1 (s:Stp):kq (.elt (stc s) 1)=some (ints s.par):=rfl
theorem jKm {p:Prf} (hp:Pz p) (k:Nat) (hk:k < p.st.length) (h60:p.st.length<=60) (hpar:∀(i:Nat) (hi:i < p.st.length),∀x∈p.st[i].par,0<=x/\x < (i:Int)) :
  jlI (vi (k:Nat)) (yr (p.st.take (k+1))) (vi ((k+1:Nat):Int)) (vi 0) []=some (.tup [vi (((dpt p (k+1)).getD k 0:Nat):Int),vb true],[]):=by
 have key:=upto (P:=λi=>jlI (vi (k:Nat)) (yr (p.st.take (k+1))) (vi ((k+1:Nat):Int)) (vi (i:Nat)) ((dpt p i).map cn)=some (.tup [vi (((dpt p (k+1)).getD k 0:Nat):Int),vb true],[])) (n:=k+1) ?_ ?_ 0 (jD _)
 .exact key
 .have hl:k < (dpt p (k+1)).length:=by rw [jdN];omega
  have g1:(dpt p (k+1)).getD k 0=(dpt p (k+1))[k]:=by rw [zO,kh hl];rfl
  obtain ⟨i1,r1,_⟩:=jkF (kh hl);have nlt:¬((k+1:Nat):Int) < ((k+1:Nat):Int):=by omega
  rw [jCQ,g1];simp only [jd,nlt,i1,r1]
 .intro i hi ih;have hlt:(i:Int) < ((k+1:Nat):Int):=by omega
  have hi2:i < p.st.length:=by omega
  have hi3:i < (p.st.take (k+1)).length:=by rw [qe];omega
  have h5:=jm hi (by show k+1<=9223372036854775807;omega)
  have x1:jg 4 (yr (p.st.take (k+1))) (vi (i:Nat))=some (.elt (stc (p.st.take (k+1))[i]) 0):=ja hi3;rw [List.getElem_take] at x1;have hpr:=hpar i hi2;have hl:=hp.par _ (jo hi2);rw [jp7 hi2] at ih;generalize p.st[i]=s at x1 hpr hl ih;have nl:¬((s.par.length:Nat):Int) < ((s.par.length:Nat):Int):=by omega
  have hf:jK ((dpt p i).length+1) 8=true:=pF8 (by rw [jdN];omega)
  have app:∀d:Nat,jU ((dpt p i).map cn) [[vi (d:Nat)]]=(dpt p i++[d]).map cn:=λd=>by rw [zV];rfl
  have inn:=inI (vi (k:Nat)) (yr (p.st.take (k+1))) (vi ((k+1:Nat):Int)) (vi (i:Nat)) (dpt p i) i (jok p i) (by omega) s.par (λx hx=>by rw [jdN];exact hpr x hx) hl
   (λd=>jlI (vi (k:Nat)) (yr (p.st.take (k+1))) (vi ((k+1:Nat):Int)) (vi ((i+1:Nat):Int)) ((dpt p i++[d]).map cn)) (λd=>by
    rw [jCR];simp only [jd,nl,hf,h5,app d])
  rw [jCQ];simp only [jd,hlt,x1,qI,inn,ih]
theorem jEW {D Z:List Nat} {d w i:Nat} (hD:D.length=i):J6 ((D++d::Z).map cn) i (Jo (cn d) 0 [vi (w:Nat)])=(D++w::Z).map cn:=by
 have:(D++d::Z).set i w=D++w::Z:=by
  rw [List.set_append_right _ _ (by omega),hD,jb2,jhh]
 rw [<-this,jm5];rfl
theorem inS {p:Prf} (hp:Pz p) (AX K0:A) (i:Nat) (hi:i < p.st.length) (h60:p.st.length<=60) (hpar:∀x∈p.st[i].par,0<=x/\x < (i:Int)) (Z:List Nat) :
  jpx K0 (vi (i:Nat)) (vi 0) AX (yr p.st) ((dpt p i++0::Z).map cn)=ji5 K0 (vi ((i+1:Nat):Int)) AX (yr p.st) ((dpt p (i+1)++Z).map cn):=by
 have x1:jg 4 (yr p.st) (vi (i:Nat))=some (.elt (stc p.st[i]) 0):=ja hi;have hl:=hp.par _ (jo hi);rw [jp7 hi,yf,List.singleton_append];generalize p.st[i]=s at x1 hpar hl;have hD:=jdN p i;have hle:=jok p i;generalize dpt p i=D at hD hle;have key:=upto (P:=λj=>∀d:Nat,d<=i+1->jpx K0 (vi (i:Nat)) (vi (j:Nat)) AX (yr p.st) ((D++d::Z).map cn)=ji5 K0 (vi ((i+1:Nat):Int)) AX (yr p.st) ((D++jcY D d (s.par.drop j)::Z).map cn)) (n:=s.par.length) ?_ ?_ 0 (jD _) 0 (jD _)
 .simpa only [jP,kg] using key
 .intro d hd;have nl:¬((s.par.length:Nat):Int) < ((s.par.length:Nat):Int):=by omega
  have h5:=jm (i:=i) (n:=60) (by omega) (by decide);rw [j6,jCP];simp only [jd,x1,ld1,nl,h5,jcY]
 .intro j hj ih d hd;have hlt:(j:Int) < ((s.par.length:Nat):Int):=by omega
  have h5:=jm hj (by show s.par.length<=9223372036854775807;omega)
  have hx:=hpar s.par[j] (jo hj);obtain ⟨n,hn⟩:=jce hx.1;have hn2:n < D.length:=by omega
  have a1:jg 1 (ints s.par) (vi (j:Nat))=some (.elt (ci s.par[j]) 0):=ja hj;obtain ⟨i1,r1,_⟩:=jkF (l:=D++d::Z) (n:=n) (v:=D[n]) (by rw [qL hn2];exact kh hn2);obtain ⟨i2,r2,s2⟩:=jkF (l:=D++d::Z) (n:=i) (v:=d) (by rw [JZ (by omega),hD,jb2];rfl);have hb:=hle _ (jo hn2);have g1:D.getD n 0=D[n]:=by rw [zO,kh hn2];rfl
  rw [jh hj,jcY,hn,jgg,g1];rw [hn] at a1;generalize D[n]=v at r1 hb;have c1:ck (1+(v:Int))=some (vi ((v+1:Nat):Int)):=by rw [jZ (by omega) (by omega),show 1+(v:Int)=((v+1:Nat):Int) by omega]
  have m1:=juT d (v+1);have st:=jEW (D:=D) (Z:=Z) (d:=d) (w:=max d (v+1)) hD;have ih:=ih (max d (v+1)) (by omega);rw [jCP];simp only [jd,x1,ld1,hlt,a1,yK,i1,r1,i2,r2,s2,c1,m1,st,h5,ih]
theorem jKn {p:Prf} (hp:Pz p) (AX:A) (k:Nat) (hk:k < p.st.length) (h60:p.st.length<=60) (hpar:∀(i:Nat) (hi:i < p.st.length),∀x∈p.st[i].par,0<=x/\x < (i:Int)) :
  ji5 (vi (k:Nat)) (vi 0) AX (yr p.st) (qV (k+1) [vi 0])=some (.tup [vi (((dpt p (k+1)).getD k 0:Nat):Int),vb true],[]):=by
 have key:=upto (P:=λi=>ji5 (vi (k:Nat)) (vi (i:Nat)) AX (yr p.st) ((dpt p i++List.replicate (k+1 - i) 0).map cn)=some (.tup [vi (((dpt p (k+1)).getD k 0:Nat):Int),vb true],[])) (n:=k+1) ?_ ?_ 0 (jD _)
 .rw [dpt,qQ,List.map_replicate] at key;exact key
 .have hl:k < (dpt p (k+1)).length:=by rw [jdN];omega
  have g1:(dpt p (k+1)).getD k 0=(dpt p (k+1))[k]:=by rw [zO,kh hl];rfl
  obtain ⟨i1,r1,_⟩:=jkF (kh hl);have nle:¬((k+1:Nat):Int)<=(k:Int):=by omega
  rw [jb2,List.replicate_zero,JD,jCO,g1];simp only [jd,nle,i1,r1]
 .intro i hi ih;have hle:(i:Int)<=(k:Int):=by omega
  have inn:=inS hp AX (vi (k:Nat)) i (by omega) h60 (hpar i (by omega)) (List.replicate (k+1 - (i+1)) 0);rw [show k+1 - i=(k+1 - (i+1))+1 by omega,Z8,jCO];simp only [jd,hle,inn,ih]
theorem jwF {p:Prf} (hp:Pz p) (k:Int):∃(d:Int) (b:Bool),G 24 [Yr p,vi k]=some (.tup [vi d,vb b],[])/\G 23 [Yr p,vi k]=some (.tup [vi d,vb b],[]):=by
 have hst:=hp.st;obtain ⟨v1,v2⟩:=YF hp;have c1:ck (((p.st.length:Nat):Int) - 1)=some (vi (((p.st.length:Nat):Int) - 1)):=jZ (by omega) (by omega);have p1:=yw k 0 (((p.st.length:Nat):Int) - 1);have q1:=zN k 0 (((p.st.length:Nat):Int) - 1);cases hb:yS 0 (((p.st.length:Nat):Int) - 1) k<;>rw [hb] at p1 q1
 .have e:G 57 [Yr p,vi k]=some (vb false,[]):=by
   rw [g57];simp only [jd,c1,p1]
  refine ⟨0,false,?_,?_⟩
  .rw [g24];simp only [jd,e]
  .rw [g23];simp only [jd,c1,q1]
 cases hv:KR p<;>rw [hv] at v1 v2
 .have e:G 57 [Yr p,vi k]=some (vb false,[]):=by
   rw [g57];simp only [jd,c1,p1,v1]
  refine ⟨0,false,?_,?_⟩
  .rw [g24];simp only [jd,e]
  .rw [g23];simp only [jd,c1,q1,v2]
 .have e:G 57 [Yr p,vi k]=some (vb true,[]):=by
   rw [g57];simp only [jd,c1,p1,v1]
  obtain ⟨h60,hpar⟩:=jw0 hp hv;have hx:0<=k/\k < ((p.st.length:Nat):Int):=by
   unfold yS at hb;rw [jy,kK,kK] at hb;omega
  obtain ⟨n,rfl⟩:=jce hx.1;have hn:n < p.st.length:=by omega
  have c2:ck ((n:Int)+1)=some (vi ((n+1:Nat):Int)):=by rw [jZ (by omega) (by omega)];rfl
  have sl:zS 4 (yr p.st) none (some (vi ((n+1:Nat):Int)))=some (yr (p.st.take (n+1))):=by
   rw [qP (by rw [jM];omega),<-jev]
  have ln:(((p.st.take (n+1)).length:Nat):Int)=((n+1:Nat):Int):=by rw [qe];omega
  have mk:=Jg (b:=8) (n:=n+1) (by omega) (by omega);have d1:=jKm hp n hn h60 hpar;have d2:=jKn hp (cls p.ax) n hn h60 hpar;refine ⟨(((dpt p (n+1)).getD n 0:Nat):Int),true,?_,?_⟩
  .rw [g24];simp only [jd,e,c2,sl,ln,d1]
  .rw [g23];simp only [jd,c1,q1,v2,c2,mk,d2]
theorem jjT (p:Prf) (k:Int) (hw:pwf p):G 7 [Yr p,vi k]=some (vb true,[]):=by
 have e1:=ja1 p hw 1048576 (by decide) (by decide);rw [g7];by_cases h1:ko 1048576 ((psz p:Nat):Int) < 0
 .simp only [jd,e1,h1]
 .obtain ⟨b1,b2,b3⟩:=YU (by decide) (by decide) h1;have a1:=ja4 p b3;have a2:=jaN p hw;obtain ⟨x,b,r1,r2⟩:=jwF (Pz.of hw b3) k;simp only [jd,e1,h1,a1,a2,r1,r2]
end Go.Proofs.YtoaifmomhaneiaaGreatDoor
