/- Pf -/
import Derived.Test.YtbidbdhamhbebaaGreatDoorPe
import Derived.Test.YtbidbdhamhbebaaGreatDoorPd
namespace Go.Proofs.YtbidbdhamhbebaaGreatDoor
open Go Go.RowKit Go.Proofs.YtbidbdhamhbebaaGreatDoor.Abs
set_option linter.unusedSimpArgs false
set_option linter.unusedVariables false
set_option maxHeartbeats 1000000
theorem jxx (a b c d e f:A):KR [a,b,c] 0 [d,e,f] = [d,e,f]:=rfl
theorem jxy (a b c d e f g h:A):KR [a,b,c,d] 0 [e,f,g,h] = [e,f,g,h]:=rfl
theorem Ky (a b c d e:A) (l:List A):jc (a::b::c::d::e::l) 4=e:=rfl
theorem jf4 (l:Lt):ke 3 (.elt (jL l) 0)=some (ltm l):=rfl
theorem JS (c:kR):ke 1 (.elt (clc c) 0)=some (cm c):=rfl
theorem JU (s:Stp):ke 4 (.elt (stc s) 0)=some (stm s):=rfl
def lsz:kR->Nat
 | []=>0
 | l::c=>tsz l.2+lsz c
def csz (c:kR):Nat:=c.length+lsz c
def jfO:List kR->Nat
 | []=>0
 | c::l=>csz c+jfO l
def ssz (s:Stp):Nat:=s.par.length+s.whr.length+csz s.cls
def jgh:List Stp->Nat
 | []=>0
 | s::l=>ssz s+jgh l
def psz (p:Prf):Nat:=(p.ax.length+jfO p.ax)+(p.st.length+jgh p.st)
def jg6 (s:Sch):Nat:=psz s.prf+s.act.length+s.pas.length
theorem jnH:∀ {c:kR} {l:Lt},l∈c->tsz l.2<=lsz c
 | x::c,l,h=>by
  simp only [lsz];rcases j7.1 h with rfl|h
  .omega
  .have:=jnH h;omega
theorem jio:∀ {l:List kR} {c:kR},c∈l->csz c<=jfO l
 | x::c,l,h=>by
  simp only [jfO];rcases j7.1 h with rfl|h
  .omega
  .have:=jio h;omega
theorem jcr:∀ {l:List Stp} {s:Stp},s∈l->ssz s<=jgh l
 | x::c,l,h=>by
  simp only [jgh];rcases j7.1 h with rfl|h
  .omega
  .have:=jcr h;omega
theorem jFX (l:Lt) (hw:J3 l.2) (left:Int) (h0:0<=left) (h1:left<=1048576):G 29 [ltm l,vi left]=some (vi (kA left ((tsz l.2:Nat):Int)),[]):=by
 have e1:=jC1 l.2 hw left h0 h1;rw [g29];by_cases h:kA left ((tsz l.2:Nat):Int) < 0
 .have:kA left ((tsz l.2:Nat):Int) = -1:=by have:=jak left (tsz l.2:Nat);omega
  simp only [je,e1,h,this]
 .simp only [je,e1,h]
theorem jF0 (l:Lt) (hz:tsz l.2<=1048576):G 40 [ltm l]=some (ltm l,[]):=by
 have e1:=jC6 l.2 hz;rw [g40];simp only [je,e1]
theorem jE3 (l:Lt) (hw:J3 l.2):G 54 [ltm l,ltm l]=some (vb true,[]):=by
 have e1:=jBY l.2 hw;rw [g54];cases l.1<;>simp only [je,e1]
theorem jCZ (l:List Lt) (hl:l.length<=9223372036854775807) (ih:∀t∈l,∀left:Int,0<=left->left<=1048576->G 29 [ltm t,vi left]=some (vi (kA left ((tsz t.2:Nat):Int)),[]))
  (left:Int) (h0:0<=left) (h1:left<=1048576):G 14 [.sl 3 (l.map jL),vi left]=some (vi (kA left ((l.length+lsz l:Nat):Int)),[]):=by
 have loop:∀(a:Int),0<=a->a<=1048576->joG (.sl 3 (l.map jL)) (vi a) (vi 0)=some (vi (kA a (lsz l)),[]):=by
  have key:=(upto (P:=λi=>∀a:Int,0<=a->a<=1048576->joG (.sl 3 (l.map jL)) (vi a) (vi i)=some (vi (kA a (lsz (l.drop i))),[])) (n:=l.length) ?_ ?_ 0 (jE _))
  .simp only [kj,jP] at key;exact key
  .intro b hb hb';rw [jDq,j4];simp only [je,lsz];rw [jaP hb]
  .intro i hi ih' b hb hb';have e1:=ih l[i] (jr _) b hb hb';rw [jDq,ji hi];simp only [je,hi,K3,jb hi,jf4,e1,jq hi hl,lsz];by_cases hc:b < (tsz l[i].2:Nat)
   .rw [yp hc,yp (by omega)];rfl
   .have hp:=KC (jbc.1 hc);have ih':=ih' (kA b (tsz l[i].2:Nat)) (by omega) (by omega);have hn:¬kA b ((tsz l[i].2:Nat):Int) < 0:=by omega
    simp only [je,hn,ih'];rw [jaj (jbc.1 hc),<-Qh]
 have hk:=jfN h0 (jba h1 (by decide)) hl;rw [g14];simp only [je,hk];by_cases hc:left - l.length < 0
 .simp only [je,hc];rw [yp (by omega)]
 .have hl:=loop (left - l.length) (by omega) (by omega);simp only [je,hc,hl];rw [YF,<-Qh]
theorem jC4 (l:List Lt) (hl:l.length<=1048576) (ih:∀t∈l,G 40 [ltm t]=some (ltm t,[])):G 20 [.sl 3 (l.map jL)]=some (.sl 3 (l.map jL),[]):=by
 have key:=(upto (P:=λi=>jtE (.sl 3 (l.map jL)) (vi i) (part jL [vb false,sv [],.sl 2 []] l i)=some (.sl 3 (l.map jL),[])) (n:=l.length) ?_ ?_ 0 (jE _))
 .rw [g20];have hm:=JV (b:=48) (n:=l.length) (by omega) hl;simp only [jP,<-Zw] at key;simp only [je,hm,key]
 .rw [jDt,Y0];simp only [je]
 .intro i hi ih';have h1:=JD (f:=jL) (z:=[vb false,sv [],.sl 2 []]) (Z1 hi);have h2:Q4 (part jL [vb false,sv [],.sl 2 []] l i).length (vi i)=some i:=yj (by omega);have h4:=Y2 (f:=jL) (z:=[vb false,sv [],.sl 2 []]) hi;have h5:=jq hi (qN hl (by decide));have e1:=ih l[i] (jr _);rw [jDt];simp only [je,hi,K3,jb hi,jf4,e1,h2,Y1 hi,jxx,h4,h5,ih']
theorem jBW (l:List Lt) (hl:l.length<=9223372036854775807) (ih:∀t∈l,G 54 [ltm t,ltm t]=some (vb true,[])):G 26 [.sl 3 (l.map jL),.sl 3 (l.map jL)]=some (vb true,[]):=by
 have key:=(upto (P:=λi=>jtG (.sl 3 (l.map jL)) (.sl 3 (l.map jL)) (vi i)=some (vb true,[])) (n:=l.length) ?_ ?_ 0 (jE _))
 .rw [g26];simp only [jP] at key;simp only [je,key]
 .rw [jDw];simp only [je]
 .intro i hi ih';have h5:=jq hi hl;have e1:=ih l[i] (jr _);rw [jDw];simp only [je,hi,K3,jb hi,jf4,e1,h5,ih']
theorem jtr (c:kR) (hw:cwf c) (left:Int) (h0:0<=left) (h1:left<=1048576):G 5 [cm c,vi left]=some (vi (kA left ((csz c:Nat):Int)),[]):=by
 have e1:G 14 [.sl 3 (c.map jL),vi left]=some (vi (kA left ((csz c:Nat):Int)),[]):=jCZ c hw.2 (λl hl=>jFX l (hw.1 l hl)) left h0 h1;rw [g5];by_cases h:kA left ((csz c:Nat):Int) < 0
 .have:kA left ((csz c:Nat):Int) = -1:=by have:=jak left (csz c:Nat);omega
  simp only [je,e1,h,this]
 .simp only [je,e1,h]
theorem jts (c:kR) (hz:csz c<=1048576):G 8 [cm c]=some (cm c,[]):=by
 unfold csz at hz;have e1:=jC4 c (by omega) λl hl=>jF0 l (by have:=jnH hl;omega);rw [g8];simp only [je,e1]
theorem jsr (c:kR) (hw:cwf c):G 11 [cm c,cm c]=some (vb true,[]):=by
 have e1:=jBW c hw.2 λl hl=>jE3 l (hw.1 l hl);rw [g11];simp only [je,e1]
theorem jCY (l:List kR) (hl:l.length<=9223372036854775807) (ih:∀t∈l,∀left:Int,0<=left->left<=1048576->G 5 [cm t,vi left]=some (vi (kA left ((csz t:Nat):Int)),[]))
  (left:Int) (h0:0<=left) (h1:left<=1048576):G 27 [.sl 1 (l.map clc),vi left]=some (vi (kA left ((l.length+jfO l:Nat):Int)),[]):=by
 have loop:∀(a:Int),0<=a->a<=1048576->joJ (.sl 1 (l.map clc)) (vi a) (vi 0)=some (vi (kA a (jfO l)),[]):=by
  have key:=(upto (P:=λi=>∀a:Int,0<=a->a<=1048576->joJ (.sl 1 (l.map clc)) (vi a) (vi i)=some (vi (kA a (jfO (l.drop i))),[])) (n:=l.length) ?_ ?_ 0 (jE _))
  .simp only [kj,jP] at key;exact key
  .intro b hb hb';rw [jDx,j4];simp only [je,jfO];rw [jaP hb]
  .intro i hi ih' b hb hb';have e1:=ih l[i] (jr _) b hb hb';rw [jDx,ji hi];simp only [je,hi,K3,jb hi,JS,e1,jq hi hl,jfO];by_cases hc:b < (csz l[i]:Nat)
   .rw [yp hc,yp (by omega)];rfl
   .have hp:=KC (jbc.1 hc);have ih':=ih' (kA b (csz l[i]:Nat)) (by omega) (by omega);have hn:¬kA b ((csz l[i]:Nat):Int) < 0:=by omega
    simp only [je,hn,ih'];rw [jaj (jbc.1 hc),<-Qh]
 have hk:=jfN h0 (jba h1 (by decide)) hl;rw [g27];simp only [je,hk];by_cases hc:left - l.length < 0
 .simp only [je,hc];rw [yp (by omega)]
 .have hl:=loop (left - l.length) (by omega) (by omega);simp only [je,hc,hl];rw [YF,<-Qh]
theorem jC3 (l:List kR) (hl:l.length<=1048576) (ih:∀t∈l,G 8 [cm t]=some (cm t,[])):G 38 [.sl 1 (l.map clc)]=some (.sl 1 (l.map clc),[]):=by
 have key:=(upto (P:=λi=>jtM (.sl 1 (l.map clc)) (vi i) (part clc [.sl 3 []] l i)=some (.sl 1 (l.map clc),[])) (n:=l.length) ?_ ?_ 0 (jE _))
 .rw [g38];have hm:=JV (b:=24) (n:=l.length) (by omega) hl;simp only [jP,<-Zw] at key;simp only [je,hm,key]
 .rw [jDF,Y0];simp only [je]
 .intro i hi ih';have h1:=JD (f:=clc) (z:=[.sl 3 []]) (Z1 hi);have h2:Q4 (part clc [.sl 3 []] l i).length (vi i)=some i:=yj (by omega);have h4:=Y2 (f:=clc) (z:=[.sl 3 []]) hi;have h5:=jq hi (qN hl (by decide));have e1:=ih l[i] (jr _);rw [jDF];simp only [je,hi,K3,jb hi,JS,e1,h2,Y1 hi,jt4,h4,h5,ih']
theorem jBV (l:List kR) (hl:l.length<=9223372036854775807) (ih:∀t∈l,G 11 [cm t,cm t]=some (vb true,[])):G 52 [.sl 1 (l.map clc),.sl 1 (l.map clc)]=some (vb true,[]):=by
 have key:=(upto (P:=λi=>jtR (.sl 1 (l.map clc)) (.sl 1 (l.map clc)) (vi i)=some (vb true,[])) (n:=l.length) ?_ ?_ 0 (jE _))
 .rw [g52];simp only [jP] at key;simp only [je,key]
 .rw [jDK];simp only [je]
 .intro i hi ih';have h5:=jq hi hl;have e1:=ih l[i] (jr _);rw [jDK];simp only [je,hi,K3,jb hi,JS,e1,h5,ih']
theorem YS {left:Int} {m n:Nat} (h1:left<=1048576) (h:¬kA left (m:Int) < 0):kA (kA left (m:Int)) (n:Int)=kA left ((m+n:Nat):Int)/\0<=kA left (m:Int)/\kA left (m:Int)<=1048576:=by
 have hm:(m:Int)<=left:=by
  refine jbc.1 λhc=>h ?_;rw [yp hc];decide
 have:=KC hm;refine ⟨?_,by omega,by omega⟩;rw [jaj hm,<-Qh]
theorem jb7 {left:Int} {m n:Nat} (h:kA left (m:Int) < 0):kA left ((m+n:Nat):Int) = -1:=by
 have:left < m:=by
  refine Int.not_le.1 λhc=> ?_;rw [KC hc] at h;omega
 exact yp (by omega)
theorem jC0 (s:Stp) (hw:swf s) (left:Int) (h0:0<=left) (h1:left<=1048576):G 55 [stm s,vi left]=some (vi (kA left ((ssz s:Nat):Int)),[]):=by
 have e1:=jhK s.par hw.2.1.2 left h0 h1;rw [g55];unfold ssz;by_cases c1:kA left ((s.par.length:Nat):Int) < 0
 .rw [Q3,jb7 c1];simp only [je,e1,c1]
 .obtain ⟨d1,d2,d3⟩:=YS (n:=s.whr.length) h1 c1;have e2:=jhK s.whr hw.2.2.1.2 _ d2 d3;rw [d1] at e2;by_cases c2:kA left ((s.par.length+s.whr.length:Nat):Int) < 0
  .rw [jb7 c2];simp only [je,e1,c1,e2,c2]
  .obtain ⟨d4,d5,d6⟩:=YS (n:=csz s.cls) h1 c2;have e3:=jtr s.cls hw.2.2.2 _ d5 d6;rw [d4] at e3;by_cases c3:kA left ((s.par.length+s.whr.length+csz s.cls:Nat):Int) < 0
   .have:kA left ((s.par.length+s.whr.length+csz s.cls:Nat):Int) = -1:=by have:=jak left (s.par.length+s.whr.length+csz s.cls:Nat);omega
    simp only [je,e1,c1,e2,c2,e3,c3,this]
   .simp only [je,e1,c1,e2,c2,e3,c3]
theorem jC5 (s:Stp) (hz:ssz s<=1048576):G 65 [stm s]=some (stm s,[]):=by
 unfold ssz at hz;have e1:=jhN s.par (by omega);have e2:=jhN s.whr (by omega);have e3:=jts s.cls (by omega);rw [g65];simp only [je,e1,e2,e3]
theorem jBX (s:Stp) (hw:swf s):G 79 [stm s,stm s]=some (vb true,[]):=by
 have e1:=jhw s.par hw.2.1.2;have e2:=jhw s.whr hw.2.2.1.2;have e3:=jsr s.cls hw.2.2.2;rw [g79];simp only [je,e1,e2,e3]
theorem jAI (l:List Stp) (hl:l.length<=9223372036854775807) (ih:∀t∈l,∀left:Int,0<=left->left<=1048576->G 55 [stm t,vi left]=some (vi (kA left ((ssz t:Nat):Int)),[]))
  (left:Int) (h0:0<=left) (h1:left<=1048576):G 28 [.sl 4 (l.map stc),vi left]=some (vi (kA left ((l.length+jgh l:Nat):Int)),[]):=by
 have loop:∀(a:Int),0<=a->a<=1048576->joK (.sl 4 (l.map stc)) (vi a) (vi 0)=some (vi (kA a (jgh l)),[]):=by
  have key:=(upto (P:=λi=>∀a:Int,0<=a->a<=1048576->joK (.sl 4 (l.map stc)) (vi a) (vi i)=some (vi (kA a (jgh (l.drop i))),[])) (n:=l.length) ?_ ?_ 0 (jE _))
  .simp only [kj,jP] at key;exact key
  .intro b hb hb';rw [jDy,j4];simp only [je,jgh];rw [jaP hb]
  .intro i hi ih' b hb hb';have e1:=ih l[i] (jr _) b hb hb';rw [jDy,ji hi];simp only [je,hi,K3,jb hi,JU,e1,jq hi hl,jgh];by_cases hc:b < (ssz l[i]:Nat)
   .rw [yp hc,yp (by omega)];rfl
   .have hp:=KC (jbc.1 hc);have ih':=ih' (kA b (ssz l[i]:Nat)) (by omega) (by omega);have hn:¬kA b ((ssz l[i]:Nat):Int) < 0:=by omega
    simp only [je,hn,ih'];rw [jaj (jbc.1 hc),<-Qh]
 have hk:=jfN h0 (jba h1 (by decide)) hl;rw [g28];simp only [je,hk];by_cases hc:left - l.length < 0
 .simp only [je,hc];rw [yp (by omega)]
 .have hl:=loop (left - l.length) (by omega) (by omega);simp only [je,hc,hl];rw [YF,<-Qh]
theorem jAL (l:List Stp) (hl:l.length<=1048576) (ih:∀t∈l,G 65 [stm t]=some (stm t,[])):G 39 [.sl 4 (l.map stc)]=some (.sl 4 (l.map stc),[]):=by
 have key:=(upto (P:=λi=>jtN (.sl 4 (l.map stc)) (vi i) (part stc [vi 0,.sl 1 [],.sl 1 [],.sl 3 []] l i)=some (.sl 4 (l.map stc),[])) (n:=l.length) ?_ ?_ 0 (jE _))
 .rw [g39];have hm:=JV (b:=80) (n:=l.length) (by omega) hl;simp only [jP,<-Zw] at key;simp only [je,hm,key]
 .rw [jDG,Y0];simp only [je]
 .intro i hi ih';have h1:=JD (f:=stc) (z:=[vi 0,.sl 1 [],.sl 1 [],.sl 3 []]) (Z1 hi);have h2:Q4 (part stc [vi 0,.sl 1 [],.sl 1 [],.sl 3 []] l i).length (vi i)=some i:=yj (by omega);have h4:=Y2 (f:=stc) (z:=[vi 0,.sl 1 [],.sl 1 [],.sl 3 []]) hi;have h5:=jq hi (qN hl (by decide));have e1:=ih l[i] (jr _);rw [jDG];simp only [je,hi,K3,jb hi,JU,e1,h2,Y1 hi,jxy,h4,h5,ih']
theorem jxY (l:List Stp) (hl:l.length<=9223372036854775807) (ih:∀t∈l,G 79 [stm t,stm t]=some (vb true,[])):G 53 [.sl 4 (l.map stc),.sl 4 (l.map stc)]=some (vb true,[]):=by
 have key:=(upto (P:=λi=>jtS (.sl 4 (l.map stc)) (.sl 4 (l.map stc)) (vi i)=some (vb true,[])) (n:=l.length) ?_ ?_ 0 (jE _))
 .rw [g53];simp only [jP] at key;simp only [je,key]
 .rw [jDL];simp only [je]
 .intro i hi ih';have h5:=jq hi hl;have e1:=ih l[i] (jr _);rw [jDL];simp only [je,hi,K3,jb hi,JU,e1,h5,ih']
theorem jAH (p:Prf) (hw:pwf p) (left:Int) (h0:0<=left) (h1:left<=1048576):G 12 [prm p,vi left]=some (vi (kA left ((psz p:Nat):Int)),[]):=by
 have e1:=jCY p.ax hw.1.2 (λc hc=>jtr c (hw.1.1 c hc)) left h0 h1;rw [g12];unfold psz;by_cases c1:kA left ((p.ax.length+jfO p.ax:Nat):Int) < 0
 .rw [jb7 c1];simp only [je,e1,c1]
 .obtain ⟨d1,d2,d3⟩:=YS (n:=p.st.length+jgh p.st) h1 c1;have e2:=jAI p.st hw.2.2 (λs hs=>jC0 s (hw.2.1 s hs)) _ d2 d3;rw [d1] at e2;by_cases c2:kA left ((p.ax.length+jfO p.ax+(p.st.length+jgh p.st):Nat):Int) < 0
  .have:kA left ((p.ax.length+jfO p.ax+(p.st.length+jgh p.st):Nat):Int) = -1:=by have:=jak left (p.ax.length+jfO p.ax+(p.st.length+jgh p.st):Nat);omega
   simp only [je,e1,c1,e2,c2,this]
  .simp only [je,e1,c1,e2,c2]
theorem jAK (p:Prf) (hz:psz p<=1048576):G 18 [prm p]=some (prm p,[]):=by
 unfold psz at hz;have e1:=jC3 p.ax (by omega) λc hc=>jts c (by have:=jio hc;omega);have e2:=jAL p.st (by omega) λs hs=>jC5 s (by have:=jcr hs;omega);rw [g18];simp only [je,e1,e2]
theorem jxX (p:Prf) (hw:pwf p):G 24 [prm p,prm p]=some (vb true,[]):=by
 have e1:=jBV p.ax hw.1.2 λc hc=>jsr c (hw.1.1 c hc);have e2:=jxY p.st hw.2.2 λs hs=>jBX s (hw.2.1 s hs);rw [g24];simp only [je,e1,e2]
theorem jwM (s:Sch) (hw:jrc s) (left:Int) (h0:0<=left) (h1:left<=1048576):G 4 [scm s,vi left]=some (vi (kA left ((jg6 s:Nat):Int)),[]):=by
 have e1:=jAH s.prf hw.1 left h0 h1;rw [g4];unfold jg6;by_cases c1:kA left ((psz s.prf:Nat):Int) < 0
 .rw [Q3,jb7 c1];simp only [je,e1,c1]
 .obtain ⟨d1,d2,d3⟩:=YS (n:=s.act.length) h1 c1;have e2:=jhK s.act hw.2.1.2 _ d2 d3;rw [d1] at e2;by_cases c2:kA left ((psz s.prf+s.act.length:Nat):Int) < 0
  .rw [jb7 c2];simp only [je,e1,c1,e2,c2]
  .obtain ⟨d4,d5,d6⟩:=YS (n:=s.pas.length) h1 c2;have e3:=jhK s.pas hw.2.2.2 _ d5 d6;rw [d4] at e3;by_cases c3:kA left ((psz s.prf+s.act.length+s.pas.length:Nat):Int) < 0
   .have:kA left ((psz s.prf+s.act.length+s.pas.length:Nat):Int) = -1:=by have:=jak left (psz s.prf+s.act.length+s.pas.length:Nat);omega
    simp only [je,e1,c1,e2,c2,e3,c3,this]
   .simp only [je,e1,c1,e2,c2,e3,c3]
theorem jwQ (s:Sch) (hz:jg6 s<=1048576):G 7 [scm s]=some (scm s,[]):=by
 unfold jg6 at hz;have e1:=jAK s.prf (by omega);have e2:=jhN s.act (by omega);have e3:=jhN s.pas (by omega);rw [g7];simp only [je,Ky,e1,e2,e3]
theorem jvn (s:Sch) (hw:jrc s):G 10 [scm s,scm s]=some (vb true,[]):=by
 have e1:=jxX s.prf hw.1;have e2:=jhw s.act hw.2.1.2;have e3:=jhw s.pas hw.2.2.2;rw [g10];cases s.lost<;>simp only [je,Ky,e1,e2,e3]
theorem jkS (d:kR) (h:jV d=true):G 189 [cm d]=some (cm (jY d),[]):=by
 obtain ⟨hc,_,_,hnm⟩:=ky h;have hl:=Kr hc;have e1:=jlo d hc;have e2:=jdd 89 d hc (zl d) (λn=>jdI) (hc.ren_tz (by decide));have e2:G 216 [cm d,.mp ((Zd 89 0 (zl d)).map kn)]=some (cm (jY d),[]):=by rw [e2,<-apart_eq h];rfl
 have hnd:=jaR d;have hnum:∀i (hi:i < (zl d).length),(zl d)[i]=Kd 88 i:=λi hi=>by
  obtain ⟨j,hj,e,e'⟩:=jdK hnm (jr hi);rw [jkX hnd hi] at e';rw [e,jzK e']
 generalize zl d=ns at *;have key:=upto (P:=λi=>∀m:Nm',(∀n∈ns.drop i,yK m n=none)->m++Zd 89 i (ns.drop i)=Zd 89 0 ns->jmx (strs ns) (vi (ns.length:Nat)) (vi (i:Nat)) (.sl 3 (d.map jL)) (m.map kn) []=some (cm (jY d),[])) (n:=ns.length) ?_ ?_ 0 (jE _) [] (λn _=>rfl) (by rw [kj];rfl)
 .simp only [jP,ya] at key;rw [jJf];simp only [je,e1,key]
 .intro m _ hm;rw [j4,Zd,y8] at hm;subst hm;rw [jyK];simp only [je,e2]
 .intro i hi ih m hm hp;have hlt:(i:Int) < ((ns.length:Nat):Int):=by omega
  have h5:=jq hi (by show ns.length<=9223372036854775807;omega)
  have ld:ku (.elt (cs ns[i]) 0)=some (sv ns[i]):=rfl;have hd:(ns.drop i).Nodup:=hnd.sublist (List.drop_sublist i ns);rw [ji hi] at hm hd hp;have pt:=jD4 (hm ns[i] (JP ..)) (Kd 89 i);have e3:Yt (sv ns[i]) (some (vi 1)) none=some (sv (Lib.decDigits i)):=by
   rw [hnum i hi];have hlen:(Kd 88 i).length=(Lib.decDigits i).length+1:=rfl;show (if (0:Int)<=1/\(1:Int)<=(((Kd 88 i).length:Nat):Int)/\(((Kd 88 i).length:Nat):Int)<=(((Kd 88 i).length:Nat):Int) then some (sv (((Kd 88 i).take ((((Kd 88 i).length:Nat):Int).toNat)).drop 1)) else none)=_;rw [jl ⟨by omega,by omega,by omega⟩,jkn,jfk];rfl
  have e4:=jFA 89 i (by omega);have ih:=ih (m++[(ns[i],Kd 89 i)]) (λn hn'=>by
   rw [jfV,hm n (Jw _ hn')];show (if ns[i]=n then _ else none)=none;rw [jo];rintro e;exact (jha.1 hd).1 (e ▸ hn')) (by rw [zH];exact hp)
  rw [jyK];simp only [je,hlt,jb hi,ld,e3,e4,pt,h5,ih]
theorem jfJ (d:kR) (h:jV d=true):G 177 [cm d]=some (cm (jY d),[]):=by
 obtain ⟨hc,_,_,_⟩:=ky h;have e1:=jlp d hc;have e2:=jgQ 89 (by decide) d hc;rw [apart_eq h] at e2;rw [jI6];simp only [je,e1,e2]
theorem jxC (c:kR) (hl:c.length<=1000):jrV (.sl 3 (c.map jL))=some (.top,[.sl 3 (c.map jL)]):=by
 have e1:jz7 (.sl 3 (c.map jL))=some (c.map jL):=rfl;have f:jW c.length 48=true:=jam (by omega);rw [jEN];cases c with
 | nil=>
  have f0:jW 0 48=true:=jam (by omega);have hz:nz (yU [])=true:=rfl;have e1:jz7 (.sl 3 [])=some []:=rfl;simp only [je,e1,hz,f0,ya,jxr]
 | cons l r=>
  have hz:nz (yU (List.map jL (l::r)))=false:=rfl;generalize l::r=x at *;simp only [je,e1,hz,f]
theorem jvj (c:kR) (hl:c.length<=1000) (i:Nat) (hi:i < c.length):jrU (vi (i:Nat)) (vi ((i+1:Nat):Int)) (c.map jL)=some (.top,[.sl 3 ((c.eraseIdx i).map jL)]):=by
 have e1:yU (c.map jL)=c.length:=qK jL c;have e2:yq (c.map jL) 0=c.length:=by rw [qZ,jK];rfl
 have hne:¬((i:Nat):Int)=((i+1:Nat):Int):=by omega
 have k1:pB 0 c.length (some (vi (c.length:Nat)))=some c.length:=Js (kD _);have k2:pB 0 c.length (some (vi ((i+1:Nat):Int)))=some (i+1):=Js (by omega);have k3:pB 0 (i+1) (some (vi (i:Nat)))=some i:=Js (by omega);have k4:pB c.length c.length (some (vi (i:Nat)))=some i:=Js (by omega);have k5:pB c.length c.length none=some c.length:=yi (kD _);have w1:Ja (c.map jL) (0+(i+1)) (zf c.length (i+1))=(c.drop (i+1)).map jL:=by
  rw [jeZ,qW,Jg,<-jfl,ql (by rw [jK,qS];omega)]
 have w2:yU ((c.drop (i+1)).map jL)=c.length - (i+1):=by rw [qK,qS]
 have rm:jqE 0 (zf i 0) ((c.drop (i+1)).map jL) (c.map jL)=true:=by
  rw [jz5,qW];exact jR (by rw [jK,jK,qS];omega)
 generalize hov:qj (c.map jL) (0+zf i 0) ((c.drop (i+1)).map jL)=O at *;have hO:O=(c.eraseIdx i).map jL++(c.map jL).drop (c.length - 1):=by
  rw [<-hov,jap,qW,jdm,Jg,jAW,zz,jfm,jK,qS];congr 2;omega
 have hOl:O.length=c.length:=by
  rw [hO,yn,jK,List.length_eraseIdx_of_lt hi,qS,jK];omega
 have k6:pB (zf i 0+(c.length - (i+1))) (yq O 0) (some (vi (c.length:Nat)))=some c.length:=by
  rw [qZ,hOl];exact Js (by omega)
 have k7:pB 0 c.length (some (nA (zf i 0+(c.length - (i+1)))))=some (c.length - 1):=by
  rw [qW,show i - 0+(c.length - (i+1))=c.length - 1 by omega];exact Js (by omega)
 have fin:List.take (zf i 0+(c.length - (i+1))) (qj O (0+(c.length - 1)) (Jp (zf c.length (c.length - 1)) [vb false,sv [],.sl 2 []]))=(c.eraseIdx i).map jL:=by
  have hlen:((c.eraseIdx i).map jL).length=c.length - 1:=by rw [jK,List.length_eraseIdx_of_lt hi]
  rw [qW,show i - 0+(c.length - (i+1))=c.length - 1 by omega,jap,Jg,zH,jfn (by rw [qD,hOl];omega),List.take_take,Nat.min_self,hO,jfn (by omega),ql (by omega)]
 rw [jEM];simp only [cev];rw [e1,e2,Yu,jK,k1,yo,k2,yo,k3,yo,jqA,kx hne,yo,YW,yo,YB,k4,yo,k5,yo,k2,yo,w1,rm,jep,hov,w2,k6,yo,k7,yo,fin]
theorem ZC (c:kR) (hl:c.length<=1000) (i:Nat) (hi:i < c.length):G 192 [cm c,vi (i:Nat)]=some (.sl 3 ((c.eraseIdx i).map jL),[]):=by
 have e1:=jxC c hl;have e2:=jvj c hl i hi;have r1:∀x:kR,hR 3 (A.top,[.sl 3 (x.map jL)]) 0=some (x.map jL):=λx=>rfl;have h5:=jq hi (by show c.length<=9223372036854775807;omega);rw [jJh];simp only [je,e1,r1,h5,e2]
theorem KM (c:kR) (hl:c.length<=1000) (i:Nat) (hi:i < c.length):jdo (.sl 3 (c.map jL)) (vi (i:Nat))=some (.top,[.sl 3 ((c.eraseIdx i).map jL)]):=by
 have s1:zZ 3 (.sl 3 (c.map jL)) none (some (vi (i:Nat)))=some (.sl 3 ((c.map jL).take i)):=JC (by rw [jK];omega)
 have s2:zZ 3 (.sl 3 (c.map jL)) (some (vi ((i+1:Nat):Int))) none=some (.sl 3 ((c.map jL).drop (i+1))):=yZ (by rw [jK];omega)
 have hck:ck ((i:Int)+1)=some (vi ((i+1:Nat):Int)):=j8 (by omega) (by omega);have f1:jW ((c.map jL).take i).length 48=true:=jam (by rw [qD,jK];omega);have f2:jW (((c.map jL).take i).length+((c.map jL).drop (i+1)).length) 48=true:=jam (by rw [qD,qS,jK];omega);have fin:kq ((c.map jL).take i) ((c.map jL).drop (i+1))=(c.eraseIdx i).map jL:=by
  rw [jAW,zz,jfm,jfl];rfl
 rw [jEI];simp only [je,s1,s2,hck,f1,f2,fin]
theorem jB4 (n:Nat) (hn:n<=1000):jrT (vi (n:Nat))=some (.top,[.sl 3 []]):=by
 have h0:¬((n:Nat):Int) < 0:=by omega
 have c1:ck (0 - 0)=some (vi 0):=j8 (n:=0 - 0) (by omega) (by omega);have c2:ck (((n:Nat):Int) - 0)=some (vi (n:Nat)):=by rw [Int.sub_zero];exact j8 (by omega) (by omega)
 rw [jEL];by_cases hz:n=0
 .have hz':¬(0:Int) < ((n:Nat):Int):=by omega
  simp only [je,h0,c1,c2,hz']
 .have hz':(0:Int) < ((n:Nat):Int):=by omega
  have k1:pB 0 0 (some (vi 0))=some 0:=rfl;have k2:=JV (b:=48) (n:=n) (by omega) (by omega);have k3:jW n 48=true:=jam (by omega);have k4:∀X:List (List A),pB (yU X) (yq X 0) (some (vi 0))=some 0:=λX=>Js (n:=0) (jE _);simp only [je,h0,c1,c2,hz',k1,k2,k3,k4,qW,Jv];rfl
theorem jk1 (ls:List kR) (hn:ls.length<=10) (hl:∀c∈ls,c.length<=50):jfs (ls.map clc)=some (.top,[.sl 3 (ls.flatten.map jL)]):=by
 have r1:∀x:kR,hR 3 (A.top,[.sl 3 (x.map jL)]) 0=some (x.map jL):=λx=>rfl;have rp:∀i,(hi:i < ls.length)->jan (ls.map clc) i 0=some (.sl 3 (ls[i].map jL)):=λi hi=>by unfold jan;simp [hi]
 have hix:∀i,i < ls.length->Q4 ls.length (vi (i:Nat))=some i:=λi hi=>yj hi;have hend:jbJ (vi (ls.length:Nat)) (vi 0) [] (ls.map clc)=some (.top,[.sl 3 (ls.flatten.map jL)]):=by
  have key:=upto (P:=λi=>∀R:kR,R.length<=50 * i->R++(ls.drop i).flatten=ls.flatten->jbJ (vi (ls.length:Nat)) (vi (i:Nat)) (R.map jL) (ls.map clc)=some (.top,[.sl 3 (ls.flatten.map jL)])) (n:=ls.length) ?_ ?_ 0 (jE _) [] (jE _) (by rw [kj];rfl)
  .exact key
  .intro R _ hR;rw [j4,List.flatten_nil,y8] at hR;rw [jpX,hR];simp only [je]
  .intro i hi ih R hRl hR;have hlt:(i:Int) < ((ls.length:Nat):Int):=by omega
   have hck:ck ((i:Int)+1)=some (vi ((i+1:Nat):Int)):=j8 (by omega) (by omega);have hc:=hl _ (jr hi);have hf:jW (R.length+ls[i].length) 48=true:=jam (by omega);have ha:kq (R.map jL) (ls[i].map jL)=(R++ls[i]).map jL:=by rw [zz];rfl
   have:=ih (R++ls[i]) (by rw [yn];omega) (by rw [zH,<-J5,<-ji hi];exact hR)
   rw [jpX];simp only [je,hlt,hix i hi,rp i hi,hf,ha,hck,this]
 have key:=upto (P:=λi=>∀z:Nat,z<=50 * i->jd8 (vi (z:Nat)) (vi (ls.length:Nat)) (vi (i:Nat)) (ls.map clc)=some (.top,[.sl 3 (ls.flatten.map jL)])) (n:=ls.length) ?_ ?_ 0 (jE _) 0 (jE _)
 .rw [jEJ,Yu,jK];exact key
 .intro z hz;have e:=jB4 z (by omega);have r0:hR 3 (A.top,[.sl 3 []]) 0=some []:=rfl;rw [jpW];simp only [je,e,r0,hend]
 .intro i hi ih z hz;have hlt:(i:Int) < ((ls.length:Nat):Int):=by omega
  have hck:ck ((i:Int)+1)=some (vi ((i+1:Nat):Int)):=j8 (by omega) (by omega);have hc:=hl _ (jr hi);have c1:ck ((z:Int)+((ls[i].length:Nat):Int))=some (vi ((z+ls[i].length:Nat):Int)):=j8 (by omega) (by omega);have hneg:¬((z+ls[i].length:Nat):Int) < 0:=by omega
  have:=ih (z+ls[i].length) (by omega);rw [jpW];simp only [je,hlt,hix i hi,rp i hi,c1,hneg,hck,this]
def LN (l:kR):Prop:=l.length<=40/\ ∀x∈l,Bx x.2/\nodes x.2<=100
theorem LN.app {s:js} (hs:jN s=true) {l:kR} (h:LN l):∀x∈l.map (λx=>(x.1,Go.Proofs.YtbidbdhamhbebaaGreatDoor.sub s x.2)),Bx x.2/\Tz x.2:=λx hx=>by
 obtain ⟨y,hy,rfl⟩:=ym.1 hx;have hb:=(h.2 y hy).1;exact ⟨hb.sub hs,KO.sub_tz hs hb.ax (by have:=(h.2 y hy).2;omega)⟩
theorem jkT {s:js} {l c:kR} (h:QN s l=some c):CN c/\Asc cmpL c:=⟨(qy (jej h).1).1,(jej h).2⟩
theorem jxl (s:js) (hs:jN s=true) (l:kR) (h:LN l):G 201 [sb s,.sl 3 (l.map jL)]=Zu (QN s l):=by
 have hl:=h.1;have happ:=h.app hs;have e1:=jgH (l.map λx=>(x.1,sub s x.2)) (by rw [jK];omega) (λx hx=>(happ x hx).1.rx) λx hx=>(happ x hx).2;have e2:=jpG (qi cmpL (l.map λx=>(x.1,sub s x.2))) (by have:=jfW cmpL (l.map λx=>(x.1,sub s x.2));rw [jK] at this;omega) λx hx=>(happ x (jfX.1 hx)).2;generalize hd:l.map (λx=>(x.1,sub s x.2))=d at *;have hdl:d.length=l.length:=by rw [<-hd,jK]
 have key:=upto (P:=λi=>jmC (.sl 3 (l.map jL)) (vi (l.length:Nat)) (vi (i:Nat)) (ZK s) ((d.take i).map jL) []=Zu (if ((l.drop i).all λx=>jD (sub s x.2)) && yO (qi cmpL d) then some (qi cmpL d) else none)) (n:=l.length) ?_ ?_ 0 (jE _)
 .simp only [jP,Jv,ya,kj] at key;unfold QN;rw [hd,<-key,jJo];simp only [je]
 .rw [jyT,<-hdl,jfk,hdl,j4,jdn,jI];rw [<-hdl];cases hv:yO (qi cmpL d)<;>rw [hv] at e2
  .rw [jo kh] at e2 ⊢;have e2:G 229 [cm (qi cmpL d)]=some (.tup [cz,vb false],[]):=e2;simp only [je,e1,e2];rfl
  .rw [jl rfl] at e2 ⊢;have e2:G 229 [cm (qi cmpL d)]=some (.tup [cm (qi cmpL d),vb true],[]):=e2;simp only [je,e1,e2];rfl
 .intro i hi ih;have hi2:i < d.length:=by omega
  have hlt:(i:Int) < ((l.length:Nat):Int):=by omega
  have h5:=jq hi (by show l.length<=9223372036854775807;omega)
  have hb:=h.2 _ (jr hi);have e3:=yF s hs l[i].2 hb.1.ax (by omega);have hdi:d[i]=(l[i].1,sub s l[i].2):=by simp only [<-hd,jdj]
  have ta:=jat (f:=jL) hi2;have tl:=take_len (f:=jL) (Z1 hi2);have hf:jW (i+1) 48=true:=jam (by omega);rw [hdi] at ta;rw [jyT,ji hi,yC];cases hsm:jD (sub s l[i].2)<;>rw [hsm] at e3
  .rw [jH,jH,jo kh];have e3:G 194 [sb s,tm l[i].2]=some (.tup [.agg [sv [],.sl 2 []],vb false],[]):=e3;simp only [je,hlt,jb hi,zj,e3];rfl
  .rw [jI];have e3:G 194 [sb s,tm l[i].2]=some (.tup [tm (sub s l[i].2),vb true],[]):=e3;generalize (d.take i).map jL=R at *;generalize sub s l[i].2=u at *;rw [<-ih];simp only [je,hlt,jb hi,zj,e3,tl,hf,ta,h5]
theorem jxm (s:js) (hs:jN s=true) (l:kR) (h:LN l):G 208 [sb s,.sl 3 (l.map jL)]=Zu (QN s l):=by
 have hl:=h.1;have happ:=h.app hs;have e1:=jfU (l.map λx=>(x.1,sub s x.2)) (by rw [jK];omega) λx hx=>(happ x hx).2;have e2:=jcK (qi cmpL (l.map λx=>(x.1,sub s x.2))) (by have:=jfW cmpL (l.map λx=>(x.1,sub s x.2));rw [jK] at this;omega) λx hx=>(happ x (jfX.1 hx)).2;generalize hd:l.map (λx=>(x.1,sub s x.2))=d at *;have hdl:d.length=l.length:=by rw [<-hd,jK]
 have ld:∀l:Lt,ku (.elt (jL l) 0)=some (vb l.1):=λl=>rfl;have ad:∀(l:Lt) (n:Nat),ye (.elt (jL l) 0) n=some (.elt (jL l) n):=λl n=>by rw [qI,Jg]
 have ld2:∀l:Lt,ke 2 (.elt (jL l) 1)=some (tm l.2):=λl=>rfl;have key:=upto (P:=λi=>jmF (.sl 3 (l.map jL)) (vi (i:Nat)) (ZK s) ((d.take i).map jL) []=Zu (if ((l.drop i).all λx=>jD (sub s x.2)) && yO (qi cmpL d) then some (qi cmpL d) else none)) (n:=l.length) ?_ ?_ 0 (jE _)
 .simp only [jP,Jv,ya,kj] at key;unfold QN;rw [hd,<-key,jJt];simp only [je]
 .have hlt:¬((l.length:Nat):Int) < ((l.length:Nat):Int):=by omega
  rw [jyW,ql (by omega),j4,jdn,jI];cases hv:yO (qi cmpL d)<;>rw [hv] at e2
  .rw [jo kh];simp only [je,e1,e2];rfl
  .rw [jl rfl];simp only [je,e1,e2];rfl
 .intro i hi ih;have hi2:i < d.length:=by omega
  have hlt:(i:Int) < ((l.length:Nat):Int):=by omega
  have h5:=jq hi (by show l.length<=9223372036854775807;omega)
  have hb:=h.2 _ (jr hi);have tz:=hb.1.tz (by omega);have tz2:=KO.sub_tz hs hb.1.ax (by omega);have e3:=Zo s (yM hs).sz l[i].2 tz;have e4:=jld (sub s l[i].2) tz2.wf tz2;rw [(hb.1.sub hs).atom] at e4;have hdi:d[i]=(l[i].1,sub s l[i].2):=by simp only [<-hd,jdj]
  have ta:=jat (f:=jL) hi2;have tl:=take_len (f:=jL) (Z1 hi2);have hf:jW (i+1) 48=true:=jam (by omega);rw [hdi] at ta;rw [jyW,ji hi,yC];cases hsm:jD (sub s l[i].2)<;>rw [hsm] at e4
  .rw [jH,jH,jo kh];simp only [je,hlt,jb hi,ad,ld2,e3,e4];rfl
  .rw [jI];generalize (d.take i).map jL=R at *;generalize sub s l[i].2=u at *;rw [<-ih];simp only [je,hlt,jb hi,ad,ld,ld2,e3,e4,tl,hf,ta,h5]
theorem ZR (s:js) (hs:jN s=true) (l:kR) (h:LN l):G 170 [sb s,.sl 3 (l.map jL)]=Zu (J9 s l):=by
 have e1:=jxl s hs l h;unfold J9;rw [jI4];cases ha:QN s l with
 | none=>
  rw [ha] at e1;have e1:G 201 [sb s,.sl 3 (l.map jL)]=some (.tup [cz,vb false],[]):=e1;simp only [je,e1];rfl
 | some c=>
  rw [ha] at e1;have e1:G 201 [sb s,.sl 3 (l.map jL)]=some (.tup [cm c,vb true],[]):=e1;have hc:=(jkT ha).1;have e2:=jnP c hc;have e3:=yr (normC c) (by have:=hc.normC.1;omega) hc.normC.tz;rw [yo];cases hn:jV (normC c)<;>rw [hn] at e3
  .rw [jo kh];simp only [je,e1,e2,e3];rfl
  .rw [jl rfl];simp only [je,e1,e2,e3];rfl
theorem KY (s:js) (hs:jN s=true) (l:kR) (h:LN l):G 179 [sb s,.sl 3 (l.map jL)]=Zu (J9 s l):=by
 have e1:=jxm s hs l h;unfold J9;rw [jI8];cases ha:QN s l with
 | none=>
  rw [ha] at e1;have e1:G 208 [sb s,.sl 3 (l.map jL)]=some (.tup [cz,vb false],[]):=e1;simp only [je,e1];rfl
 | some c=>
  rw [ha] at e1;have e1:G 208 [sb s,.sl 3 (l.map jL)]=some (.tup [cm c,vb true],[]):=e1;obtain ⟨hc,hasc⟩:=jkT ha;have e2:=jqa c hc hasc;have e3:=QU (normC c) hc.normC;rw [yo];unfold jV;cases hv:yO (normC c)<;>rw [hv] at e2
  .rw [jH,jo kh];simp only [je,e1,e2];rfl
  .rw [jI];cases hn:KX (normC c)<;>rw [hn] at e3
   .rw [jo kh];simp only [je,e1,e2,e3];rfl
   .rw [jl rfl];simp only [je,e1,e2,e3];rfl
theorem zP (r:Option kR):∃(c:kR) (b:Bool),Zu r=some (.tup [cm c,vb b],[]):=by
 cases r with
 | none=>exact ⟨[],false,rfl⟩
 | some c=>exact ⟨c,true,rfl⟩
theorem jcN (r:Option js):∃(u:js) (b:Bool),yd r=some (.tup [sb u,vb b],[])/\(b=true->r=some u)/\(b=false->r=none):=by
 cases r with
 | none=>exact ⟨[],false,rfl,(λh=>by cases h),λ_=>rfl⟩
 | some u=>exact ⟨u,true,rfl,(λ_=>rfl),λh=>by cases h⟩
def ju6 (f g:FuncId) (args:List A):Prop:=∃r:Option kR,G f args=Zu r/\G g args=Zu r/\ ∀x,r=some x->jV x=true
theorem Kx {f g:FuncId} {args:List A} (h1:G f args=some (.tup [cz,vb false],[])) (h2:G g args=some (.tup [cz,vb false],[])):ju6 f g args:=⟨none,h1,h2,λx h=>by cases h⟩
def Yn (c:kR) (i:Int):Bool:=qg 0 (((c.length:Nat):Int) - 1) i
theorem KB {c:kR} {i:Int} (h:Yn c i=true):∃k:Nat,i=(k:Int)/\k < c.length:=by
 unfold Yn qg at h;rw [ju,kG,kG] at h;exact ⟨i.toNat,by omega,by omega⟩
theorem zR (c:kR) (hl:c.length<=1000) (i:Int):G 188 [cm c,vi i]=some (vb (Yn c i),[]):=by
 have c1:ck (((c.length:Nat):Int) - 1)=some (vi (((c.length:Nat):Int) - 1)):=j8 (by omega) (by omega);have e:=qc i 0 (((c.length:Nat):Int) - 1);rw [jJe];simp only [je,c1,e];rfl
theorem LN.erase {c:kR} (h:CN c) (i:Nat):LN (c.eraseIdx i):=⟨by have:=jrI c i;have:=h.1;omega,λx hx=>by
 have:=h.2 x (List.mem_of_mem_eraseIdx hx);exact ⟨this.1,by omega⟩⟩
theorem LN.append {a b:kR} (ha:CN a) (hb:CN b) (i k:Nat):LN (a.eraseIdx i++b.eraseIdx k):=⟨by
 have:=jrI a i;have:=jrI b k;have:=ha.1;have:=hb.1;rw [yn];omega,λx hx=>by
 rcases zh.1 hx with hx|hx
 .exact (LN.erase ha i).2 x hx
 .exact (LN.erase hb k).2 x hx⟩
theorem QV (l:Lt):ku (.elt (jL l) 0)=some (vb l.1):=rfl
theorem Qn (l:Lt) (n:Nat):ye (.elt (jL l) 0) n=some (.elt (jL l) n):=by rw [qI,Jg]
theorem ldT (l:Lt):ke 2 (.elt (jL l) 1)=some (tm l.2):=rfl
theorem hRl (x:kR):hR 3 (A.top,[.sl 3 (x.map jL)]) 0=some (x.map jL):=rfl
theorem ju9 (d:kR) (n:Nat) (h:n < (jY d).length) (h':n < d.length):(jY d)[n].1=d[n].1:=by simp only [jY,jdj]
theorem jtb (c d:kR) (hc:jV c=true) (hd:jV d=true) (i k:Int):∃r:Option kR,G 164 [cm c,vi i,cm d,vi k]=Zu r/\G 159 [cm c,vi i,cm d,vi k]=Zu r/\ ∀x,r=some x->jV x=true:=by
 obtain ⟨cc,_,_,_⟩:=ky hc;obtain ⟨cd,_,_,_⟩:=ky hd;have lc:=cc.1;have ld:=cd.1;have ce:=jo0 hd;have le:=jfK d;have a1:=jkS d hd;have a2:=jfJ d hd;have p1:=zR c (by omega) i;have p2:=zR d (by omega) k;have c1:ck (((c.length:Nat):Int) - 1)=some (vi (((c.length:Nat):Int) - 1)):=j8 (by omega) (by omega);have c2:ck ((((jY d).length:Nat):Int) - 1)=some (vi ((((jY d).length:Nat):Int) - 1)):=j8 (by omega) (by omega);have q1:=yb i 0 (((c.length:Nat):Int) - 1);have q2:=yb k 0 ((((jY d).length:Nat):Int) - 1);have hi':qg 0 (((c.length:Nat):Int) - 1) i=Yn c i:=rfl;have hk':qg 0 ((((jY d).length:Nat):Int) - 1) k=Yn d k:=by rw [le];rfl
 rw [hi'] at q1;rw [hk'] at q2;rw [jIZ,jIW];cases hi:Yn c i<;>rw [hi] at p1 q1
 .exact ⟨none,by simp only [je,p1];rfl,by simp only [je,a2,c1,q1];rfl,λx h=>by cases h⟩
 cases hk:Yn d k<;>rw [hk] at p2 q2
 .exact ⟨none,by simp only [je,p1,p2];rfl,by simp only [je,a2,c1,q1,c2,q2];rfl,λx h=>by cases h⟩
 obtain ⟨m,rfl,hm⟩:=KB hi;obtain ⟨n,rfl,hn⟩:=KB hk;have hn2:n < (jY d).length:=by omega
 have sg:(jY d)[n].1=d[n].1:=ju9 d n hn2 hn;have x1:=jb (k:=3) (f:=jL) hm;have x2:=jb (k:=3) (f:=jL) hn;have x3:=jb (k:=3) (f:=jL) hn2;have hb1:=cc.2 _ (jr hm);have hb2:=ce.2 _ (jr hn2);have u1:=jfd c[m].2 (jY d)[n].2 (hb1.1.exx (by omega)) (hb2.1.exx (by omega));have u2:=jaO c[m].2 (jY d)[n].2 (hb1.1.exx (by omega)) (hb2.1.exx (by omega));have hval:∀s,Q0 c[m].2 (jY d)[n].2=some s->jN s=true:=λs hs=>Yx (hb1.1.exx (by omega)) (hb2.1.exx (by omega)) hs;by_cases hs:c[m].1=d[n].1
 .have hs2:c[m].1=(jY d)[n].1:=by rw [sg];exact hs
  exact ⟨none,by simp only [je,p1,p2,x1,x2,Qn,QV,hs];rfl,by simp only [je,a2,c1,q1,c2,q2,x1,x3,Qn,QV,hs2];rfl,λx h=>by cases h⟩
 have hs1:=kx hs;have hs2:decide (c[m].1=(jY d)[n].1)=false:=by rw [sg];exact hs1
 obtain ⟨u,b,hu,hut,huf⟩:=jcN (Q0 c[m].2 (jY d)[n].2);rw [hu] at u1 u2;cases b
 .exact ⟨none,by simp only [je,p1,p2,x1,x2,x3,Qn,QV,ldT,hs1,a1,u1];rfl,by simp only [je,a2,c1,q1,c2,q2,x1,x3,Qn,QV,ldT,hs2,u2];rfl,λx h=>by cases h⟩
 have hv:=hval u (hut rfl);have hln:=LN.append cc ce m n;have w1:=ZC c (by omega) m hm;have w2:=ZC (jY d) (by omega) n hn2;have w3:=KM c (by omega) m hm;have w4:=KM (jY d) (by omega) n hn2;have cat:=jk1 [c.eraseIdx m,(jY d).eraseIdx n] (by simp) (λx hx=>by
  simp only [j7,jbn,or_false] at hx;rcases hx with rfl|rfl
  .have:=(LN.erase cc m).1;omega
  .have:=(LN.erase ce n).1;omega)
 have hfl: [c.eraseIdx m,(jY d).eraseIdx n].flatten=c.eraseIdx m++(jY d).eraseIdx n:=by simp
 rw [hfl] at cat;have cat:jfs [[.sl 3 ((c.eraseIdx m).map jL)],[.sl 3 (((jY d).eraseIdx n).map jL)]]=some (.top,[.sl 3 ((c.eraseIdx m++(jY d).eraseIdx n).map jL)]):=cat;have e1:=ZR u hv _ hln;have e2:=KY u hv _ hln;have hf:jW ((c.eraseIdx m).length+((jY d).eraseIdx n).length) 48=true:=jam (by have:=(LN.erase cc m).1;have:=(LN.erase ce n).1;omega);have ha:kq ((c.eraseIdx m).map jL) (((jY d).eraseIdx n).map jL)=(c.eraseIdx m++(jY d).eraseIdx n).map jL:=by rw [zz];rfl
 refine ⟨J9 u (c.eraseIdx m++(jY d).eraseIdx n),?_,?_,λx hx=>ZX hx⟩
 .obtain ⟨c',b',hr⟩:=zP (J9 u (c.eraseIdx m++(jY d).eraseIdx n));rw [hr] at e1 ⊢;generalize c.eraseIdx m++(jY d).eraseIdx n=L at *;simp only [je,p1,p2,x1,x2,x3,Qn,QV,ldT,hs1,a1,u1,w1,w2,cat,hRl,e1]
 .obtain ⟨c',b',hr⟩:=zP (J9 u (c.eraseIdx m++(jY d).eraseIdx n));rw [hr] at e2 ⊢;generalize c.eraseIdx m++(jY d).eraseIdx n=L at *;simp only [je,a2,c1,q1,c2,q2,x1,x3,Qn,QV,ldT,hs2,u2,w3,w4,hRl,hf,ha,e2]
theorem jn7 (c d:kR) (lc:c.length<=1048576) (zc:∀l∈c,Tz l.2) (ld:d.length<=1048576) (zd:∀l∈d,Tz l.2) (i k:Int):ju6 136 128 [cm c,vi i,cm d,vi k]:=by
 have n1:=yr c lc zc;have n2:=yr d ld zd;have m1:=yY c lc zc;have m2:=yY d ld zd;cases hc:jV c<;>rw [hc] at n1 m1
 .exact Kx (by rw [jFc];simp only [je,n1]) (by rw [jFa];simp only [je,m1])
 cases hd:jV d<;>rw [hd] at n2 m2
 .exact Kx (by rw [jFc];simp only [je,n1,n2]) (by rw [jFa];simp only [je,m1,m2])
 obtain ⟨r,e1,e2,e3⟩:=jtb c d hc hd i k;obtain ⟨c',b',hr⟩:=zP r;refine ⟨r,?_,?_,e3⟩
 .rw [hr] at e1 ⊢;rw [jFc];simp only [je,n1,n2,e1]
 .rw [hr] at e2 ⊢;rw [jFa];simp only [je,m1,m2,e2]
theorem jvp (c:kR) (hc:jV c=true) (i k:Int) (ib: -9223372036854775808<=i/\i<=9223372036854775807):∃r:Option kR,G 165 [cm c,vi i,vi k]=Zu r/\G 160 [cm c,vi i,vi k]=Zu r/\ ∀x,r=some x->jV x=true:=by
 obtain ⟨cc,_,_,_⟩:=ky hc;have lc:=cc.1;have p1:=zR c (by omega) i;have p2:=zR c (by omega) k;have c1:ck (((c.length:Nat):Int) - 1)=some (vi (((c.length:Nat):Int) - 1)):=j8 (by omega) (by omega);have q1:=yb i 0 (((c.length:Nat):Int) - 1);have q2:=yb k (i+1) (((c.length:Nat):Int) - 1);have hi':qg 0 (((c.length:Nat):Int) - 1) i=Yn c i:=rfl;rw [hi'] at q1;rw [jI0,jIX];cases hi:Yn c i<;>rw [hi] at p1 q1
 .exact ⟨none,by simp only [je,p1];rfl,by simp only [je,c1,q1];rfl,λx h=>by cases h⟩
 obtain ⟨m,rfl,hm⟩:=KB hi;have cm1:ck ((m:Int)+1)=some (vi ((m:Int)+1)):=j8 (by omega) (by omega);have hk':qg ((m:Int)+1) (((c.length:Nat):Int) - 1) k=(Yn c k && !decide (k<=(m:Int))):=by
  unfold Yn qg;by_cases h1:k<=(m:Int)
  .rw [kx (show ¬(m:Int)+1<=k by omega),jR h1,jH,jdk,z8]
  .rw [jR (show (m:Int)+1<=k by omega),kx h1,jR (show (0:Int)<=k by omega),jkk,jaw]
 rw [hk'] at q2;cases hk:Yn c k<;>rw [hk] at p2 q2
 .rw [jH] at q2;exact ⟨none,by simp only [je,p1,p2];rfl,by simp only [je,c1,q1,cm1,q2];rfl,λx h=>by cases h⟩
 rw [jI] at q2;by_cases hik:k<=(m:Int)
 .rw [jR hik] at q2;exact ⟨none,by simp only [je,p1,p2,hik];rfl,by simp only [je,c1,q1,cm1,q2];rfl,λx h=>by cases h⟩
 have hik':=kx hik;rw [hik'] at q2;obtain ⟨n,rfl,hn⟩:=KB hk;have x1:=jb (k:=3) (f:=jL) hm;have x2:=jb (k:=3) (f:=jL) hn;have hb1:=cc.2 _ (jr hm);have hb2:=cc.2 _ (jr hn);have u1:=jfd c[m].2 c[n].2 (hb1.1.exx (by omega)) (hb2.1.exx (by omega));have u2:=jaO c[m].2 c[n].2 (hb1.1.exx (by omega)) (hb2.1.exx (by omega));by_cases hs:c[m].1=c[n].1;rotate_left
 .have hs1:=kx hs;exact ⟨none,by simp only [je,p1,p2,hik',x1,x2,Qn,QV,hs1];rfl,by simp only [je,c1,q1,cm1,q2,x1,x2,Qn,QV,hs1];rfl,λx h=>by cases h⟩
 have hs1:=jR hs;obtain ⟨u,b,hu,hut,huf⟩:=jcN (Q0 c[m].2 c[n].2);rw [hu] at u1 u2;cases b
 .exact ⟨none,by simp only [je,p1,p2,hik',x1,x2,Qn,QV,ldT,hs1,u1];rfl,by simp only [je,c1,q1,cm1,q2,x1,x2,Qn,QV,ldT,hs1,u2];rfl,λx h=>by cases h⟩
 have hv:=Yx (hb1.1.exx (by omega)) (hb2.1.exx (by omega)) (hut rfl);have hln:=LN.erase cc n;have w1:=ZC c (by omega) n hn;have w3:=KM c (by omega) n hn;have e1:=ZR u hv _ hln;have e2:=KY u hv _ hln;refine ⟨J9 u (c.eraseIdx n),?_,?_,λx hx=>ZX hx⟩
 .obtain ⟨c',b',hr⟩:=zP (J9 u (c.eraseIdx n));rw [hr] at e1 ⊢;simp only [je,p1,p2,hik',x1,x2,Qn,QV,ldT,hs1,u1,w1,e1]
 .obtain ⟨c',b',hr⟩:=zP (J9 u (c.eraseIdx n));rw [hr] at e2 ⊢;simp only [je,c1,q1,cm1,q2,x1,x2,Qn,QV,ldT,hs1,u2,w3,hRl,e2]
theorem jpp (c:kR) (lc:c.length<=1048576) (zc:∀l∈c,Tz l.2) (i k:Int) (ib: -9223372036854775808<=i/\i<=9223372036854775807):ju6 137 129 [cm c,vi i,vi k]:=by
 have n1:=yr c lc zc;have m1:=yY c lc zc;cases hc:jV c<;>rw [hc] at n1 m1
 .exact Kx (by rw [jGP];simp only [je,n1]) (by rw [jGM];simp only [je,m1])
 obtain ⟨r,e1,e2,e3⟩:=jvp c hc i k ib;obtain ⟨c',b',hr⟩:=zP r;refine ⟨r,?_,?_,e3⟩
 .rw [hr] at e1 ⊢;rw [jGP];simp only [je,n1,e1]
 .rw [hr] at e2 ⊢;rw [jGM];simp only [je,m1,e2]
theorem ldA (l:Lt):ku (.elt (jL l) 2)=some (jQ l.2.args):=rfl
theorem Q8 (l:Lt):ye (.elt (jL l) 1) 1=some (.elt (jL l) 2):=rfl
theorem jbX (l:Lt) (b:Bool):G 181 [ltm l,vb b]=some (vb (decide (l.1=b) && decide (l.2.name = [61])),[]):=by
 rw [jI9];by_cases h:l.1=b
 .rw [jR h,jI];simp only [je,h]
 .rw [kx h,jH];simp only [je,h]
theorem jpm {t:T} (hb:Bx t) (he:t.name = [61]) (hn:nodes t<=30):t.args.length=2/\yv (jab t)=true/\yv (jbx t)=true/\nodes (jab t)<=30/\nodes (jbx t)<=30/\jh 2 (jQ t.args) (vi 0)=some (.elt (jm (jab t)) 0)/\jh 2 (jQ t.args) (vi 1)=some (.elt (jm (jbx t)) 0):=by
 rcases hb with hb|hb
 rotate_left
 .rw [he] at hb;exact absurd hb.1 (by decide)
 obtain ⟨f1,f2,f3,f4⟩:=Zh hb.2.1;have g1:=qp f3;have g2:=qp f4;exact ⟨hb.2.1,hb.2.2 _ f3,hb.2.2 _ f4,by omega,by omega,f1,f2⟩
theorem jn1 (c:kR) (hc:jV c=true) (i:Int):∃r:Option kR,G 167 [cm c,vi i]=Zu r/\G 162 [cm c,vi i]=Zu r/\ ∀x,r=some x->jV x=true:=by
 obtain ⟨cc,_,_,_⟩:=ky hc;have lc:=cc.1;have p1:=zR c (by omega) i;have c1:ck (((c.length:Nat):Int) - 1)=some (vi (((c.length:Nat):Int) - 1)):=j8 (by omega) (by omega);have q1:=yb i 0 (((c.length:Nat):Int) - 1);have hi':qg 0 (((c.length:Nat):Int) - 1) i=Yn c i:=rfl;rw [hi'] at q1;rw [jI1,jIY];cases hi:Yn c i<;>rw [hi] at p1 q1
 .exact ⟨none,by simp only [je,p1];rfl,by simp only [je,c1,q1];rfl,λx h=>by cases h⟩
 obtain ⟨m,rfl,hm⟩:=KB hi;have x1:=jb (k:=3) (f:=jL) hm;have hb1:=cc.2 _ (jr hm);have e3:=yX c[m].2;have e4:=jbX c[m] false;generalize hl:c[m]=l at *;have e4:G 181 [ltm l,vb false]=_:=e4;cases hs:l.1<;>rw [hs] at e4
 rotate_left
 .exact ⟨none,by simp only [je,p1,x1,Qn,QV,hs];rfl,by simp only [je,c1,q1,x1,zj,hs,e4,jH];rfl,λx h=>by cases h⟩
 by_cases he:l.2.name = [61];rotate_left
 .rw [kx he] at e3 e4;exact ⟨none,by simp only [je,p1,x1,Qn,QV,ldT,hs,e3];rfl,by simp only [je,c1,q1,x1,zj,hs,e4,z8];rfl,λx h=>by cases h⟩
 rw [jR he] at e3 e4;obtain ⟨_,k0,k1,n0,n1,i0,i1⟩:=jpm hb1.1 he hb1.2;have u1:=jfd (jab l.2) (jbx l.2) ⟨Or.inl k0,by omega⟩ ⟨Or.inl k1,by omega⟩;have u2:=jaO (jab l.2) (jbx l.2) ⟨Or.inl k0,by omega⟩ ⟨Or.inl k1,by omega⟩;obtain ⟨u,b,hu,hut,huf⟩:=jcN (Q0 (jab l.2) (jbx l.2));rw [hu] at u1 u2;cases b
 .exact ⟨none,by simp only [je,p1,x1,Qn,Q8,ldA,QV,ldT,hs,e3,i0,i1,jf,u1];rfl,by simp only [je,c1,q1,x1,zj,hs,e4,jhb,Qn,Q8,ldA,i0,i1,jf,u2];rfl,λx h=>by cases h⟩
 have hv:=Yx ⟨Or.inl k0,by omega⟩ ⟨Or.inl k1,by omega⟩ (hut rfl);have hln:=LN.erase cc m;have w1:=ZC c (by omega) m hm;have w3:=KM c (by omega) m hm;have e1:=ZR u hv _ hln;have e2:=KY u hv _ hln;refine ⟨J9 u (c.eraseIdx m),?_,?_,λx hx=>ZX hx⟩
 .obtain ⟨c',b',hr⟩:=zP (J9 u (c.eraseIdx m));rw [hr] at e1 ⊢;simp only [je,p1,x1,Qn,Q8,ldA,QV,ldT,hs,e3,i0,i1,jf,u1,w1,e1]
 .obtain ⟨c',b',hr⟩:=zP (J9 u (c.eraseIdx m));rw [hr] at e2 ⊢;simp only [je,c1,q1,x1,zj,hs,e4,jhb,Qn,Q8,ldA,i0,i1,jf,u2,w3,hRl,e2]
theorem jjy (c:kR) (lc:c.length<=1048576) (zc:∀l∈c,Tz l.2) (i:Int):ju6 139 131 [cm c,vi i]:=by
 have n1:=yr c lc zc;have m1:=yY c lc zc;cases hc:jV c<;>rw [hc] at n1 m1
 .exact Kx (by rw [jGQ];simp only [je,n1]) (by rw [jGN];simp only [je,m1])
 obtain ⟨r,e1,e2,e3⟩:=jn1 c hc i;obtain ⟨c',b',hr⟩:=zP r;refine ⟨r,?_,?_,e3⟩
 .rw [hr] at e1 ⊢;rw [jGQ];simp only [je,n1,e1]
 .rw [hr] at e2 ⊢;rw [jGN];simp only [je,m1,e2]
theorem qb (n:Int):ku (.elt (ci n) 0)=some (vi n):=rfl
theorem jnn (n:Nat) (x:Int):qg 0 (((n:Nat):Int) - 1) x=decide (0<=x/\x < (n:Int)):=by
 unfold qg;rw [<-Bool.decide_and];exact jkm.2 ⟨λh=>⟨h.1,by omega⟩,λh=>⟨h.1,by omega⟩⟩
theorem jEx (t:T) (p:List Int) (ht:Tz t) (hl:p.length<=1048576):G 193 [tm t,ints p]=outT (atI p t):=by
 have key:=upto (P:=λi=>∀t:T,Tz t->jmA (ints p) (vi (p.length:Nat)) (vi (i:Nat)) (sv t.name) (jQ t.args) (sv []) []=outT (atI (p.drop i) t)) (n:=p.length) ?_ ?_ 0 (jE _) t ht
 .simp only [jP,kj] at key;rw [jJi];simp only [je,key]
 .intro t ht;rw [jyQ,j4,atI];simp only [je];rfl
 .intro i hi ih t ht;have hz:=ht;unfold Tz at hz;rw [kW] at hz;have hlt:(i:Int) < ((p.length:Nat):Int):=by omega
  have h5:=jq hi (by show p.length<=9223372036854775807;omega)
  have c1:ck (((t.args.length:Nat):Int) - 1)=some (vi (((t.args.length:Nat):Int) - 1)):=j8 (by omega) (by omega);have e1:=qc p[i] 0 (((t.args.length:Nat):Int) - 1);rw [jnn] at e1;have ix:=Kf hi;rw [jyQ,ji hi,atI];by_cases hc:0<=p[i]/\p[i] < (t.args.length:Int)
  .rw [jR hc] at e1;rw [jl hc];have hn:p[i].toNat < t.args.length:=by omega
   have ix2:=jb (k:=2) (f:=jm) hn;rw [show ((p[i].toNat:Nat):Int)=p[i] by omega] at ix2;rw [qu hn];have:=ih t.args[p[i].toNat] (ht.args _ (jr hn));simp only [je,hlt,ix,qb,c1,e1,ix2,jf,h5,this]
  .rw [kx hc] at e1;rw [jo hc];simp only [je,hlt,ix,qb,c1,e1];rfl
theorem jEy (t:T) (p:List Int) (ht:Tz t) (hl:p.length<=1048576):G 182 [tm t,ints p]=outT (atI p t):=by
 have key:=upto (P:=λi=>∀t:T,Tz t->jhZ (ints p) (vi (i:Nat)) (sv t.name) (jQ t.args) (sv []) []=outT (atI (p.drop i) t)) (n:=p.length) ?_ ?_ 0 (jE _) t ht
 .simp only [jP,kj] at key;rw [jGS];simp only [je,key]
 .intro t ht;have e1:=jcc t ht;rw [jnw,j4,atI];simp only [je,e1];rfl
 .intro i hi ih t ht;have hz:=ht;unfold Tz at hz;rw [kW] at hz;have hlt:(i:Int) < ((p.length:Nat):Int):=by omega
  have h5:=jq hi (by show p.length<=9223372036854775807;omega)
  have c1:ck (((t.args.length:Nat):Int) - 1)=some (vi (((t.args.length:Nat):Int) - 1)):=j8 (by omega) (by omega);have e1:=yb p[i] 0 (((t.args.length:Nat):Int) - 1);rw [jnn] at e1;have ix:=Kf hi;rw [jnw,ji hi,atI];by_cases hc:0<=p[i]/\p[i] < (t.args.length:Int)
  .rw [jR hc] at e1;rw [jl hc];have hn:p[i].toNat < t.args.length:=by omega
   have ix2:=jb (k:=2) (f:=jm) hn;rw [show ((p[i].toNat:Nat):Int)=p[i] by omega] at ix2;rw [qu hn];have:=ih t.args[p[i].toNat] (ht.args _ (jr hn));simp only [je,hlt,ix,qb,c1,e1,ix2,jf,h5,this]
  .rw [kx hc] at e1;rw [jo hc];simp only [je,hlt,ix,qb,c1,e1];rfl
theorem jye (q:List Nat):ints (q.map λn:Nat=>(n:Int))=pln q:=by
 show A.sl 1 ((q.map _).map ci)=_;rw [Jf];rfl
theorem jpg (t:T) (ht:Tz t):jft (sv t.name) (jQ t.args)=some (.top,[sv t.name,jQ t.args]):=by
 have hz:=ht;unfold Tz at hz;rw [kW] at hz;have e1:=jaG t.args (by omega) λu hu=>Jy u (ht.args u hu);have r1:hR 2 (A.top,[jQ t.args]) 0=some (t.args.map jm):=rfl;rw [jxs];simp only [je,e1,r1]
theorem jg2 (s:T) (hs:Tz s):∀(p:List Nat) (t:T),Tz t->okP p t->p.length<=2000000->G 196 [tm t,pln p,tm s]=some (tm (zt s p t),[])
 | [],t,_,_,_=>by
  have e1:=jpg s hs;have hz:(((0:Nat):Int)=0)=True:=by simp
  rw [jGU,zt];simp only [je,hz,e1,ya,qk]
 | i::p,t,ht,hp,hl=>by
  obtain ⟨h1,h2⟩:=hp;have e:t.args.getD i (.mk [] [])=t.args[i]:=qu h1;rw [e] at h2;have e1:=jpg t ht;have e2:=jg2 s hs p t.args[i] (ht.args _ (jr h1)) h2 (by rw [zM] at hl;omega);have hz:¬((p.length+1:Nat):Int)=0:=by omega
  have i0:jh 1 (pln (i::p)) (vi 0)=some (.elt [vi (i:Nat)] 0):=YX (p:=i::p) (i:=0) (by simp);have sl:zZ 1 (pln (i::p)) (some (vi 1)) none=some (pln p):=by
   have:=yZ (k:=1) (xs:=(i::p).map λn:Nat=>[vi (n:Nat)]) (i:=1) (by simp);exact this
  have ix:Q4 t.args.length (vi (i:Nat))=some i:=yj h1;have rg:jga (t.args.map jm) i=some (jm t.args[i]):=by unfold jga;simp [h1]
  have co:KR (jm t.args[i]) 0 [sv (zt s p t.args[i]).name,jQ (zt s p t.args[i]).args]=jm (zt s p t.args[i]):=by rw [zq,zq];rfl
  have rs:K9 (t.args.map jm) i (jm (zt s p t.args[i]))=(t.args.set i (zt s p t.args[i])).map jm:=by unfold K9;rw [List.map_set]
  have ll:(zg (pln (i::p)))=some (vi ((p.length+1:Nat):Int)):=by rw [jqK];simp only [je]
  rw [jGU,zt,e];simp only [je,ll,hz,e1,i0,jb h1,jf,sl,e2,ix,rg,co,rs,qk];rfl
theorem jdL {t:T} (hk:yv t=true) (hn:nodes t<=30):Tz t/\Exx t:=⟨KO.tz (Or.inl hk) (by omega),Or.inl hk,by omega⟩
theorem jcZ {s:js} (hs:jN s=true) {t:T} (hk:yv t=true):kY (sub s t)=jD (sub s t):=by
 unfold kY;rw [ja7 (ZB hs) t hk,jaw]
theorem jcs (c d:kR) (cc:CN c) (hd:jV d=true) (m n:Nat) (hm:m < c.length) (hn:n < d.length) (hs:c[m].1=true) (he:c[m].2.name = [61]) (l r:T) (side:Int) (hside:qg 0 1 side=true) (sl:jh 2 (jQ c[m].2.args) (vi side)=some (.elt (jm l) 0)) (sr:jh 2 (jQ c[m].2.args) (vi (1 - side))=some (.elt (jm r) 0)) (kl:yv l=true) (kr:yv r=true) (nl:nodes l<=30) (nr:nodes r<=30) (p:List Int) (hpl:p.length<=1048576) (hp:p≠ []) :
  ∃o:Option kR,G 166 [cm c,vi (m:Nat),vi side,cm d,vi (n:Nat),ints p]=Zu o/\G 161 [cm c,vi (m:Nat),vi side,cm d,vi (n:Nat),ints p]=Zu o/\ ∀x,o=some x->jV x=true:=by
 obtain ⟨cd,_,_,_⟩:=ky hd;have lc:=cc.1;have ld:=cd.1;have ce:=jo0 hd;have le:=jfK d;have a1:=jkS d hd;have a2:=jfJ d hd;have p1:=zR c (by omega) (m:Nat);have p2:=zR d (by omega) (n:Nat);have hi:Yn c (m:Nat)=true:=by unfold Yn;rw [jnn];exact jR ⟨by omega,by omega⟩
 have hk:Yn d (n:Nat)=true:=by unfold Yn;rw [jnn];exact jR ⟨by omega,by omega⟩
 have c1:ck (((c.length:Nat):Int) - 1)=some (vi (((c.length:Nat):Int) - 1)):=j8 (by omega) (by omega);have c2:ck ((((jY d).length:Nat):Int) - 1)=some (vi ((((jY d).length:Nat):Int) - 1)):=j8 (by omega) (by omega);have q1:=yb (m:Nat) 0 (((c.length:Nat):Int) - 1);have q2:=yb (n:Nat) 0 ((((jY d).length:Nat):Int) - 1);have q3:=yb side 0 1;have p3:=qc side 0 1;have hi':qg 0 (((c.length:Nat):Int) - 1) (m:Nat)=true:=hi;have hk':qg 0 ((((jY d).length:Nat):Int) - 1) (n:Nat)=true:=by rw [le];exact hk
 rw [hi'] at q1;rw [hk'] at q2;rw [hside] at q3 p3;rw [hi] at p1;rw [hk] at p2;have hn2:n < (jY d).length:=by omega
 have x1:=jb (k:=3) (f:=jL) hm;have x3:=jb (k:=3) (f:=jL) hn2;have hb2:=ce.2 _ (jr hn2);have e3:=yX c[m].2;have e4:=jbX c[m] true;rw [hs,he,jR rfl,jR rfl,jhb] at e4;rw [jR he] at e3;have e4:G 181 [.agg [vb c[m].1,sv c[m].2.name,jQ c[m].2.args],vb true]=some (vb true,[]):=e4;have hp0:¬((p.length:Nat):Int)=0:=by
  cases p with
  | nil=>exact (hp rfl).elim
  | cons _ _=>simp only [zM];omega
 have cs:ck (1 - side)=some (vi (1 - side)):=by
  unfold qg at hside;rw [ju,kG,kG] at hside;exact j8 (by omega) (by omega)
 generalize hL:c[m]=L at *;generalize hE:(jY d)[n]=E at *;have tE:=hb2.1.tz (by omega);have t1:=jEx E.2 p tE hpl;have t2:=jEy E.2 p tE hpl;rw [jpt,jsx];cases hat:atI p E.2 with
 | none=>
  rw [hat] at t1 t2;have t1:G 193 [tm E.2,ints p]=some (.tup [.agg [sv [],.sl 2 []],vb false],[]):=t1;have t2:G 182 [tm E.2,ints p]=some (.tup [.agg [sv [],.sl 2 []],vb false],[]):=t2;refine ⟨none,?_,?_,λx h=>by cases h⟩
  .simp only [je,p1,p2,p3,x1,x3,Qn,Q8,ldA,QV,ldT,hs,e3,hp0,sl,sr,cs,jf,a1,t1];rfl
  .simp only [je,a2,c1,q1,c2,q2,q3,x1,x3,zj,e4,hp0,Qn,Q8,ldA,QV,ldT,sl,sr,cs,jf,t2];rfl
 | some w=>
  rw [hat] at t1 t2;have t1:G 193 [tm E.2,ints p]=some (.tup [tm w,vb true],[]):=t1;have t2:G 182 [tm E.2,ints p]=some (.tup [tm w,vb true],[]):=t2;obtain ⟨q,hpe,hq,hw⟩:=jxp hat;have hqne:q≠ []:=λh=>hp (by rw [hpe,h];rfl);have hql:q.length<=2000000:=by rw [hpe,jK] at hpl;omega
  obtain ⟨kw,nw⟩:=jzN hqne hq hb2.1.args;rw [<-hw] at kw nw;obtain ⟨tzw,exw⟩:=jdL kw (by omega);obtain ⟨tzl,exl⟩:=jdL kl nl;obtain ⟨tzr,exr⟩:=jdL kr nr;have v1:=yJ w (Or.inl kw);have v2:=zE w.name ((kH w).1 tzw.wf).1;cases hv:jp w.name<;>rw [hv] at v1 v2
  rotate_left
  .refine ⟨none,?_,?_,λx h=>by cases h⟩
   .simp only [je,p1,p2,p3,x1,x3,Qn,Q8,ldA,QV,ldT,hs,e3,hp0,sl,sr,cs,jf,a1,t1,v1];rfl
   .simp only [je,a2,c1,q1,c2,q2,q3,x1,x3,zj,e4,hp0,Qn,Q8,ldA,QV,ldT,sl,sr,cs,jf,t2,v2];rfl
  have u1:=jfd l w exl exw;have u2:=jaO l w exl exw;obtain ⟨u,b,hu,hut,huf⟩:=jcN (Q0 l w);rw [hu] at u1 u2;cases b
  .refine ⟨none,?_,?_,λx h=>by cases h⟩
   .simp only [je,p1,p2,p3,x1,x3,Qn,Q8,ldA,QV,ldT,hs,e3,hp0,sl,sr,cs,jf,a1,t1,v1,u1];rfl
   .simp only [je,a2,c1,q1,c2,q2,q3,x1,x3,zj,e4,hp0,Qn,Q8,ldA,QV,ldT,sl,sr,cs,jf,t2,v2,u2];rfl
  have hval:=Yx exl exw (hut rfl);have b1:=yF u hval l (Or.inl kl) (by omega);have b2:=yF u hval r (Or.inl kr) (by omega);have b3:=Zo u (yM hval).sz l tzl;have b4:=Zo u (yM hval).sz r tzr;have tsl:=KO.sub_tz hval (Or.inl kl) (by omega);have tsr:=KO.sub_tz hval (Or.inl kr) (by omega);have b5:=Zn (sub u l) tsl.wf tsl;have b6:=Zn (sub u r) tsr.wf tsr;rw [jcZ hval kl] at b5;rw [jcZ hval kr] at b6;cases s1:jD (sub u l)<;>rw [s1] at b1 b5
  .have b1:G 194 [sb u,tm l]=some (.tup [.agg [sv [],.sl 2 []],vb false],[]):=b1;obtain ⟨z,hz⟩:∃z:T × Bool,G 194 [sb u,tm r]=some (.tup [tm z.1,vb z.2],[]):=by
    cases h:jD (sub u r)<;>rw [h] at b2
    .exact ⟨(.mk [] [],false),b2⟩
    .exact ⟨(sub u r,true),b2⟩
   refine ⟨none,?_,?_,λx h=>by cases h⟩
   .simp only [je,p1,p2,p3,x1,x3,Qn,Q8,ldA,QV,ldT,hs,e3,hp0,sl,sr,cs,jf,a1,t1,v1,u1,b1,hz];rfl
   .simp only [je,a2,c1,q1,c2,q2,q3,x1,x3,zj,e4,hp0,Qn,Q8,ldA,QV,ldT,sl,sr,cs,jf,t2,v2,u2,b3,b4,b5];rfl
  have b1:G 194 [sb u,tm l]=some (.tup [tm (sub u l),vb true],[]):=b1;cases s2:jD (sub u r)<;>rw [s2] at b2 b6
  .have b2:G 194 [sb u,tm r]=some (.tup [.agg [sv [],.sl 2 []],vb false],[]):=b2;refine ⟨none,?_,?_,λx h=>by cases h⟩
   .simp only [je,p1,p2,p3,x1,x3,Qn,Q8,ldA,QV,ldT,hs,e3,hp0,sl,sr,cs,jf,a1,t1,v1,u1,b1,b2];rfl
   .simp only [je,a2,c1,q1,c2,q2,q3,x1,x3,zj,e4,hp0,Qn,Q8,ldA,QV,ldT,sl,sr,cs,jf,t2,v2,u2,b3,b4,b5,b6];rfl
  have b2:G 194 [sb u,tm r]=some (.tup [tm (sub u r),vb true],[]):=b2;obtain ⟨o,o1,o2,_⟩:=jqy (sub u l) (sub u r) tsl.wf tsr.wf tsl tsr (by rw [jcZ hval kl];exact s1) (by rw [jcZ hval kr];exact s2);by_cases h1:o=1
  .refine ⟨none,?_,?_,λx h=>by cases h⟩
   .simp only [je,p1,p2,p3,x1,x3,Qn,Q8,ldA,QV,ldT,hs,e3,hp0,sl,sr,cs,jf,a1,t1,v1,u1,b1,b2,o2,h1];rfl
   .simp only [je,a2,c1,q1,c2,q2,q3,x1,x3,zj,e4,hp0,Qn,Q8,ldA,QV,ldT,sl,sr,cs,jf,t2,v2,u2,b3,b4,b5,b6,o1,h1];rfl
  by_cases h3:o=3
  .refine ⟨none,?_,?_,λx h=>by cases h⟩
   .have h13:¬(3:Int)=1:=by decide
    simp only [je,p1,p2,p3,x1,x3,Qn,Q8,ldA,QV,ldT,hs,e3,hp0,sl,sr,cs,jf,a1,t1,v1,u1,b1,b2,o2,h3,h13];rfl
   .have h13:¬(3:Int)=1:=by decide
    simp only [je,a2,c1,q1,c2,q2,q3,x1,x3,zj,e4,hp0,Qn,Q8,ldA,QV,ldT,sl,sr,cs,jf,t2,v2,u2,b3,b4,b5,b6,o1,h3,h13];rfl
  have hint:=jye q;have rp1:=jg2 r tzr q E.2 tE hq hql;have rp2:=joo r tzr q E.2 tE hq hql;rw [<-hint,<-hpe] at rp1 rp2;have hbw:=jDb kr hqne hq hb2.1;have hnw:=jj5 r q E.2 hq;have hlnA:=LN.append cc ce m n;have hlen8:(c.eraseIdx m).length<=8/\((jY d).eraseIdx n).length<=8:=⟨by have:=jrI c m;omega,by have:=jrI (jY d) n;have:=ce.1;omega⟩;have hln:LN (c.eraseIdx m++(jY d).eraseIdx n++[(E.1,zt r q E.2)]):=⟨by
   rw [yn,yn];simp only [zM,qO];omega,λx hx=>by
   rcases zh.1 hx with hx|hx
   .exact hlnA.2 x hx
   .rw [zi.1 hx];exact ⟨hbw,by show nodes (zt r q E.2)<=100;omega⟩⟩
  have w1:=ZC c (by omega) m hm;have w2:=ZC (jY d) (by omega) n hn2;have w3:=KM c (by omega) m hm;have w4:=KM (jY d) (by omega) n hn2;have cat:=jk1 [c.eraseIdx m,(jY d).eraseIdx n,[(E.1,zt r q E.2)]] (by simp) (λx hx=>by
   simp only [j7,jbn,or_false] at hx;rcases hx with rfl|rfl|rfl
   .omega
   .omega
   .simp)
  have hfl: [c.eraseIdx m,(jY d).eraseIdx n,[(E.1,zt r q E.2)]].flatten=c.eraseIdx m++(jY d).eraseIdx n++[(E.1,zt r q E.2)]:=by simp
  rw [hfl] at cat;have cat:jfs [[.sl 3 ((c.eraseIdx m).map jL)],[.sl 3 (((jY d).eraseIdx n).map jL)],[.sl 3 [[vb E.1,sv (zt r q E.2).name,jQ (zt r q E.2).args]]]]=some (.top,[.sl 3 ((c.eraseIdx m++(jY d).eraseIdx n++[(E.1,zt r q E.2)]).map jL)]):=cat;have g1:=ZR u hval _ hln;have g2:=KY u hval _ hln;have hf:jW ((c.eraseIdx m).length+((jY d).eraseIdx n).length) 48=true:=jam (by omega);have ha:kq ((c.eraseIdx m).map jL) (((jY d).eraseIdx n).map jL)=(c.eraseIdx m++(jY d).eraseIdx n).map jL:=by rw [zz];rfl
  have hf2:jW ((c.eraseIdx m++(jY d).eraseIdx n).length+1) 48=true:=jam (by rw [yn];omega)
  have ha2:kq ((c.eraseIdx m++(jY d).eraseIdx n).map jL) [[vb E.1,sv (zt r q E.2).name,jQ (zt r q E.2).args]]=(c.eraseIdx m++(jY d).eraseIdx n++[(E.1,zt r q E.2)]).map jL:=by rw [zz (l₁:=c.eraseIdx m++(jY d).eraseIdx n)];rfl
  refine ⟨J9 u (c.eraseIdx m++(jY d).eraseIdx n++[(E.1,zt r q E.2)]),?_,?_,λx hx=>ZX hx⟩
  .obtain ⟨c',b',hr⟩:=zP (J9 u (c.eraseIdx m++(jY d).eraseIdx n++[(E.1,zt r q E.2)]));rw [hr] at g1 ⊢;generalize c.eraseIdx m++(jY d).eraseIdx n++[(E.1,zt r q E.2)]=Z at *;simp only [je,p1,p2,p3,x1,x3,Qn,Q8,ldA,QV,ldT,hs,e3,hp0,sl,sr,cs,jf,a1,t1,v1,u1,b1,b2,o2,h1,h3,rp1];generalize hB:zY _ _ _=B;have hB':B=some (ltm (E.1,zt r q E.2)):=by rw [<-hB];kernel_rfl
   rw [hB'];simp only [je,w1,w2,cat,hRl,g1]
  .obtain ⟨c',b',hr⟩:=zP (J9 u (c.eraseIdx m++(jY d).eraseIdx n++[(E.1,zt r q E.2)]));rw [hr] at g2 ⊢;generalize c.eraseIdx m++(jY d).eraseIdx n++[(E.1,zt r q E.2)]=Z at *;simp only [je,a2,c1,q1,c2,q2,q3,x1,x3,zj,e4,hp0,Qn,Q8,ldA,QV,ldT,sl,sr,cs,jf,t2,v2,u2,b3,b4,b5,b6,o1,h1,h3,w3,w4,hRl,hf,ha,rp2];generalize hB:zY _ _ _=B;have hB':B=some (ltm (E.1,zt r q E.2)):=by rw [<-hB];kernel_rfl
   rw [hB'];simp only [je,hf2,ha2,g2]
theorem joh (c d:kR) (hc:jV c=true) (hd:jV d=true) (i side k:Int) (p:List Int) (hpl:p.length<=1048576):∃o:Option kR,G 166 [cm c,vi i,vi side,cm d,vi k,ints p]=Zu o/\G 161 [cm c,vi i,vi side,cm d,vi k,ints p]=Zu o/\ ∀x,o=some x->jV x=true:=by
 obtain ⟨cc,_,_,_⟩:=ky hc;obtain ⟨cd,_,_,_⟩:=ky hd;have lc:=cc.1;have ld:=cd.1;have le:=jfK d;have a2:=jfJ d hd;have p1:=zR c (by omega) i;have p2:=zR d (by omega) k;have c1:ck (((c.length:Nat):Int) - 1)=some (vi (((c.length:Nat):Int) - 1)):=j8 (by omega) (by omega);have c2:ck ((((jY d).length:Nat):Int) - 1)=some (vi ((((jY d).length:Nat):Int) - 1)):=j8 (by omega) (by omega);have q1:=yb i 0 (((c.length:Nat):Int) - 1);have q2:=yb k 0 ((((jY d).length:Nat):Int) - 1);have q3:=yb side 0 1;have p3:=qc side 0 1;have hi':qg 0 (((c.length:Nat):Int) - 1) i=Yn c i:=rfl;have hk':qg 0 ((((jY d).length:Nat):Int) - 1) k=Yn d k:=by rw [le];rfl
 rw [hi'] at q1;rw [hk'] at q2;cases hi:Yn c i<;>rw [hi] at p1 q1
 .exact ⟨none,by rw [jpt];simp only [je,p1];rfl,by rw [jsx];simp only [je,a2,c1,q1];rfl,λx h=>by cases h⟩
 cases hk:Yn d k<;>rw [hk] at p2 q2
 .exact ⟨none,by rw [jpt];simp only [je,p1,p2];rfl,by rw [jsx];simp only [je,a2,c1,q1,c2,q2];rfl,λx h=>by cases h⟩
 cases hs:qg 0 1 side<;>rw [hs] at p3 q3
 .exact ⟨none,by rw [jpt];simp only [je,p1,p2,p3];rfl,by rw [jsx];simp only [je,a2,c1,q1,c2,q2,q3];rfl,λx h=>by cases h⟩
 obtain ⟨m,rfl,hm⟩:=KB hi;obtain ⟨n,rfl,hn⟩:=KB hk;have x1:=jb (k:=3) (f:=jL) hm;have hb1:=cc.2 _ (jr hm);have e3:=yX c[m].2;have e4:=jbX c[m] true;have e4:G 181 [.agg [vb c[m].1,sv c[m].2.name,jQ c[m].2.args],vb true]=_:=e4;by_cases hp:c[m].1=true;rotate_left
 .have hp0:c[m].1=false:=by cases h:c[m].1 with|false=>rfl|true=>exact (hp h).elim
  rw [kx hp,jH] at e4;refine ⟨none,?_,?_,λx h=>by cases h⟩
  .rw [jpt];simp only [je,p1,p2,p3,x1,Qn,QV,hp0];rfl
  .rw [jsx];simp only [je,a2,c1,q1,c2,q2,q3,x1,zj,e4];rfl
 rw [jR hp,jI] at e4;by_cases he:c[m].2.name = [61];rotate_left
 .rw [kx he] at e3 e4;refine ⟨none,?_,?_,λx h=>by cases h⟩
  .rw [jpt];simp only [je,p1,p2,p3,x1,Qn,QV,ldT,hp,e3];rfl
  .rw [jsx];simp only [je,a2,c1,q1,c2,q2,q3,x1,zj,e4];rfl
 by_cases hne:p = []
 .have e3':=e3;rw [jR he] at e3' e4;subst hne;have hl:zg (ints [])=some (vi 0):=rfl;refine ⟨none,?_,?_,λx h=>by cases h⟩
  .rw [jpt];simp only [je,p1,p2,p3,x1,Qn,QV,ldT,hp,e3',hl];rfl
  .rw [jsx];simp only [je,a2,c1,q1,c2,q2,q3,x1,zj,e4,hl];rfl
 obtain ⟨_,k0,k1,n0,n1,i0,i1⟩:=jpm hb1.1 he hb1.2;have hside:side=0\/side=1:=by
  unfold qg at hs;rw [ju,kG,kG] at hs;omega
 rcases hside with rfl|rfl
 .exact jcs c d cc hd m n hm hn hp he (jab c[m].2) (jbx c[m].2) 0 hs i0 i1 k0 k1 n0 n1 p hpl hne
 .exact jcs c d cc hd m n hm hn hp he (jbx c[m].2) (jab c[m].2) 1 hs i1 i0 k1 k0 n1 n0 p hpl hne
theorem jjX (c d:kR) (lc:c.length<=1048576) (zc:∀l∈c,Tz l.2) (ld:d.length<=1048576) (zd:∀l∈d,Tz l.2) (i side k:Int) (p:List Int) (hpl:p.length<=1048576):ju6 138 130 [cm c,vi i,vi side,cm d,vi k,ints p]:=by
 have n1:=yr c lc zc;have n2:=yr d ld zd;have m1:=yY c lc zc;have m2:=yY d ld zd;cases hc:jV c<;>rw [hc] at n1 m1
 .exact Kx (by rw [jB2];simp only [je,n1]) (by rw [jFb];simp only [je,m1])
 cases hd:jV d<;>rw [hd] at n2 m2
 .exact Kx (by rw [jB2];simp only [je,n1,n2]) (by rw [jFb];simp only [je,m1,m2])
 obtain ⟨r,e1,e2,e3⟩:=joh c d hc hd i side k p hpl;obtain ⟨c',b',hr⟩:=zP r;refine ⟨r,?_,?_,e3⟩
 .rw [hr] at e1 ⊢;rw [jB2];simp only [je,n1,n2,e1]
 .rw [hr] at e2 ⊢;rw [jFb];simp only [je,m1,m2,e2]
noncomputable def rwL (rs:List T):kR->Option kR
 | []=>some []
 | x::r=>(match rwN rs false 51 0 x.2 with
  | none=>none
  | some q=>(rwL rs r).map ((x.1,q.1)::·))
theorem jrb {rs:List T} {c:kR} {i:Nat} (h:i < c.length):rwL rs (c.drop i)=(match rwN rs false 51 0 c[i].2 with|none=>none|some q=>(rwL rs (c.drop (i+1))).map ((c[i].1,q.1)::·)):=by
 rw [ji h];rfl
noncomputable def jhh (rs:List T) (R:kR) (l:kR):Option kR:=(rwL rs l).bind λr=>J9 [] (R++r)
theorem jq2 (c:kR) (hc:jV c=true) (rs:List T) (hr:RS rs):∃r:Option kR,jhV (jQ rs) (.sl 3 (c.map jL)) (vi (c.length:Nat)) (vi 0) [] []=Zu r/\G 187 [cm c,jQ rs]=Zu r/\ ∀x,r=some x->jV x=true:=by
 obtain ⟨cc,_,_,_⟩:=ky hc;have lc:=cc.1;have zb:sb [] = .agg [.sl 3 []]:=rfl;have ld:∀l:Lt,ku (.elt (jL l) 0)=some (vb l.1):=λl=>rfl;have kI:=upto (P:=λi=>∀R:kR,R.length<=i->(∀x∈R,Bx x.2/\nodes x.2<=100)->jhV (jQ rs) (.sl 3 (c.map jL)) (vi (c.length:Nat)) (vi (i:Nat)) (R.map jL) []=Zu (jhh rs R (c.drop i))) (n:=c.length) ?_ ?_ 0 (jE _) [] (jE _) (λx h=>by cases h);rotate_left
 .intro R hR hx;have e:=ZR [] jgj R ⟨by omega,hx⟩;have hend:jhh rs R (c.drop c.length)=J9 [] R:=by
   rw [j4];show J9 [] (R++[])=_;rw [y8]
  rw [hend];obtain ⟨c',b',hr'⟩:=zP (J9 [] R);rw [hr'] at e ⊢;have e:G 170 [.agg [.sl 3 []],.sl 3 (R.map jL)]=_:=e;rw [jyw];simp only [je,e]
 .intro i hi ih R hR hx;have hlt:(i:Int) < ((c.length:Nat):Int):=by omega
  have hck:ck ((i:Int)+1)=some (vi ((i+1:Nat):Int)):=j8 (by omega) (by omega);have hb:=cc.2 _ (jr hi);have e1:=jAl rs hr c[i].2 (hb.1.exB hb.2);have hf:jW (R.length+1) 48=true:=jam (by omega);rw [jyw];unfold jhh;rw [jrb hi];cases hq:rwN rs false 51 0 c[i].2 with
  | none=>
   rw [hq] at e1;have e1:G 169 [tm c[i].2,jQ rs,vb false]=some (.tup [.agg [sv [],.sl 2 []],vi 0,vb false],[]):=e1;simp only [je,hlt,jb hi,zj,e1];rfl
  | some q=>
   rw [hq] at e1;have e1:G 169 [tm c[i].2,jQ rs,vb false]=some (.tup [tm q.1,vi (q.2:Nat),vb true],[]):=e1;obtain ⟨bq,nq⟩:=jge hr 51 0 (hb.1.exB hb.2) hq;have:=ih (R++[(c[i].1,q.1)]) (by rw [yn];simp only [zM,qO];omega) (λx h=>by
    rcases zh.1 h with h|h
    .exact hx x h
    .rw [zi.1 h];exact ⟨bq,by show nodes q.1<=100;omega⟩)
   have ha:kq (R.map jL) [[vb c[i].1,sv q.1.name,jQ q.1.args]]=(R++[(c[i].1,q.1)]).map jL:=by rw [zz];rfl
   have hend:((rwL rs (c.drop (i+1))).map ((c[i].1,q.1)::·)).bind (λr=>J9 [] (R++r))=jhh rs (R++[(c[i].1,q.1)]) (c.drop (i+1)):=by
    unfold jhh;cases rwL rs (c.drop (i+1)) with
    | none=>rfl
    | some r=>show J9 [] (R++(c[i].1,q.1)::r)=J9 [] (R++[(c[i].1,q.1)]++r);rw [zH];rfl
   show _=Zu (((rwL rs (c.drop (i+1))).map ((c[i].1,q.1)::·)).bind (λr=>J9 [] (R++r)));rw [hend,<-this];simp only [je,hlt,jb hi,zj,e1,hf,ha,hck]
 have kS:=upto (P:=λi=>∀R:kR,R.length<=i->(∀x∈R,Bx x.2/\nodes x.2<=100)->jmw (jQ rs) (vi (i:Nat)) (.sl 3 (c.map jL)) (R.map jL) []=Zu (jhh rs R (c.drop i))) (n:=c.length) ?_ ?_ 0 (jE _) [] (jE _) (λx h=>by cases h);rotate_left
 .intro R hR hx;have e:=KY [] jgj R ⟨by omega,hx⟩;have hend:jhh rs R (c.drop c.length)=J9 [] R:=by
   rw [j4];show J9 [] (R++[])=_;rw [y8]
  rw [hend];obtain ⟨c',b',hr'⟩:=zP (J9 [] R);rw [hr'] at e ⊢;have e:G 179 [.agg [.sl 3 []],.sl 3 (R.map jL)]=_:=e;rw [jyJ];simp only [je,e]
 .intro i hi ih R hR hx;have hlt:(i:Int) < ((c.length:Nat):Int):=by omega
  have hck:ck ((i:Int)+1)=some (vi ((i+1:Nat):Int)):=j8 (by omega) (by omega);have hb:=cc.2 _ (jr hi);have e1:=jAm rs hr c[i].2 (hb.1.exB hb.2);have hf:jW (R.length+1) 48=true:=jam (by omega);rw [jyJ];unfold jhh;rw [jrb hi];cases hq:rwN rs false 51 0 c[i].2 with
  | none=>
   rw [hq] at e1;have e1:G 215 [tm c[i].2,jQ rs,vb false]=some (.tup [.agg [sv [],.sl 2 []],vi 0,vb false],[]):=e1;simp only [je,hlt,jb hi,Qn,ldT,e1];rfl
  | some q=>
   rw [hq] at e1;have e1:G 215 [tm c[i].2,jQ rs,vb false]=some (.tup [tm q.1,vi (q.2:Nat),vb true],[]):=e1;obtain ⟨bq,nq⟩:=jge hr 51 0 (hb.1.exB hb.2) hq;have:=ih (R++[(c[i].1,q.1)]) (by rw [yn];simp only [zM,qO];omega) (λx h=>by
    rcases zh.1 h with h|h
    .exact hx x h
    .rw [zi.1 h];exact ⟨bq,by show nodes q.1<=100;omega⟩)
   have ha:kq (R.map jL) [[vb c[i].1,sv q.1.name,jQ q.1.args]]=(R++[(c[i].1,q.1)]).map jL:=by rw [zz];rfl
   have hend:((rwL rs (c.drop (i+1))).map ((c[i].1,q.1)::·)).bind (λr=>J9 [] (R++r))=jhh rs (R++[(c[i].1,q.1)]) (c.drop (i+1)):=by
    unfold jhh;cases rwL rs (c.drop (i+1)) with
    | none=>rfl
    | some r=>show J9 [] (R++(c[i].1,q.1)::r)=J9 [] (R++[(c[i].1,q.1)]++r);rw [zH];rfl
   show _=Zu (((rwL rs (c.drop (i+1))).map ((c[i].1,q.1)::·)).bind (λr=>J9 [] (R++r)));rw [hend,<-this];simp only [je,hlt,jb hi,Qn,QV,ldT,e1,hf,ha,hck]
 simp only [jP,ya,kj] at kI kS;refine ⟨jhh rs [] c,kI,?_,λx h=> ?_⟩
 .rw [jJd];simp only [je,kS]
 .unfold jhh at h;rw [zB] at h;obtain ⟨r,_,h⟩:=h;exact ZX h
theorem jkJ (c:kR) (lc:c.length<=1048576) (zc:∀l∈c,Tz l.2) (rs:List T) (hl:rs.length<=1048576) (hz:∀r∈rs,Tz r):ju6 141 163 [cm c,jQ rs]:=by
 have n1:=yr c lc zc;have m1:=yY c lc zc;cases hc:jV c<;>rw [hc] at n1 m1
 .exact Kx (by rw [jFd];simp only [je,n1]) (by rw [jB3];simp only [je,m1])
 obtain ⟨b,r1,r2,hb⟩:=jq7 rs hl hz;cases b
 .exact Kx (by rw [jFd];simp only [je,n1,r2]) (by rw [jB3];simp only [je,m1,r1])
 obtain ⟨r,e1,e2,e3⟩:=jq2 c hc rs (hb rfl).1;obtain ⟨c',b',hr⟩:=zP r;refine ⟨r,?_,?_,e3⟩
 .rw [hr] at e1 ⊢;rw [jFd];simp only [je,n1,r2,e1]
 .rw [hr] at e2 ⊢;rw [jB3];simp only [je,m1,r1,e2]
def Cz (c:kR):Prop:=c.length<=1048576/\ ∀l∈c,Tz l.2
noncomputable def wfP (p:Prf):Bool:=decide (p.ax.length<=30) && p.ax.all jV && decide (p.st.length<=60)
theorem jkt (c:kR) (hc:Cz c):G 115 [cm c]=some (vb (!jV c),[]):=by
 have e:=yr c hc.1 hc.2;rw [jIx];simp only [je,e]
theorem jpH (l:List kR) (hl:l.length<=1048576) (hz:∀c∈l,Cz c):∃k:Int,jhU (cls l) (.fn 115 []) (vi (l.length:Nat)) (vi 0)=some (vi k,[])/\decide (k>=0)=l.any (λc=> !jV c):=by
 have key:=upto (P:=λi=>∃k:Int,jhU (cls l) (.fn 115 []) (vi (l.length:Nat)) (vi (i:Nat))=some (vi k,[])/\decide (k>=0)=(l.drop i).any (λc=> !jV c)) (n:=l.length) ?_ ?_ 0 (jE _)
 .simpa only [jP,kj] using key
 .refine ⟨-1,?_,?_⟩
  .rw [jyu];simp only [je]
  .rw [j4];rfl
 .intro i hi ⟨k,ih1,ih2⟩;have hlt:(i:Int) < ((l.length:Nat):Int):=by omega
  have h5:=jq hi (by show l.length<=9223372036854775807;omega)
  have e1:=jkt l[i] (hz _ (jr hi));have hp:K.pureF 115=true:=rfl;have cc:DX.run K (MM K) (.callc (.fn 115 []) [cm l[i]] false)=some (vb (!jV l[i])):=by
   rw [qt hp,y8,e1];rfl
  rw [jyu,ji hi,List.any_cons];cases hn:jV l[i]<;>rw [hn] at cc
  .refine ⟨i,?_,?_⟩
   .simp only [je,hlt,jb hi,JS,cc]
   .rw [jR (by omega)];rfl
  .refine ⟨k,?_,?_⟩
   .simp only [je,hlt,jb hi,JS,cc,h5,ih1]
   .rw [ih2];rfl
theorem jnb (l:List kR) (hl:l.length<=1048576) (hz:∀c∈l,Cz c):G 91 [cls l]=some (vb (l.all jV),[]):=by
 obtain ⟨k,h1,h2⟩:=jpH l hl hz;have e2:G 134 [cls l,.fn 115 []]=some (vi k,[]):=by
  rw [jII];simp only [je,h1]
 have e3:G 114 [cls l,.fn 115 []]=some (vb (l.any (λc=> !jV c)),[]):=by
  rw [jIw];simp only [je,e2,h2]
 have e4:(!l.any (λc=> !jV c))=l.all jV:=by rw [List.all_eq_not_any_not]
 rw [g91];simp only [je,e3,e4]
theorem jkN (p:Prf) (ha:p.ax.length<=1048576) (hz:∀c∈p.ax,Cz c):G 67 [prm p]=some (vb (wfP p),[]):=by
 have e:=jnb p.ax ha hz;unfold wfP;rw [g67];by_cases h1:((p.ax.length:Nat):Int)<=30
 .rw [jR (p:=p.ax.length<=30) (by omega),jI];cases h2:p.ax.all jV<;>rw [h2] at e
  .rw [jH];simp only [je,h1,e]
  .rw [jI,show decide (p.st.length<=60)=decide (((p.st.length:Nat):Int)<=60) from jkm.2 (by omega)];simp only [je,h1,e]
 .rw [kx (p:=p.ax.length<=30) (by omega),jH,jH];simp only [je,h1]
theorem jpV (p:Prf) (ha:p.ax.length<=1048576) (hz:∀c∈p.ax,Cz c):G 57 [prm p]=some (vb (wfP p),[]):=by
 have key:=upto (P:=λi=>jtT (vi (i:Nat)) (cls p.ax) (Jd p.st)=some (vb ((p.ax.drop i).all jV),[])) (n:=p.ax.length) ?_ ?_ 0 (jE _)
 .simp only [jP,kj] at key;unfold wfP;rw [g57];by_cases h1:((p.ax.length:Nat):Int) > 30
  .rw [kx (p:=p.ax.length<=30) (by omega),jH,jH];simp only [je,h1]
  .by_cases h2:((p.st.length:Nat):Int) > 60
   .rw [kx (p:=p.st.length<=60) (by omega),z8];simp only [je,h1,h2]
   .rw [jR (p:=p.st.length<=60) (by omega),jR (p:=p.ax.length<=30) (by omega),jI,jaw];simp only [je,h1,h2,key]
 .rw [jDM,j4];simp only [je]
 .intro i hi ih;have hlt:(i:Int) < ((p.ax.length:Nat):Int):=by omega
  have h5:=jq hi (by show p.ax.length<=9223372036854775807;omega)
  have hc:=hz _ (jr hi);have e1:=yY p.ax[i] hc.1 hc.2;rw [jDM,ji hi,yC];cases hn:jV p.ax[i]<;>rw [hn] at e1
  .rw [jH];simp only [je,hlt,jb hi,JS,e1]
  .rw [jI,<-ih];simp only [je,hlt,jb hi,JS,e1,h5]
theorem ZP (a:A):Z5 a a=true:=by unfold Z5;exact @jR _ (Classical.propDecidable _) rfl
def Pok (p:Prf) (s:Stp):Prop:=∀x∈s.par,0<=x/\x < ((p.st.length:Nat):Int)
theorem adS (q:Stp):ye (.elt (stc q) 0) 3=some (.elt (stc q) 3):=by rw [qI,Jg]
theorem ldC (q:Stp):ke 1 (.elt (stc q) 3)=some (cm q.cls):=rfl
theorem ixN {l:List Int} {j:Nat} (h:j < l.length) {k:Int} (hk:k=(j:Int)):jh 1 (ints l) (vi k)=some (.elt (ci l[j]) 0):=by
 rw [hk];exact jb h
theorem qY {p:Prf} {l:List Int} (hr:∀x∈l,0<=x/\x < ((p.st.length:Nat):Int)) (j:Nat) (hj:j < l.length):∃q∈p.st,p.st[l[j].toNat]? = some q/\jh 4 (Jd p.st) (vi l[j])=some (.elt (stc q) 0):=by
 have h:=hr _ (jr hj);generalize l[j]=x at h ⊢;obtain ⟨n,rfl⟩:=jcB h.1;have hlt:n < p.st.length:=by omega
 exact ⟨p.st[n],jr hlt,by rw [jkn,zk hlt],jb hlt⟩
theorem jds {p:Prf} {s:Stp} (j:Nat) (hj:j < s.par.length) {k:Int} (hk:k=(j:Int)) {q:Stp} (hq:jh 4 (Jd p.st) (vi s.par[j])=some (.elt (stc q) 0)) :
  QL (vi k) (cls p.ax) (Jd p.st) (vi s.rule) (ints s.par) (ints s.whr) (.sl 3 (s.cls.map jL))=some (.top,[cls p.ax,Jd p.st,vi s.rule,ints s.par,ints s.whr,.sl 3 (s.cls.map jL),.sl 3 (q.cls.map jL)]):=by
 have e:=ixN hj hk;rw [jEH];simp only [je,e,qb,hq,adS,ldC]
section
variable (a b c d e f g:A)
theorem jpu:([a,b,c,d,e,f,g]:List A)[0]? = some a:=rfl
theorem jpv:([a,b,c,d,e,f,g]:List A)[1]? = some b:=rfl
theorem jpw:([a,b,c,d,e,f,g]:List A)[2]? = some c:=rfl
theorem jpx:([a,b,c,d,e,f,g]:List A)[3]? = some d:=rfl
theorem jpy:([a,b,c,d,e,f,g]:List A)[4]? = some e:=rfl
theorem jpz:([a,b,c,d,e,f,g]:List A)[5]? = some f:=rfl
theorem jpA:([a,b,c,d,e,f,g]:List A)[6]? = some g:=rfl
end
def Res (o:Option Out) (r:Option kR):Prop:=∃(c:kR) (b:Bool),o=some (.tup [cm c,vb b],[])/\(b=true->r=some c)/\(b=false->r=none)
theorem Res.of {o:Option Out} {r:Option kR} {c:kR} {b:Bool} (h:Zu r=some (.tup [cm c,vb b],[])) (ho:o=some (.tup [cm c,vb b],[])):Res o r:=by
 cases r with
 | none=>exact ⟨[],false,by rw [ho,<-h];rfl,(λh=>by cases h),λ_=>rfl⟩
 | some c'=>exact ⟨c',true,by rw [ho,<-h];rfl,(λ_=>rfl),λh=>by cases h⟩
def jm6 (p:Prf) (s:Stp):Prop:=∃r:Option kR,Res (G 117 [prm p,stm s]) r/\Res (G 105 [prm p,stm s]) r/\ ∀c,r=some c->Cz c/\(wfP p=true->jV c=true)
theorem zQ {p:Prf} {s:Stp} (h1:G 117 [prm p,stm s]=some (.tup [cz,vb false],[])) (h2:G 105 [prm p,stm s]=some (.tup [cz,vb false],[])):jm6 p s:=
 ⟨none,⟨[],false,h1,(λh=>by cases h),λ_=>rfl⟩,⟨[],false,h2,(λh=>by cases h),λ_=>rfl⟩,λc h=>by cases h⟩
theorem jF6 {p:Prf} (h:wfP p=true):∀c∈p.ax,jV c=true:=by
 unfold wfP at h;rw [ju,ju] at h;exact λc hc=>qm.1 h.1.2 c hc
theorem YV {c:kR} (h:jV c=true):Cz c:=⟨by have:=(ky h).1.1;omega,(ky h).1.tz⟩
theorem jKx (p:Prf) (s:Stp) (hs:s.rule=1) (hz:∀c∈p.ax,Cz c) (ha:p.ax.length<=1048576):jm6 p s:=by
 have a1:(s.rule=1)=True:=eq_true hs;have a2:(s.rule=2)=False:=yf (by omega);have a3:(s.rule=3)=False:=yf (by omega);have a4:(s.rule=4)=False:=yf (by omega);have a5:(s.rule=5)=False:=yf (by omega);have a6:(s.rule=6)=False:=yf (by omega);by_cases h1:((s.par.length:Nat):Int)=0;rotate_left
 .exact zQ (by rw [Z6];simp only [je,a1,a2,a3,a4,a5,a6,h1]) (by rw [Qq];simp only [je,a1,a2,a3,a4,a5,a6,h1])
 by_cases h2:((s.whr.length:Nat):Int)=1;rotate_left
 .exact zQ (by rw [Z6];simp only [je,a1,a2,a3,a4,a5,a6,h1,h2]) (by rw [Qq];simp only [je,a1,a2,a3,a4,a5,a6,h1,h2])
 have w0:=ixN (l:=s.whr) (j:=0) (by omega) (k:=0) rfl;have c1:ck (((p.ax.length:Nat):Int) - 1)=some (vi (((p.ax.length:Nat):Int) - 1)):=j8 (by omega) (by omega);have p1:=qc s.whr[0] 0 (((p.ax.length:Nat):Int) - 1);have q1:=yb s.whr[0] 0 (((p.ax.length:Nat):Int) - 1);cases hb:qg 0 (((p.ax.length:Nat):Int) - 1) s.whr[0]<;>rw [hb] at p1 q1
 .exact zQ (by rw [Z6];simp only [je,a1,a2,a3,a4,a5,a6,h1,h2,w0,qb,c1,p1]) (by rw [Qq];simp only [je,a1,a2,a3,a4,a5,a6,h1,h2,w0,qb,c1,q1])
 have hx:0<=s.whr[0]/\s.whr[0] < ((p.ax.length:Nat):Int):=by
  unfold qg at hb;rw [ju,kG,kG] at hb;omega
 obtain ⟨n,hn⟩:=jcB hx.1;have hlt:n < p.ax.length:=by omega
 have x1:jh 1 (cls p.ax) (vi s.whr[0])=some (.elt (clc p.ax[n]) 0):=by rw [hn];exact jb hlt
 refine ⟨some p.ax[n],Res.of rfl ?_,Res.of rfl ?_,λc h=>by cases h;exact ⟨hz _ (jr hlt),λhw=>jF6 hw _ (jr hlt)⟩⟩
 .rw [Z6];simp only [je,a1,a2,a3,a4,a5,a6,h1,h2,w0,qb,c1,p1,x1,JS]
 .rw [Qq];simp only [je,a1,a2,a3,a4,a5,a6,h1,h2,w0,qb,c1,q1,x1,JS]
theorem jKy (p:Prf) (s:Stp) (hs:s.rule=2) (hr:Pok p s) (hz:∀q∈p.st,Cz q.cls):jm6 p s:=by
 have a1:(s.rule=1)=False:=yf (by omega);have a2:(s.rule=2)=True:=eq_true hs;have a3:(s.rule=3)=False:=yf (by omega);have a4:(s.rule=4)=False:=yf (by omega);have a5:(s.rule=5)=False:=yf (by omega);have a6:(s.rule=6)=False:=yf (by omega);by_cases h1:((s.par.length:Nat):Int)=2;rotate_left
 .exact zQ (by rw [Z6];simp only [je,a1,a2,a3,a4,a5,a6,h1]) (by rw [Qq];simp only [je,a1,a2,a3,a4,a5,a6,h1])
 by_cases h2:((s.whr.length:Nat):Int)=2;rotate_left
 .exact zQ (by rw [Z6];simp only [je,a1,a2,a3,a4,a5,a6,h1,h2]) (by rw [Qq];simp only [je,a1,a2,a3,a4,a5,a6,h1,h2])
 have w0:=ixN (l:=s.whr) (j:=0) (by omega) (k:=0) rfl;have w1:=ixN (l:=s.whr) (j:=1) (by omega) (k:=1) rfl;have y0:=ixN (l:=s.par) (j:=0) (by omega) (k:=0) rfl;have y1:=ixN (l:=s.par) (j:=1) (by omega) (k:=1) rfl;obtain ⟨q,mq,_,xq⟩:=qY hr 0 (by omega);obtain ⟨q',mq',_,xq'⟩:=qY hr 1 (by omega);have k0:=jds (s:=s) 0 (by omega) (k:=0) rfl xq;have k1:=jds (s:=s) 1 (by omega) (k:=1) rfl xq';obtain ⟨r,e1,e2,e3⟩:=jn7 q.cls q'.cls (hz _ mq).1 (hz _ mq).2 (hz _ mq').1 (hz _ mq').2 s.whr[0] s.whr[1];obtain ⟨c',b',hf⟩:=zP r;rw [hf] at e1 e2;refine ⟨r,Res.of hf ?_,Res.of hf ?_,λc h=>⟨YV (e3 c h),λ_=>e3 c h⟩⟩
 .rw [Z6];simp only [je,a1,a2,a3,a4,a5,a6,h1,h2,w0,w1,qb,k0,k1,jpu,jpv,jpw,jpx,jpy,jpz,jpA,ZP,e1]
 .rw [Qq];simp only [je,a1,a2,a3,a4,a5,a6,h1,h2,w0,w1,y0,y1,qb,xq,xq',adS,ldC,e2]
theorem jKz (p:Prf) (s:Stp) (hs:s.rule=3) (hr:Pok p s) (hz:∀q∈p.st,Cz q.cls) (hw:∀x∈s.whr,I64 x):jm6 p s:=by
 have a1:(s.rule=1)=False:=yf (by omega);have a2:(s.rule=2)=False:=yf (by omega);have a3:(s.rule=3)=True:=eq_true hs;have a4:(s.rule=4)=False:=yf (by omega);have a5:(s.rule=5)=False:=yf (by omega);have a6:(s.rule=6)=False:=yf (by omega);by_cases h1:((s.par.length:Nat):Int)=1;rotate_left
 .exact zQ (by rw [Z6];simp only [je,a1,a2,a3,a4,a5,a6,h1]) (by rw [Qq];simp only [je,a1,a2,a3,a4,a5,a6,h1])
 by_cases h2:((s.whr.length:Nat):Int)=2;rotate_left
 .exact zQ (by rw [Z6];simp only [je,a1,a2,a3,a4,a5,a6,h1,h2]) (by rw [Qq];simp only [je,a1,a2,a3,a4,a5,a6,h1,h2])
 have w0:=ixN (l:=s.whr) (j:=0) (by omega) (k:=0) rfl;have w1:=ixN (l:=s.whr) (j:=1) (by omega) (k:=1) rfl;have y0:=ixN (l:=s.par) (j:=0) (by omega) (k:=0) rfl;obtain ⟨q,mq,_,xq⟩:=qY hr 0 (by omega);have k0:=jds (s:=s) 0 (by omega) (k:=0) rfl xq;have hi:=hw s.whr[0] (jr (by omega));obtain ⟨r,e1,e2,e3⟩:=jpp q.cls (hz _ mq).1 (hz _ mq).2 s.whr[0] s.whr[1] (by unfold I64 at hi;omega);obtain ⟨c',b',hf⟩:=zP r;rw [hf] at e1 e2;refine ⟨r,Res.of hf ?_,Res.of hf ?_,λc h=>⟨YV (e3 c h),λ_=>e3 c h⟩⟩
 .rw [Z6];simp only [je,a1,a2,a3,a4,a5,a6,h1,h2,w0,w1,qb,k0,jpu,jpv,jpw,jpx,jpy,jpz,jpA,ZP,e1]
 .rw [Qq];simp only [je,a1,a2,a3,a4,a5,a6,h1,h2,w0,w1,y0,qb,xq,adS,ldC,e2]
theorem jKB (p:Prf) (s:Stp) (hs:s.rule=5) (hr:Pok p s) (hz:∀q∈p.st,Cz q.cls):jm6 p s:=by
 have a1:(s.rule=1)=False:=yf (by omega);have a2:(s.rule=2)=False:=yf (by omega);have a3:(s.rule=3)=False:=yf (by omega);have a4:(s.rule=4)=False:=yf (by omega);have a5:(s.rule=5)=True:=eq_true hs;have a6:(s.rule=6)=False:=yf (by omega);by_cases h1:((s.par.length:Nat):Int)=1;rotate_left
 .exact zQ (by rw [Z6];simp only [je,a1,a2,a3,a4,a5,a6,h1]) (by rw [Qq];simp only [je,a1,a2,a3,a4,a5,a6,h1])
 by_cases h2:((s.whr.length:Nat):Int)=1;rotate_left
 .exact zQ (by rw [Z6];simp only [je,a1,a2,a3,a4,a5,a6,h1,h2]) (by rw [Qq];simp only [je,a1,a2,a3,a4,a5,a6,h1,h2])
 have w0:=ixN (l:=s.whr) (j:=0) (by omega) (k:=0) rfl;have y0:=ixN (l:=s.par) (j:=0) (by omega) (k:=0) rfl;obtain ⟨q,mq,_,xq⟩:=qY hr 0 (by omega);have k0:=jds (s:=s) 0 (by omega) (k:=0) rfl xq;obtain ⟨r,e1,e2,e3⟩:=jjy q.cls (hz _ mq).1 (hz _ mq).2 s.whr[0];obtain ⟨c',b',hf⟩:=zP r;rw [hf] at e1 e2;refine ⟨r,Res.of hf ?_,Res.of hf ?_,λc h=>⟨YV (e3 c h),λ_=>e3 c h⟩⟩
 .rw [Z6];simp only [je,a1,a2,a3,a4,a5,a6,h1,h2,w0,qb,k0,jpu,jpv,jpw,jpx,jpy,jpz,jpA,ZP,e1]
 .rw [Qq];simp only [je,a1,a2,a3,a4,a5,a6,h1,h2,w0,y0,qb,xq,adS,ldC,e2]
theorem jkL (c d:kR) (zc:Cz c) (zd:Cz d) (i side k:Int):G 138 [cm c,vi i,vi side,cm d,vi k,ints []]=some (.tup [cz,vb false],[]):=by
 have n1:=yr c zc.1 zc.2;have n2:=yr d zd.1 zd.2;rw [jB2];cases hc:jV c<;>rw [hc] at n1
 .simp only [je,n1]
 cases hd:jV d<;>rw [hd] at n2
 .simp only [je,n1,n2]
 have key:G 166 [cm c,vi i,vi side,cm d,vi k,ints []]=some (.tup [cz,vb false],[]):=by
  obtain ⟨cc,_,_,_⟩:=ky hc;obtain ⟨cd,_,_,_⟩:=ky hd;have lc:=cc.1;have ld:=cd.1;have p1:=zR c (by omega) i;have p2:=zR d (by omega) k;have p3:=qc side 0 1;rw [jpt];cases hi:Yn c i<;>rw [hi] at p1
  .simp only [je,p1]
  cases hk:Yn d k<;>rw [hk] at p2
  .simp only [je,p1,p2]
  cases hs:qg 0 1 side<;>rw [hs] at p3
  .simp only [je,p1,p2,p3]
  obtain ⟨m,rfl,hm⟩:=KB hi;have x1:=jb (k:=3) (f:=jL) hm;have e3:=yX c[m].2;cases hp:c[m].1
  .simp only [je,p1,p2,p3,x1,Qn,QV,hp]
  have hl:zg (ints [])=some (vi 0):=rfl;cases he:decide (c[m].2.name = [61])<;>rw [he] at e3
  .simp only [je,p1,p2,p3,x1,Qn,QV,ldT,hp,e3]
  .simp only [je,p1,p2,p3,x1,Qn,QV,ldT,hp,e3,hl]
 simp only [je,n1,n2,key]
theorem jKA (p:Prf) (s:Stp) (hs:s.rule=4) (hr:Pok p s) (hz:∀q∈p.st,Cz q.cls) (hl:s.whr.length<=1048576):jm6 p s:=by
 have a1:(s.rule=1)=False:=yf (by omega);have a2:(s.rule=2)=False:=yf (by omega);have a3:(s.rule=3)=False:=yf (by omega);have a4:(s.rule=4)=True:=eq_true hs;have a5:(s.rule=5)=False:=yf (by omega);have a6:(s.rule=6)=False:=yf (by omega);by_cases h1:((s.par.length:Nat):Int)=2;rotate_left
 .exact zQ (by rw [Z6];simp only [je,a1,a2,a3,a4,a5,a6,h1]) (by rw [Qq];simp only [je,a1,a2,a3,a4,a5,a6,h1])
 by_cases h2:((s.whr.length:Nat):Int)>=3;rotate_left
 .have h3:¬((s.whr.length:Nat):Int) > 3:=by omega
  exact zQ (by rw [Z6];simp only [je,a1,a2,a3,a4,a5,a6,h1,h2]) (by rw [Qq];simp only [je,a1,a2,a3,a4,a5,a6,h1,h3])
 have w0:=ixN (l:=s.whr) (j:=0) (by omega) (k:=0) rfl;have w1:=ixN (l:=s.whr) (j:=1) (by omega) (k:=1) rfl;have w2:=ixN (l:=s.whr) (j:=2) (by omega) (k:=2) rfl;have y0:=ixN (l:=s.par) (j:=0) (by omega) (k:=0) rfl;have y1:=ixN (l:=s.par) (j:=1) (by omega) (k:=1) rfl;have hsl:zZ 1 (ints s.whr) (some (vi 3)) none=some (ints (s.whr.drop 3)):=by
  have:=yZ (k:=1) (xs:=s.whr.map ci) (i:=3) (by rw [jK];omega)
  rw [<-jfl] at this;exact this
 obtain ⟨q,mq,_,xq⟩:=qY hr 0 (by omega);obtain ⟨q',mq',_,xq'⟩:=qY hr 1 (by omega);have k0:=jds (s:=s) 0 (by omega) (k:=0) rfl xq;have k1:=jds (s:=s) 1 (by omega) (k:=1) rfl xq';by_cases h3:((s.whr.length:Nat):Int) > 3
 .obtain ⟨r,e1,e2,e3⟩:=jjX q.cls q'.cls (hz _ mq).1 (hz _ mq).2 (hz _ mq').1 (hz _ mq').2 s.whr[0] s.whr[1] s.whr[2] (s.whr.drop 3) (by rw [qS];omega)
  obtain ⟨c',b',hf⟩:=zP r;rw [hf] at e1 e2;refine ⟨r,Res.of hf ?_,Res.of hf ?_,λc h=>⟨YV (e3 c h),λ_=>e3 c h⟩⟩
  .rw [Z6];generalize s.whr.drop 3=D at *;simp only [je,a1,a2,a3,a4,a5,a6,h1,h2,w0,w1,w2,hsl,qb,k0,k1,jpu,jpv,jpw,jpx,jpy,jpz,jpA,ZP,e1]
  .rw [Qq];generalize s.whr.drop 3=D at *;simp only [je,a1,a2,a3,a4,a5,a6,h1,h3,w0,w1,w2,hsl,y0,y1,qb,xq,xq',adS,ldC,e2]
 .rw [show s.whr.drop 3 = [] from jow (by omega)] at hsl;have e1:=jkL q.cls q'.cls (hz _ mq) (hz _ mq') s.whr[0] s.whr[1] s.whr[2];have hsl:zZ 1 (.sl 1 (s.whr.map ci)) (some (vi 3)) none=some (.sl 1 []):=hsl;have e1:G 138 [cm q.cls,vi s.whr[0],vi s.whr[1],cm q'.cls,vi s.whr[2],.sl 1 []]=some (.tup [cz,vb false],[]):=e1;refine zQ ?_ ?_
  .rw [Z6];simp only [je,a1,a2,a3,a4,a5,a6,h1,h2,w0,w1,w2,hsl,qb,k0,k1,jpu,jpv,jpw,jpx,jpy,jpz,jpA,ZP,e1]
  .rw [Qq];simp only [je,a1,a2,a3,a4,a5,a6,h1,h3]
theorem jKw (p:Prf) (s:Stp) (h1:¬s.rule=1) (h2:¬s.rule=2) (h3:¬s.rule=3) (h4:¬s.rule=4) (h5:¬s.rule=5) (h6:¬s.rule=6):jm6 p s:=by
 refine zQ ?_ ?_
 .rw [Z6];simp only [je,h1,h2,h3,h4,h5,h6]
 .rw [Qq];simp only [je,h1,h2,h3,h4,h5,h6]
def jdh:kR->Option T
 | [l]=>if l.1=true then some l.2 else none
 | _=>none
def JI (p:Prf):List Int->Option (List T)
 | []=>some []
 | x::xs=>match p.st[x.toNat]? with
  | some q=>(match jdh q.cls with
   | some t=>(JI p xs).map (t::·)
   | none=>none)
  | none=>none
theorem je5 {p:Prf} (hz:∀q∈p.st,Cz q.cls):∀ {l:List Int} {rs:List T},JI p l=some rs->rs.length=l.length/\ ∀r∈rs,Tz r
 | [],rs,h=>by cases h;exact ⟨rfl,λr hr=>by cases hr⟩
 | x::xs,rs,h=>by
  unfold JI at h;split at h
  .rename_i q hq;split at h
   .rename_i t ht;rw [yP] at h;obtain ⟨rs',h1,rfl⟩:=h;obtain ⟨i1,i2⟩:=je5 hz h1;refine ⟨by simp [i1],λr hr=> ?_⟩;rcases j7.1 hr with rfl|hr
    .have hm:=hz q (Jq hq);unfold jdh at ht;split at ht
     .rename_i l hl;split at ht
      .cases ht;exact hm.2 l (by rw [hl];exact JP ..)
      .cases ht
     .cases ht
    .exact i2 r hr
   .cases h
  .cases h
theorem QH {p:Prf} {x:Int} {xs:List Int} {q:Stp} (eq:p.st[x.toNat]? = some q) (hu:jdh q.cls=none):JI p (x::xs)=none:=by
 rw [JI,eq];dsimp only;rw [hu]
theorem jg4 {p:Prf} {x:Int} {xs:List Int} {q:Stp} {t:T} (eq:p.st[x.toNat]? = some q) (hu:jdh q.cls=some t):JI p (x::xs)=(JI p xs).map (t::·):=by
 rw [JI,eq];dsimp only;rw [hu]
theorem jj2 (c:kR):(¬((c.length:Nat):Int)=1/\jdh c=none)\/ ∃t:Lt,((c.length:Nat):Int)=1/\jh 3 (.sl 3 (c.map jL)) (vi 0)=some (.elt (jL t) 0)/\jdh c=if t.1=true then some t.2 else none:=by
 match c with
 | []=>exact Or.inl ⟨by simp,rfl⟩
 | [t]=>exact Or.inr ⟨t,rfl,rfl,rfl⟩
 | t::t'::r=>exact Or.inl ⟨by simp only [zM];omega,rfl⟩
theorem joa (p:Prf) (l:List Int) (hl:l.length<=1048576) (hr:∀x∈l,0<=x/\x < ((p.st.length:Nat):Int)) :
  jfw (ints l) (vi (l.length:Nat)) (vi 0) (cls p.ax) (Jd p.st) []=match JI p l with|some rs=>some (.tup [jQ rs,vb true],[])|none=>some (.tup [.sl 2 [],vb false],[]):=by
 have key:=upto (P:=λi=>∀R:List T,R.length<=i->jfw (ints l) (vi (l.length:Nat)) (vi (i:Nat)) (cls p.ax) (Jd p.st) (R.map jm)=match JI p (l.drop i) with|some rs=>some (.tup [jQ (R++rs),vb true],[])|none=>some (.tup [.sl 2 [],vb false],[])) (n:=l.length) ?_ ?_ 0 (jE _) [] (kD _)
 .simpa only [jP,kj,ya,KN] using key
 .intro R hR;rw [jyv,j4];simp only [je,JI,y8]
 .intro i hi ih R hR;have hlt:(i:Int) < ((l.length:Nat):Int):=by omega
  have h5:=jq hi (by show l.length<=9223372036854775807;omega)
  have y:=ixN (l:=l) (j:=i) hi (k:=i) rfl;obtain ⟨q,mq,eq,xq⟩:=qY hr i hi;have hf:jW (R.length+1) 40=true:=jqD (by omega);rw [jyv,ji hi];rcases jj2 q.cls with ⟨hne,hu⟩|⟨t,he,hx,hu⟩
  .rw [QH eq hu];simp only [je,hlt,y,qb,xq,adS,ldC,hne]
  .cases hb:t.1<;>rw [hb] at hu
   .have hu:jdh q.cls=none:=hu;rw [QH eq hu];simp only [je,hlt,y,qb,xq,adS,ldC,he,hx,QV,Qn,hb]
   .have hu:jdh q.cls=some t.2:=hu;rw [jg4 eq hu];have:=ih (R++[t.2]) (by rw [yn];simp only [zM,qO];omega);have ha:kq (R.map jm) [[sv t.2.name,jQ t.2.args]]=(R++[t.2]).map jm:=by rw [zz,jou,zq];rfl
    simp only [je,hlt,y,qb,xq,adS,ldC,he,hx,QV,Qn,ldT,hb,hf,ha,h5,this];cases JI p (l.drop (i+1)) with
    | none=>rfl
    | some rs=>simp only [K5,zH,Jl,KN]
theorem jjH (p:Prf) (l:List Int) (hl:l.length<=1048576) (hr:∀x∈l,0<=x/\x < ((p.st.length:Nat):Int)) (h1:1<=l.length) :
  Z3 (ints l) (vi 1) (cls p.ax) (Jd p.st) [] [] []=match JI p (l.drop 1) with|some rs=>Z3 (ints l) (vi (l.length:Nat)) (cls p.ax) (Jd p.st) (rs.map jm) [] []|none=>some (.tup [cz,vb false],[]):=by
 have key:=upto (P:=λi=>∀R:List T,R.length<=i->Z3 (ints l) (vi (i:Nat)) (cls p.ax) (Jd p.st) (R.map jm) [] []=match JI p (l.drop i) with|some rs=>Z3 (ints l) (vi (l.length:Nat)) (cls p.ax) (Jd p.st) ((R++rs).map jm) [] []|none=>some (.tup [cz,vb false],[])) (n:=l.length) ?_ ?_ 1 h1 [] (jE _)
 .simpa only [jkg,ya,KN] using key
 .intro R hR;rw [j4];simp only [JI,y8]
 .intro i hi ih R hR;have hlt:(i:Int) < ((l.length:Nat):Int):=by omega
  have h5:=jq hi (by show l.length<=9223372036854775807;omega)
  have y:=ixN (l:=l) (j:=i) hi (k:=i) rfl;obtain ⟨q,mq,eq,xq⟩:=qY hr i hi;have hf:jW (R.length+1) 40=true:=jqD (by omega);generalize hend:Z3 (ints l) (vi (l.length:Nat)) (cls p.ax) (Jd p.st)=E at ih ⊢;rw [jiR,ji hi];rcases jj2 q.cls with ⟨hne,hu⟩|⟨t,he,hx,hu⟩
  .rw [QH eq hu];simp only [je,hlt,y,qb,xq,adS,ldC,hne]
  .cases hb:t.1<;>rw [hb] at hu
   .have hu:jdh q.cls=none:=hu;rw [QH eq hu];simp only [je,hlt,y,qb,xq,adS,ldC,he,hx,QV,Qn,hb]
   .have hu:jdh q.cls=some t.2:=hu;rw [jg4 eq hu];have:=ih (R++[t.2]) (by rw [yn];simp only [zM,qO];omega);have ha:kq (R.map jm) [[sv t.2.name,jQ t.2.args]]=(R++[t.2]).map jm:=by rw [zz,jou,zq];rfl
    simp only [je,hlt,y,qb,xq,adS,ldC,he,hx,QV,Qn,ldT,hb,hf,ha,h5,this];cases JI p (l.drop (i+1)) with
    | none=>rfl
    | some rs=>simp only [K5,zH,Jl,KN]
theorem jn8 (c:kR) (zc:Cz c) (rs:List T) (hl:rs.length<=1048576) (hz:∀r∈rs,Tz r) (hm:10 < rs.length):G 163 [cm c,jQ rs]=some (.tup [cz,vb false],[]):=by
 have m1:=yY c zc.1 zc.2;obtain ⟨b,r1,r2,hb⟩:=jq7 rs hl hz;rw [jB3];cases hc:jV c<;>rw [hc] at m1
 .simp only [je,m1]
 cases b
 .simp only [je,m1,r1]
 .have:=(hb rfl).1.1;omega
theorem jKC (p:Prf) (s:Stp) (hs:s.rule=6) (hr:Pok p s) (hz:∀q∈p.st,Cz q.cls) (hl:s.par.length<=1048576):jm6 p s:=by
 have a1:(s.rule=1)=False:=yf (by omega);have a2:(s.rule=2)=False:=yf (by omega);have a3:(s.rule=3)=False:=yf (by omega);have a4:(s.rule=4)=False:=yf (by omega);have a5:(s.rule=5)=False:=yf (by omega);have a6:(s.rule=6)=True:=eq_true hs;have wi:=qc ((s.par.length:Nat):Int) 2 11;by_cases h1:((s.par.length:Nat):Int) > 1;rotate_left
 .rw [show qg 2 11 ((s.par.length:Nat):Int)=false by unfold qg;rw [kx (by omega),jH]] at wi
  exact zQ (by rw [Z6];simp only [je,a1,a2,a3,a4,a5,a6,wi]) (by rw [Qq];simp only [je,a1,a2,a3,a4,a5,a6,h1])
 by_cases h2:((s.whr.length:Nat):Int)=0;rotate_left
 .refine zQ ?_ (by rw [Qq];simp only [je,a1,a2,a3,a4,a5,a6,h1,h2])
  rw [Z6];cases hb:qg 2 11 ((s.par.length:Nat):Int)<;>rw [hb] at wi<;>simp only [je,a1,a2,a3,a4,a5,a6,wi,h2]
 have y0:=ixN (l:=s.par) (j:=0) (by omega) (k:=0) rfl;obtain ⟨q,mq,_,xq⟩:=qY hr 0 (by omega);have k0:=jds (s:=s) 0 (by omega) (k:=0) rfl xq;have e1:=joa p (s.par.drop 1) (by rw [qS];omega) (λx hx=>hr x (jj9 hx));have e2:=jjH p s.par hl hr (by omega);have hsl:zZ 1 (ints s.par) (some (vi 1)) none=some (ints (s.par.drop 1)):=by
  have:=yZ (k:=1) (xs:=s.par.map ci) (i:=1) (by rw [jK];omega)
  rw [<-jfl] at this;exact this
 have nlt:¬((s.par.length:Nat):Int) < ((s.par.length:Nat):Int):=by omega
 have eS:∀o,Z3 (ints s.par) (vi 1) (cls p.ax) (Jd p.st) [] [] []=some (.tup [cm o,vb false],[])->G 105 [prm p,stm s]=some (.tup [cm o,vb false],[]):=λo h=>by
  have h':G 132 [prm p,ints s.par]=some (.tup [cm o,vb false],[]):=by
   rw [jGO];simp only [je,h]
  rw [Qq];simp only [je,a1,a2,a3,a4,a5,a6,h1,h2,h']
 have eT:∀o,Z3 (ints s.par) (vi 1) (cls p.ax) (Jd p.st) [] [] []=some (.tup [cm o,vb true],[])->G 105 [prm p,stm s]=some (.tup [cm o,vb true],[]):=λo h=>by
  have h':G 132 [prm p,ints s.par]=some (.tup [cm o,vb true],[]):=by
   rw [jGO];simp only [je,h]
  rw [Qq];simp only [je,a1,a2,a3,a4,a5,a6,h1,h2,h']
 have eR:G 140 [prm p,ints (s.par.drop 1)]=jfw (ints (s.par.drop 1)) (vi ((s.par.drop 1).length:Nat)) (vi 0) (cls p.ax) (Jd p.st) []:=by
  rw [jIJ];generalize s.par.drop 1=D;simp only [je]
 rw [e1] at eR;cases hrs:JI p (s.par.drop 1) with
 | none=>
  rw [hrs] at eR e2;refine zQ ?_ (eS [] e2);rw [Z6];generalize s.par.drop 1=D at *;cases hb:qg 2 11 ((s.par.length:Nat):Int)<;>rw [hb] at wi
  .simp only [je,a1,a2,a3,a4,a5,a6,wi]
  .have eR:G 140 [prm p,ints D]=some (.tup [.sl 2 [],vb false],[]):=eR;simp only [je,a1,a2,a3,a4,a5,a6,wi,h2,hsl,eR]
 | some rs=>
  rw [hrs] at eR e2;have eR:G 140 [prm p,ints (s.par.drop 1)]=some (.tup [jQ rs,vb true],[]):=eR;have e2:Z3 (ints s.par) (vi 1) (cls p.ax) (Jd p.st) [] [] []=Z3 (ints s.par) (vi (s.par.length:Nat)) (cls p.ax) (Jd p.st) (rs.map jm) [] []:=e2;obtain ⟨f1,f2⟩:=je5 hz hrs;rw [qS] at f1;have hne:¬((rs.length:Nat):Int)=0:=by omega
  by_cases hm:10 < rs.length
  .have er:=jn8 q.cls (hz _ mq) rs (by omega) f2 hm;rw [show qg 2 11 ((s.par.length:Nat):Int)=false by unfold qg;rw [kx (p:=((s.par.length:Nat):Int)<=11) (by omega),z8]] at wi;refine zQ (by rw [Z6];simp only [je,a1,a2,a3,a4,a5,a6,wi]) (eS [] ?_);rw [e2,jiR];simp only [je,nlt,y0,qb,xq,adS,ldC,hne,er];rfl
  .rw [show qg 2 11 ((s.par.length:Nat):Int)=true by unfold qg;rw [jR (by omega),jR (by omega)];rfl] at wi
   obtain ⟨r,b1,b2,b3⟩:=jkJ q.cls (hz _ mq).1 (hz _ mq).2 rs (by omega) f2;generalize s.par.drop 1=D at *;cases r with
   | none=>
    have b1:G 141 [cm q.cls,jQ rs]=some (.tup [cz,vb false],[]):=b1;have b2:G 163 [cm q.cls,jQ rs]=some (.tup [cz,vb false],[]):=b2;refine zQ ?_ (eS [] ?_)
    .rw [Z6];simp only [je,a1,a2,a3,a4,a5,a6,wi,h2,hsl,eR,k0,jpu,jpv,jpw,jpx,jpy,jpz,jpA,ZP,b1]
    .rw [e2,jiR];simp only [je,nlt,y0,qb,xq,adS,ldC,hne,b2];rfl
   | some c=>
    have b1:G 141 [cm q.cls,jQ rs]=some (.tup [cm c,vb true],[]):=b1;have b2:G 163 [cm q.cls,jQ rs]=some (.tup [cm c,vb true],[]):=b2;have zc:=YV (b3 c rfl);have s1:=jdf c q.cls zc.1 zc.2 (hz _ mq).2;have s2:=jli c q.cls zc.1 zc.2 (hz _ mq).2;have k0':=k0;cases hsame:dq c q.cls<;>rw [hsame] at s1 s2
    .refine ⟨some c,Res.of (c:=c) (b:=true) rfl ?_,Res.of (c:=c) (b:=true) rfl (eT c ?_),λx h=>by cases h;exact ⟨zc,λ_=>b3 c rfl⟩⟩
     .rw [Z6];simp only [je,a1,a2,a3,a4,a5,a6,wi,h2,hsl,eR,k0,jpu,jpv,jpw,jpx,jpy,jpz,jpA,ZP,b1,s1]
     .rw [e2,jiR];simp only [je,nlt,y0,qb,xq,adS,ldC,hne,b2,s2]
    .refine ⟨none,⟨c,false,?_,(λh=>by cases h),λ_=>rfl⟩,⟨[],false,eS [] ?_,(λh=>by cases h),λ_=>rfl⟩,λx h=>by cases h⟩
     .rw [Z6];simp only [je,a1,a2,a3,a4,a5,a6,wi,h2,hsl,eR,k0,jpu,jpv,jpw,jpx,jpy,jpz,jpA,ZP,b1,s1]
     .rw [e2,jiR];simp only [je,nlt,y0,qb,xq,adS,ldC,hne,b2,s2];rfl
structure Pz (p:Prf):Prop where
 ax:p.ax.length<=1048576
 st:p.st.length<=1048576
 axs:∀c∈p.ax,Cz c
 par:∀s∈p.st,s.par.length<=1048576
 whr:∀s∈p.st,s.whr.length<=1048576
 wI:∀s∈p.st,∀x∈s.whr,I64 x
 cls:∀s∈p.st,Cz s.cls
theorem Cz.of {c:kR} (h:csz c<=1048576):Cz c:=⟨by unfold csz at h;omega,λl hl=>by have:=jnH hl;unfold csz at h;show tsz l.2<=1048576;omega⟩
theorem Pz.of {p:Prf} (hw:pwf p) (h:psz p<=1048576):Pz p:=by
 unfold psz at h;refine ⟨by omega,by omega,λc hc=> ?_,λs hs=> ?_,λs hs=> ?_,λs hs=>(hw.2.1 s hs).2.2.1.1,λs hs=> ?_⟩
 .have:=jio hc;exact Cz.of (by omega)
 .have:=jcr hs;unfold ssz at this;omega
 .have:=jcr hs;unfold ssz at this;omega
 .have:=jcr hs;unfold ssz at this;exact Cz.of (by omega)
theorem jCH {p:Prf} (hp:Pz p) {s:Stp} (hs:s∈p.st) (hr:Pok p s):jm6 p s:=by
 by_cases h1:s.rule=1
 .exact jKx p s h1 hp.axs hp.ax
 by_cases h2:s.rule=2
 .exact jKy p s h2 hr hp.cls
 by_cases h3:s.rule=3
 .exact jKz p s h3 hr hp.cls (hp.wI s hs)
 by_cases h4:s.rule=4
 .exact jKA p s h4 hr hp.cls (hp.whr s hs)
 by_cases h5:s.rule=5
 .exact jKB p s h5 hr hp.cls
 by_cases h6:s.rule=6
 .exact jKC p s h6 hr hp.cls (hp.par s hs)
 exact jKw p s h1 h2 h3 h4 h5 h6
theorem jpc (i:Nat) (hi:i<=1048576) (x:Int):G 116 [vi x,.elt [vi (i:Nat)] 0]=some (vb (!qg 0 ((i:Int) - 1) x),[]):=by
 have c1:ck ((i:Int) - 1)=some (vi ((i:Int) - 1)):=j8 (by omega) (by omega);have e:=qc x 0 ((i:Int) - 1);have ld:ku (.elt [vi (i:Nat)] 0)=some (vi (i:Nat)):=rfl;rw [jIy];simp only [je,ld,c1,e]
theorem jnf (i:Nat) (hi:i<=1048576) (l:List Int) (hl:l.length<=1048576):G 51 [ints l,.fn 116 [.elt [vi (i:Nat)] 0]]=some (vb (!l.all (qg 0 ((i:Int) - 1))),[]):=by
 have key:=upto (P:=λj=>∃k:Int,joQ (ints l) (.fn 116 [.elt [vi (i:Nat)] 0]) (vi (l.length:Nat)) (vi (j:Nat))=some (vi k,[])/\decide (k>=0)=!(l.drop j).all (qg 0 ((i:Int) - 1))) (n:=l.length) ?_ ?_ 0 (jE _)
 .obtain ⟨k,h1,h2⟩:=key;simp only [jP,kj] at h1 h2;have e2:G 78 [ints l,.fn 116 [.elt [vi (i:Nat)] 0]]=some (vi k,[]):=by
   rw [g78];simp only [je,h1]
  rw [g51,<-h2];simp only [je,e2]
 .refine ⟨-1,?_,?_⟩
  .rw [juu];simp only [je]
  .rw [j4];rfl
 .intro j hj ⟨k,ih1,ih2⟩;have hlt:(j:Int) < ((l.length:Nat):Int):=by omega
  have h5:=jq hj (by show l.length<=9223372036854775807;omega)
  have e1:=jpc i hi l[j];have hp:K.pureF 116=true:=rfl;have cc:DX.run K (MM K) (.callc (.fn 116 [.elt [vi (i:Nat)] 0]) [vi l[j]] false)=some (vb (!qg 0 ((i:Int) - 1) l[j])):=by
   rw [qt hp,List.singleton_append,e1];rfl
  rw [juu,ji hj,yC];cases hn:qg 0 ((i:Int) - 1) l[j]<;>rw [hn] at cc
  .refine ⟨j,?_,?_⟩
   .simp only [je,hlt,jb hj,qb,cc]
   .rw [jR (by omega)];rfl
  .refine ⟨k,?_,?_⟩
   .simp only [je,hlt,jb hj,qb,cc,h5,ih1]
   .rw [ih2,jI]
theorem jkz (p:Prf) (s:Stp) (i:Nat) (hi:i<=1048576) (hl:s.par.length<=1048576) :
  jef (vi (i:Nat)) (vi 0) (cls p.ax) (Jd p.st) (vi s.rule) (ints s.par) (ints s.whr) (.sl 3 (s.cls.map jL))=if s.par.all (qg 0 ((i:Int) - 1)) then jef (vi (i:Nat)) (vi (s.par.length:Nat)) (cls p.ax) (Jd p.st) (vi s.rule) (ints s.par) (ints s.whr) (.sl 3 (s.cls.map jL)) else some (vb false,[]):=by
 generalize hend:jef (vi (i:Nat)) (vi (s.par.length:Nat)) (cls p.ax) (Jd p.st) (vi s.rule) (ints s.par) (ints s.whr) (.sl 3 (s.cls.map jL))=E;have key:=upto (P:=λj=>jef (vi (i:Nat)) (vi (j:Nat)) (cls p.ax) (Jd p.st) (vi s.rule) (ints s.par) (ints s.whr) (.sl 3 (s.cls.map jL))=if (s.par.drop j).all (qg 0 ((i:Int) - 1)) then E else some (vb false,[])) (n:=s.par.length) ?_ ?_ 0 (jE _)
 .simpa only [jP,kj] using key
 .rw [j4,hend];rfl
 .intro j hj ih;have c1:ck ((i:Int) - 1)=some (vi ((i:Int) - 1)):=j8 (by omega) (by omega);have hlt:(j:Int) < ((s.par.length:Nat):Int):=by omega
  have h5:=jq hj (by show s.par.length<=9223372036854775807;omega)
  have e1:=yb s.par[j] 0 ((i:Int) - 1);rw [jzz,ji hj,yC];cases hn:qg 0 ((i:Int) - 1) s.par[j]<;>rw [hn] at e1
  .rw [jH];simp only [je,hlt,jb hj,qb,c1,e1]
  .rw [jI,<-ih];simp only [je,hlt,jb hj,qb,c1,e1,h5]
theorem jsn {p:Prf} (hp:Pz p) (i:Nat) (hi:i < p.st.length):∃b:Bool,G 92 [prm p,vi (i:Nat)]=some (vb b,[])/\G 82 [prm p,vi (i:Nat)]=some (vb b,[])/\(b=true->wfP p=true->jV p.st[i].cls=true):=by
 have hst:=hp.st;have ms:=jr hi;have x1:jh 4 (Jd p.st) (vi (i:Nat))=some (.elt (stc p.st[i]) 0):=jb hi;generalize p.st[i]=s at ms x1 ⊢;have hl:=hp.par s ms;have e1:=jnf i (by omega) s.par hl;have e2:=jkz p s i (by omega) hl;have ok:j9 (vi (i:Nat))=true:=rfl;cases hb:s.par.all (qg 0 ((i:Int) - 1))<;>rw [hb] at e1 e2
 .refine ⟨false,?_,?_,λh=>by cases h⟩
  .rw [g92];simp only [je,ok,x1,JU,e1]
  .have e2:=e2.trans (jo (by decide));rw [g82];simp only [je,x1,JU,e2]
 have e2:=e2.trans (jl rfl);have hr:Pok p s:=λx hx=>by
  have:=qm.1 hb x hx;unfold qg at this;rw [ju,kG,kG] at this;omega
 have nlt:¬((s.par.length:Nat):Int) < ((s.par.length:Nat):Int):=by omega
 obtain ⟨r,⟨c1,b1,i1,t1,f1⟩,⟨c2,b2,i2,t2,f2⟩,hz⟩:=jCH hp ms hr;cases b1
 .have hr0:=f1 rfl;cases b2
  .have e3:jef (vi (i:Nat)) (vi (s.par.length:Nat)) (cls p.ax) (Jd p.st) (vi s.rule) (ints s.par) (ints s.whr) (.sl 3 (s.cls.map jL))=some (vb false,[]):=by
    rw [jzz];simp only [je,nlt,i2]
   rw [e3] at e2;refine ⟨false,?_,?_,λh=>by cases h⟩
   .rw [g92];simp only [je,ok,x1,JU,e1,i1]
   .rw [g82];simp only [je,x1,JU,e2]
  .rw [hr0] at t2;exact absurd (t2 rfl) (by intro h;cases h)
 .have hr1:=t1 rfl;cases b2
  .rw [hr1] at f2;exact absurd (f2 rfl) (by intro h;cases h)
  .have hr2:=t2 rfl;rw [hr1] at hr2;cases hr2;have zc:=(hz _ hr1).1;have s1:=jdf c1 s.cls zc.1 zc.2 (hp.cls s ms).2;have s2:=jli c1 s.cls zc.1 zc.2 (hp.cls s ms).2;have e3:jef (vi (i:Nat)) (vi (s.par.length:Nat)) (cls p.ax) (Jd p.st) (vi s.rule) (ints s.par) (ints s.whr) (.sl 3 (s.cls.map jL))=some (vb (dq c1 s.cls),[]):=by
    rw [jzz];simp only [je,nlt,i2,s2]
   rw [e3] at e2;refine ⟨dq c1 s.cls,?_,?_,λh w=>by rw [<-Jr.1 h];exact (hz _ hr1).2 w⟩
   .rw [g92];simp only [je,ok,x1,JU,e1,i1,s1]
   .rw [g82];simp only [je,x1,JU,e2]
noncomputable def jky (p:Prf) (i:Nat):Bool:=@decide (G 82 [prm p,vi (i:Nat)]=some (vb true,[])) (Classical.propDecidable _)
theorem jdt {p:Prf} (hp:Pz p) (i:Nat) (hi:i < p.st.length):G 92 [prm p,vi (i:Nat)]=some (vb (jky p i),[])/\G 82 [prm p,vi (i:Nat)]=some (vb (jky p i),[])/\(jky p i=true->wfP p=true->jV p.st[i].cls=true):=by
 obtain ⟨b,h1,h2,h3⟩:=jsn hp i hi;have:jky p i=b:=by
  unfold jky;rw [h2];cases b with
  | true=>exact @jR _ (Classical.propDecidable _) rfl
  | false=>exact @kx _ (Classical.propDecidable _) (by intro h;cases h)
 rw [this];exact ⟨h1,h2,h3⟩
noncomputable def Ji (p:Prf):Nat->Nat->Int
 | 0,_=> -1
 | n+1,i=>if jky p i then Ji p n (i+1) else i
theorem jvr {p:Prf} (hp:Pz p):G 68 [prm p]=some (vi (Ji p p.st.length 0),[]):=by
 have hst:=hp.st;have key:=upto (P:=λi=>jtW (vi (p.st.length:Nat)) (vi (i:Nat)) (cls p.ax) (Jd p.st)=some (vi (Ji p (p.st.length - i) i),[])) (n:=p.st.length) ?_ ?_ 0 (jE _)
 .simp only [jP,jdm] at key;rw [g68];simp only [je,key]
 .rw [jDQ,jdZ];simp only [je,Ji]
 .intro i hi ih;have hlt:(i:Int) < ((p.st.length:Nat):Int):=by omega
  have h5:=jq hi (by show p.st.length<=9223372036854775807;omega)
  have e:=(jdt hp i hi).1;rw [jDQ,show p.st.length - i=(p.st.length - (i+1))+1 by omega,Ji];cases hc:jky p i<;>rw [hc] at e
  .simp only [je,hlt,e]
  .simp only [je,hlt,e,h5,ih]
theorem jvs {p:Prf} (hp:Pz p):G 58 [prm p]=some (vi (Ji p p.st.length 0),[]):=by
 have hst:=hp.st;have key:=upto (P:=λi=>jtU (vi (i:Nat)) (cls p.ax) (Jd p.st)=some (vi (Ji p (p.st.length - i) i),[])) (n:=p.st.length) ?_ ?_ 0 (jE _)
 .simp only [jP,jdm] at key;rw [g58];simp only [je,key]
 .rw [jDN,jdZ];simp only [je,Ji]
 .intro i hi ih;have hlt:(i:Int) < ((p.st.length:Nat):Int):=by omega
  have h5:=jq hi (by show p.st.length<=9223372036854775807;omega)
  have e:=(jdt hp i hi).2.1;rw [jDN,show p.st.length - i=(p.st.length - (i+1))+1 by omega,Ji];cases hc:jky p i<;>rw [hc] at e
  .simp only [je,hlt,e]
  .simp only [je,hlt,e,h5,ih]
noncomputable def Q1 (p:Prf):Bool:=wfP p && decide (Ji p p.st.length 0 < 0)
theorem jl2 {p:Prf} (hp:Pz p):G 41 [prm p]=some (vb (Q1 p),[])/\G 30 [prm p]=some (vb (Q1 p),[]):=by
 have e1:=jkN p hp.ax hp.axs;have e2:=jpV p hp.ax hp.axs;have f1:=jvr hp;have f2:=jvs hp;unfold Q1;cases hw:wfP p<;>rw [hw] at e1 e2
 .refine ⟨?_,?_⟩
  .rw [g41];simp only [je,e1,jH]
  .rw [g30];simp only [je,e2,jH]
 .refine ⟨?_,?_⟩
  .rw [g41];simp only [je,e1,f1,jI]
  .rw [g30];simp only [je,e2,f2,jI]
theorem jey (p:Prf):∀(n i:Nat),Ji p n i < 0-> ∀j,i<=j->j < i+n->jky p j=true
 | 0,i,_,j,h1,h2=>by omega
 | n+1,i,h,j,h1,h2=>by
  unfold Ji at h;by_cases hc:jky p i=true
  .rw [jl hc] at h;by_cases e:j=i
   .rw [e];exact hc
   .exact jey p n (i+1) h j (by omega) (by omega)
  .rw [jo hc] at h;omega
abbrev cn (n:Nat):List A:=[vi (n:Nat)]
def jDm (acc:List Nat):Nat->List Int->Nat
 | d,[]=>d
 | d,x::r=>jDm acc (max d (acc.getD x.toNat 0+1)) r
def dpt (p:Prf):Nat->List Nat
 | 0=>[]
 | i+1=>dpt p i++[jDm (dpt p i) 0 (((p.st[i]?).map Stp.par).getD [])]
theorem pF8 {n:Nat} (h:n<=4194304):jW n 8=true:=by
 unfold jW;exact jR ⟨by omega,by omega⟩
theorem ld1 (s:Stp):ku (.elt (stc s) 1)=some (ints s.par):=rfl
theorem has_eq (l:List Int) (v:Int) (hl:l.length<=9223372036854775807):G 33 [ints l,vi v]=some (vb (decide (v∈l)),[]):=by
 have key:=upto (P:=λi=>jtI (ints l) (vi v) (vi (i:Nat))=some (vb (decide (v∈l.drop i)),[])) (n:=l.length) ?_ ?_ 0 (jE _)
 .rw [g33];simpa only [jP,kj] using key
 .rw [jDA,j4];simp only [je];rw [kx (by simp)]
 .intro i hi ih;have hlt:(i:Int) < ((l.length:Nat):Int):=by omega
  have h5:=jq hi hl;have a1:jh 1 (ints l) (vi (i:Nat))=some (.elt (ci l[i]) 0):=jb hi;rw [jDA,ji hi];generalize l[i]=x at a1;by_cases hv:x=v
  .rw [jR (p:=v∈x::l.drop (i+1)) (by rw [hv];exact JP ..)]
   simp only [je,hlt,a1,qb,hv]
  .have:decide (v∈x::l.drop (i+1))=decide (v∈l.drop (i+1)):=jkm.2 ⟨λh=>(j7.1 h).resolve_left (λe=>hv e.symm),Jw _⟩;rw [this];simp only [je,hlt,a1,qb,hv,h5,ih]
theorem jx7 (n:Nat) (hl:n<=1048576):jw9 (vi (n:Nat))=some (.top,[.sl 1 []]):=by
 rw [jGD];have h0:¬((n:Nat):Int) < 0:=by omega
 have hs:ck ((0:Int) - 0)=some (vi 0):=j8 (by decide) (by decide);have hs2:ck (((n:Nat):Int) - 0)=some (vi (n:Nat)):=by rw [Int.sub_zero];exact j8 (by omega) (by omega)
 by_cases hn:n=0
 .subst hn;simp only [je,hs,hs2,jP]
 .have h1:(0:Int) < ((n:Nat):Int):=by omega
  have hm:=JV (b:=8) (n:=n) (by omega) hl;have p1:pB 0 0 (some (vi 0))=some 0:=rfl;have p2:pB (yU (Jp n [vi 0])) (yq (Jp n [vi 0]) 0) (some (vi 0))=some 0:=Js (n:=0) (jE _);simp only [je,hs,hs2,h0,h1,hm,p1,p2,pF8 (show n<=4194304 by omega),qW,Jv,jdZ]
theorem jsm (a b:List Int) (hl:a.length+b.length<=1048576):jw8 [[ints a],[ints b]]=some (.top,[ints (a++b)]):=by
 have hg:=jx7 (a.length+b.length) hl;have i0:Q4 2 (vi 0)=some 0:=rfl;have i1:Q4 2 (vi 1)=some 1:=rfl;have r0:jan [[ints a],[ints b]] 0 0=some (ints a):=rfl;have r1:jan [[ints a],[ints b]] 1 0=some (ints b):=rfl;have s1:ck ((0:Int)+(a.length:Nat))=some (vi (a.length:Nat)):=by rw [Int.zero_add];exact j8 (by omega) (by omega)
 have s2:ck (((a.length:Nat):Int)+(b.length:Nat))=some (vi ((a.length+b.length:Nat):Int)):=by rw [Qh];exact j8 (by omega) (by omega)
 have n1:¬((a.length:Nat):Int) < 0:=by omega
 have n2:¬((a.length+b.length:Nat):Int) < 0:=by omega
 have t1:ck ((0:Int)+1)=some (vi 1):=j8 (by decide) (by decide);have t2:ck ((1:Int)+1)=some (vi 2):=j8 (by decide) (by decide);have l1:((0:Int) < 2)=True:=by simp
 have l2:((1:Int) < 2)=True:=by simp
 have l3:((2:Nat):Int)=2:=rfl;have e3:jcE (vi 2) (vi 2) (kq (kq [] (a.map ci)) (b.map ci)) [[ints a],[ints b]]=some (.top,[ints (a++b)]):=by
  rw [jnD];simp only [je,kq,KN];show _=some (A.top,[A.sl 1 ((a++b).map ci)]);rw [zz]
 have e2:jcE (vi 2) (vi 1) (kq [] (a.map ci)) [[ints a],[ints b]]=some (.top,[ints (a++b)]):=by
  have hf:jW ((kq [] (a.map ci)).length+b.length) 8=true:=pF8 (by simp only [kq,KN,jK];omega)
  rw [jnD];simp only [je,l2,i1,r1,hf,t2,e3]
 have e1:jcE (vi 2) (vi 0) [] [[ints a],[ints b]]=some (.top,[ints (a++b)]):=by
  have hf:jW a.length 8=true:=pF8 (by omega);rw [jnD];simp only [je,l1,i0,r0,hf,t1,e2]
 have d2:jee (vi ((a.length+b.length:Nat):Int)) (vi 2) (vi 2) [[ints a],[ints b]]=some (.top,[ints (a++b)]):=by
  rw [jnC];simp only [je,hg,l3,e1]
 have d1:jee (vi (a.length:Nat)) (vi 2) (vi 1) [[ints a],[ints b]]=some (.top,[ints (a++b)]):=by
  rw [jnC];simp only [je,l2,i1,r1,s2,n2,t2,d2]
 rw [jGC,jnC];simp only [je,l3,l1,i0,r0,s1,n1,t1,d1]
abbrev km (x:Int):List A:=[vi x,vb true]
theorem jsP (x:Int):∀(l:List Int) (k:Nat),∃j,qR (some .i64) (vi x) (l.map km) k=some (if x∈l then some (j,vb true) else none)
 | [],k=>⟨0,by rw [jo (by simp)];rfl⟩
 | y::l,k=>by
  obtain ⟨j,h⟩:=jsP x l (k+1);have e:eqK (some .i64) (vi x) (vi y)=some (decide (x=y)):=by
   show (if IntKind.i64=IntKind.i64 then some (decide (x=y)) else none)=_;exact jl rfl
  by_cases hxy:x=y
  .refine ⟨k,?_⟩;rw [jR hxy] at e;rw [jl (by rw [hxy];exact JP ..),yH,qR,e]
  .refine ⟨j,?_⟩;rw [kx hxy] at e;rw [yH,qR,e];show qR (some .i64) (vi x) (l.map km) (k+1)=_;rw [h];by_cases hm:x∈l
   .rw [jl hm,jl (Jw _ hm)]
   .rw [jo hm,jo (λh=>(j7.1 h).elim hxy hm)]
theorem jFI (l:List Int) (x:Int):KD (some .i64) false true [vb false] (.mp (l.map km)) (vi x)=some (vb (decide (x∈l))):=by
 show ((some (l.map km)).bind λxs=>(qR (some .i64) (vi x) xs 0).map (jqf false true [vb false]))=_;obtain ⟨j,h⟩:=jsP x l 0;rw [yo,h];by_cases hm:x∈l
 .rw [jl hm,jR hm];rfl
 .rw [jo hm,kx hm];rfl
theorem jHo {l:List Int} {x:Int} (hm:¬x∈l):jeW (some .i64) (l.map km) (vi x) (vb true)=some ((l++[x]).map km):=by
 obtain ⟨j,h⟩:=jsP x l 0;show (qR (some .i64) (vi x) (l.map km) 0).map _=_;rw [h,jo hm,zz];rfl
def jkH (hi:Int):List Int->List Int->Bool
 | _,[]=>true
 | u,x::r=> !decide (x∈u) && (qg 0 hi x && jkH hi (u++[x]) r)
theorem jje (hi:Int):∀(l u:List Int),jkH hi u l=true↔(∀x∈l,qg 0 hi x=true/\ ¬x∈u)/\l.Nodup
 | [],u=>by simp [jkH]
 | x::r,u=>by
  rw [jkH,ju,ju,jje hi r (u++[x]),jha,JO,Yc];constructor
  .rintro ⟨h1,h2,h3,h4⟩;refine ⟨λy hy=> ?_,λhx=>(h3 x hx).2 (by simp),h4⟩;rcases j7.1 hy with rfl|hy
   .exact ⟨h2,h1⟩
   .exact ⟨(h3 y hy).1,λh=>(h3 y hy).2 (by simp [h])⟩
  .rintro ⟨h1,h2,h3⟩;refine ⟨(h1 x (JP ..)).2,(h1 x (JP ..)).1,λy hy=>⟨(h1 y (Jw _ hy)).1,λh=> ?_⟩,h3⟩;rcases zh.1 h with h|h
   .exact (h1 y (Jw _ hy)).2 h
   .rw [zi] at h;rw [h] at hy;exact h2 hy
def srt (l:List Int):Nat->Bool
 | 0=>true
 | i+1=> !decide (l.getD (i+1) 0 < l.getD i 0) && srt l i
theorem jCd (a b:Int):G 70 [vi a,vi b]=some (vb (decide (a < b)),[]):=by
 have n1:∀a,G 93 [vi a]=some (vb false,[]):=λa=>by
  rw [g93];simp only [je]
 rw [g70];simp only [je,n1]
theorem jro (l:List Int) (hl:l.length<=1048576):∀i,i < l.length->jtO (ints l) (vi (i:Nat))=some (vb (srt l i),[])
 | 0,h=>by
  rw [jzy];simp only [je,srt,jP]
 | i+1,h=>by
  have ih:=jro l hl i (by omega);have h0:(0:Int) < ((i+1:Nat):Int):=by omega
  have a1:jh 1 (ints l) (vi ((i+1:Nat):Int))=some (.elt (ci l[i+1]) 0):=jb h;have a2:jh 1 (ints l) (vi (i:Nat))=some (.elt (ci l[i]) 0):=jb (by omega);have c1:ck (((i+1:Nat):Int) - 1)=some (vi (i:Nat)):=by rw [j8 (by omega) (by omega),show ((i+1:Nat):Int) - 1=(i:Int) by omega]
  have e:=jCd l[i+1] l[i];rw [jzy,srt,show l.getD (i+1) 0=l[i+1] by simp [h],show l.getD i 0=l[i] by simp [show i < l.length by omega]];cases hd:decide (l[i+1] < l[i])<;>rw [hd] at e
  .simp only [je,h0,a1,a2,qb,c1,e,ih,jkk,jI]
  .simp only [je,h0,a1,a2,qb,c1,e,jdk,jH]
theorem jwB (l:List Int) (hl:l.length<=1048576):G 44 [ints l]=some (vb (srt l (l.length - 1)),[]):=by
 have c1:ck (((l.length:Nat):Int) - 1)=some (vi (((l.length:Nat):Int) - 1)):=j8 (by omega) (by omega);rw [g44];by_cases h:l.length=0
 .have n0:¬(0:Int) < ((l.length:Nat):Int) - 1:=by omega
  have e0:srt l (l.length - 1)=true:=by rw [h];rfl
  rw [e0];simp only [je,c1];rw [jzy];simp only [je,n0]
 .have e:=jro l hl (l.length - 1) (by omega);rw [show ((l.length - 1:Nat):Int)=((l.length:Nat):Int) - 1 by omega] at e;simp only [je,c1,e]
theorem jAy (l:List Int):∀i,srt l i=true↔ ∀j,j < i->l.getD j 0<=l.getD (j+1) 0
 | 0=>by simp [srt]
 | i+1=>by
  rw [srt,ju,jAy l i,JO,Yc];constructor
  .rintro ⟨h1,h2⟩ j hj;by_cases e:j=i
   .subst e;omega
   .exact h2 j (by omega)
  .intro h;exact ⟨by have:=h i (by omega);omega,λj hj=>h j (by omega)⟩
theorem jCW (l:List Int):srt l (l.length - 1)=true↔l.Pairwise (· <= ·):=by
 rw [jAy,jma];constructor
 .intro h i j hi hj hij;have key:∀d,(hd:i+d < l.length)->l[i]<=l[i+d]:=λd=>by
   induction d with
   | zero=>intro _;exact Int.le_refl _
   | succ d ih=>
    intro hd;have h1:=ih (by omega);have h2:=h (i+d) (by omega);rw [show l.getD (i+d) 0=l[i+d] by simp [show i+d < l.length by omega],show l.getD (i+d+1) 0=l[i+d+1] by simp [show i+d+1 < l.length by omega]] at h2;exact jba h1 h2
  have:=key (j - i) (by omega);simpa only [show i+(j - i)=j by omega] using this
 .intro h j hj;have:=h j (j+1) (by omega) (by omega) (by omega);rw [show l.getD j 0=l[j] by simp [show j < l.length by omega],show l.getD (j+1) 0=l[j+1] by simp [show j+1 < l.length by omega]];exact this
def gtO:Option Int->Int->Bool
 | some y,x=>decide (y < x)
 | none,_=>true
def ris (hi:Int):Option Int->List Int->Bool
 | _,[]=>true
 | p,x::r=>qg 0 hi x && (gtO p x && ris hi (some x) r)
theorem juN (hi:Int):∀(l:List Int) (p:Option Int),ris hi p l=true↔(∀x∈l,qg 0 hi x=true)/\l.Pairwise (· < ·)/\ ∀y,p=some y-> ∀x∈l,y < x
 | [],p=>by simp [ris]
 | x::r,p=>by
  have hm:gtO p x=true↔ ∀y,p=some y->y < x:=by
   cases p with
   | none=>simp [gtO]
   | some y=>simp [gtO]
  rw [ris,ju,ju,juN hi r (some x),hm,J4];constructor
  .rintro ⟨h1,h2,h3,h4,h5⟩;refine ⟨λy hy=> ?_,⟨λy hy=>h5 x rfl y hy,h4⟩,λy hy z hz=> ?_⟩
   .rcases j7.1 hy with rfl|hy
    .exact h1
    .exact h3 y hy
   .rcases j7.1 hz with rfl|hz
    .exact h2 y hy
    .exact Int.lt_trans (h2 y hy) (h5 x rfl z hz)
  .rintro ⟨h1,⟨h2,h3⟩,h4⟩;refine ⟨h1 x (JP ..),λy hy=>h4 y hy x (JP ..),λy hy=>h1 y (Jw _ hy),h3,λy hy z hz=> ?_⟩;cases hy;exact h2 z hz
theorem jwo (l:List Int) (hi:Int) (hl:l.length<=1048576):G 31 [ints l,vi 0,vi hi]=some (vb (ris hi none l),[]):=by
 have key:=upto (P:=λi=>∀p:Option Int,(p=none↔i=0)->(∀m,p=some m-> ∃h:i - 1 < l.length,l[i - 1]=m)->jtH (ints l) (vi 0) (vi hi) (vi (i:Nat))=some (vb (ris hi p (l.drop i)),[])) (n:=l.length) ?_ ?_ 0 (jE _) none (by simp) (λm h=>by cases h)
 .rw [g31];simpa only [jP,kj] using key
 .intro p _ _;rw [jDz,j4];simp only [je,ris]
 .intro i hi' ih p hp hq;have hlt:(i:Int) < ((l.length:Nat):Int):=by omega
  have h5:=jq hi' (by show l.length<=9223372036854775807;omega)
  have a1:jh 1 (ints l) (vi (i:Nat))=some (.elt (ci l[i]) 0):=jb hi';have e1:=yb l[i] 0 hi;have ih:=ih (some l[i]) (by simp) (λm h=>by cases h;exact ⟨by omega,by simp⟩);rw [jDz,ji hi',ris];generalize l[i]=x at a1 e1 ih;cases hn:qg 0 hi x<;>rw [hn] at e1
  .simp only [je,hlt,a1,qb,e1,jH]
  cases p with
  | none=>
   have h0:¬(0:Int) < (i:Int):=by have:=hp.1 rfl;omega
   simp only [je,hlt,a1,qb,e1,h0,h5,ih,gtO,jI]
  | some y=>
   have h0:(0:Int) < (i:Int):=by
    have:i≠0:=λe=>by have:=hp.2 e;cases this
    omega
   obtain ⟨hq1,hq2⟩:=hq y rfl;have c1:ck ((i:Int) - 1)=some (vi ((i - 1:Nat):Int)):=by rw [j8 (by omega) (by omega),show (i:Int) - 1=((i - 1:Nat):Int) by omega]
   have a2:jh 1 (ints l) (vi ((i - 1:Nat):Int))=some (.elt (ci l[i - 1]) 0):=jb hq1;rw [hq2] at a2;by_cases hy:x<=y
   .have hy2:¬y < x:=by omega
    simp only [je,hlt,a1,qb,e1,h0,c1,a2,hy,hy2,gtO,jI,jH]
   .have hy2:y < x:=by omega
    simp only [je,hlt,a1,qb,e1,h0,c1,a2,hy,hy2,h5,ih,gtO,jI]
def jm8 (hi:Int) (q:List Int):List Int->List Int->Bool
 | _,[]=>true
 | u,x::r=>qg 0 hi x && (!decide (x∈q) && (!decide (x∈u) && jm8 hi q (u++[x]) r))
theorem joY (hi:Int) (q:List Int):∀(l u:List Int),jm8 hi q u l=true↔(∀x∈l,qg 0 hi x=true/\ ¬x∈q/\ ¬x∈u)/\l.Nodup
 | [],u=>by simp [jm8]
 | x::r,u=>by
  rw [jm8,ju,ju,ju,joY hi q r (u++[x]),jha,JO,Yc,JO,Yc];constructor
  .rintro ⟨h1,h2,h3,h4,h5⟩;refine ⟨λy hy=> ?_,λhx=>(h4 x hx).2.2 (by simp),h5⟩;rcases j7.1 hy with rfl|hy
   .exact ⟨h1,h2,h3⟩
   .exact ⟨(h4 y hy).1,(h4 y hy).2.1,λh=>(h4 y hy).2.2 (by simp [h])⟩
  .rintro ⟨h1,h2,h3⟩;have hx:=h1 x (JP ..);refine ⟨hx.1,hx.2.1,hx.2.2,λy hy=>⟨(h1 y (Jw _ hy)).1,(h1 y (Jw _ hy)).2.1,λh=> ?_⟩,h3⟩;rcases zh.1 h with h|h
   .exact (h1 y (Jw _ hy)).2.2 h
   .rw [zi] at h;rw [h] at hy;exact h2 hy
theorem jti (hi:Int) (a q:List Int):(jkH hi [] (a++q) && srt q (q.length - 1))=(ris hi none q && jm8 hi q [] a):=by
 rw [jj8,ju,ju,jje,jCW,juN,joY,jbm];constructor
 .rintro ⟨⟨h1,h2,h3,h4⟩,h5⟩;refine ⟨⟨λx hx=>(h1 x (Qg _ hx)).1,?_,λy h=>by cases h⟩,λx hx=>⟨(h1 x (Yd _ hx)).1,λhq=>h4 x hx x hq rfl,by simp⟩,h2⟩;have:=h5.and h3;exact this.imp λ⟨g1,g2⟩=>by omega
 .rintro ⟨⟨h1,h2,_⟩,h3,h4⟩;refine ⟨⟨λx hx=>⟨?_,by simp⟩,h4,?_,λx hx y hy e=>(h3 x hx).2.1 (by rw [e];exact hy)⟩,?_⟩
  .rcases zh.1 hx with hx|hx
   .exact (h3 x hx).1
   .exact h1 x hx
  .exact h2.imp λg=>by omega
  .exact h2.imp λg=>by omega
structure Zs (s:Sch):Prop where
 prf:Pz s.prf
 len:s.act.length+s.pas.length<=1048576
noncomputable def jcX (s:Sch):Bool:=decide (s.prf.st.length<=40) && (Q1 s.prf && (jkH (((s.prf.st.length:Nat):Int) - 1) [] (s.act++s.pas) && srt s.pas (s.pas.length - 1)))
theorem jtx {s:Sch} (hs:Zs s):G 21 [scm s]=some (vb (jcX s),[]):=by
 have hst:=hs.prf.st;have ha:=hs.len;have v1:=(jl2 hs.prf).1;have cat:=jsm s.act s.pas (by omega);have so:=jwB s.pas (by omega);unfold jcX;generalize srt s.pas (s.pas.length - 1)=B at so;have key:joI (vi ((s.act++s.pas).length:Nat)) (vi 0) (cls s.prf.ax) (Jd s.prf.st) (ints s.act) (ints s.pas) (vb s.lost) [] ((s.act++s.pas).map ci)=some (vb (jkH (((s.prf.st.length:Nat):Int) - 1) [] (s.act++s.pas) && B),[]):=by
  have hl:(s.act++s.pas).length<=1048576:=by rw [yn];omega
  generalize s.act++s.pas=l at hl;have key:=upto (P:=λi=>joI (vi (l.length:Nat)) (vi (i:Nat)) (cls s.prf.ax) (Jd s.prf.st) (ints s.act) (ints s.pas) (vb s.lost) ((l.take i).map km) (l.map ci)=some (vb (jkH (((s.prf.st.length:Nat):Int) - 1) (l.take i) (l.drop i) && B),[])) (n:=l.length) ?_ ?_ 0 (jE _)
  .simpa only [jP,kj,Jv,ya] using key
  .rw [jDu,j4,jkH,jI];simp only [je,so]
  .intro i hi ih;have hlt:(i:Int) < ((l.length:Nat):Int):=by omega
   have h5:=jq hi (by show l.length<=9223372036854775807;omega)
   have c1:ck (((s.prf.st.length:Nat):Int) - 1)=some (vi (((s.prf.st.length:Nat):Int) - 1)):=j8 (by omega) (by omega);have i1:Q4 l.length (vi (i:Nat))=some i:=yj hi;have r1:jan (l.map ci) i 0=some (vi l[i]):=by unfold jan;rw [yu,zk hi];rfl
   have e1:=qc l[i] 0 (((s.prf.st.length:Nat):Int) - 1);have lk:=jFI (l.take i) l[i];have pt:=jHo (l:=l.take i) (x:=l[i]);rw [<-List.take_append_getElem hi] at ih;rw [jDu,ji hi,jkH];generalize l[i]=x at r1 e1 lk pt ih;by_cases hm:x∈l.take i
   .rw [jR hm] at lk;rw [jR hm,jdk,jH,jH];simp only [je,hlt,i1,r1,lk]
   .rw [kx hm] at lk;have pt:=pt hm;rw [kx hm,jkk,jI];cases hb:qg 0 (((s.prf.st.length:Nat):Int) - 1) x<;>rw [hb] at e1
    .rw [jH,jH];simp only [je,hlt,i1,r1,lk,c1,e1]
    .rw [jI];simp only [je,hlt,i1,r1,lk,c1,e1,pt,h5,ih]
 rw [g21];by_cases h40:((s.prf.st.length:Nat):Int) > 40
 .rw [kx (p:=s.prf.st.length<=40) (by omega),jH];simp only [je,h40,Ky]
 .rw [jR (p:=s.prf.st.length<=40) (by omega),jI];cases hv:Q1 s.prf<;>rw [hv] at v1
  .rw [jH];simp only [je,h40,v1,Ky]
  .rw [jI];simp only [je,h40,v1,cat,key,Ky]
theorem jty {s:Sch} (hs:Zs s):G 15 [scm s]=some (vb (jcX s),[]):=by
 have hst:=hs.prf.st;have ha:=hs.len;have v2:=(jl2 hs.prf).2;have c1:ck (((s.prf.st.length:Nat):Int) - 1)=some (vi (((s.prf.st.length:Nat):Int) - 1)):=j8 (by omega) (by omega);have ri:=jwo s.pas (((s.prf.st.length:Nat):Int) - 1) (by omega);unfold jcX;rw [jti];have key:joH (vi (s.prf.st.length:Nat)) (vi 0) (cls s.prf.ax) (Jd s.prf.st) (ints s.act) (ints s.pas) (vb s.lost)=some (vb (jm8 (((s.prf.st.length:Nat):Int) - 1) s.pas [] s.act),[]):=by
  have key:=upto (P:=λi=>joH (vi (s.prf.st.length:Nat)) (vi (i:Nat)) (cls s.prf.ax) (Jd s.prf.st) (ints s.act) (ints s.pas) (vb s.lost)=some (vb (jm8 (((s.prf.st.length:Nat):Int) - 1) s.pas (s.act.take i) (s.act.drop i)),[])) (n:=s.act.length) ?_ ?_ 0 (jE _)
  .simpa only [jP,kj,Jv] using key
  .rw [jDr,j4,jm8];simp only [je]
  .intro i hi ih;have hlt:(i:Int) < ((s.act.length:Nat):Int):=by omega
   have h5:=jq hi (by show s.act.length<=9223372036854775807;omega)
   have a1:jh 1 (ints s.act) (vi (i:Nat))=some (.elt (ci s.act[i]) 0):=jb hi;have e1:=yb s.act[i] 0 (((s.prf.st.length:Nat):Int) - 1);have sl:zZ 1 (ints s.act) none (some (vi (i:Nat)))=some (ints (s.act.take i)):=by
    rw [JC (by rw [jK];omega),<-jfm]
   have b1:=has_eq s.pas s.act[i] (by show s.pas.length<=9223372036854775807;omega)
   have b2:=has_eq (s.act.take i) s.act[i] (by show (s.act.take i).length<=9223372036854775807;rw [qD];omega)
   rw [<-List.take_append_getElem hi] at ih;rw [jDr,ji hi,jm8];generalize s.act[i]=x at a1 e1 b1 b2 ih;cases hb:qg 0 (((s.prf.st.length:Nat):Int) - 1) x<;>rw [hb] at e1
   .rw [jH];simp only [je,hlt,a1,qb,c1,e1]
   cases h1:decide (x∈s.pas)<;>rw [h1] at b1
   .cases h2:decide (x∈s.act.take i)<;>rw [h2] at b2
    .rw [jkk,jI,jI,jI];simp only [je,hlt,a1,qb,c1,e1,b1,sl,b2,h5,ih]
    .rw [jdk,jH,z8,z8];simp only [je,hlt,a1,qb,c1,e1,b1,sl,b2]
   .rw [jdk,jH,z8];simp only [je,hlt,a1,qb,c1,e1,b1]
 rw [g15];by_cases h40:((s.prf.st.length:Nat):Int) > 40
 .rw [kx (p:=s.prf.st.length<=40) (by omega),jH];simp only [je,h40,Ky]
 .rw [jR (p:=s.prf.st.length<=40) (by omega),jI];cases hv:Q1 s.prf<;>rw [hv] at v2
  .rw [jH];simp only [je,h40,v2,Ky]
  .rw [jI];cases hr:ris (((s.prf.st.length:Nat):Int) - 1) none s.pas<;>rw [hr] at ri
   .rw [jH];simp only [je,h40,v2,c1,ri,Ky]
   .rw [jI];simp only [je,h40,v2,c1,ri,key,Ky]
theorem Zs.of {s:Sch} (hw:jrc s) (h:jg6 s<=1048576):Zs s:=by
 unfold jg6 at h;exact ⟨Pz.of hw.1 (by omega),by omega⟩
end Go.Proofs.YtbidbdhamhbebaaGreatDoor
