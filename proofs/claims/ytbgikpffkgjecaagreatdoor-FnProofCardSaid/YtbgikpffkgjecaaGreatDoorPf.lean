/- Pf -/
import Derived.Test.YtbgikpffkgjecaaGreatDoorPe
import Derived.Test.YtbgikpffkgjecaaGreatDoorPa
import Derived.Test.YtbgikpffkgjecaaGreatDoorPq
import Derived.Test.YtbgikpffkgjecaaGreatDoorPb
namespace Go.Proofs.YtbgikpffkgjecaaGreatDoor
open Go Go.RowKit Go.Proofs.YtbgikpffkgjecaaGreatDoor.Abs
set_option linter.unusedSimpArgs false
set_option linter.unusedVariables false
set_option maxHeartbeats 1000000
theorem jkS (d:kh) (h:jN d=true):G 116 [cm d]=some (cm (jF d),[]):=by
 obtain ⟨hc,_,_,hnm⟩:=km h;have hl:=JJ hc;have e1:=jlq d hc;have e2:=jdn 89 d hc (zt d) (λn=>jdO) (hc.ren_tz (by decide));have e2:G 163 [cm d,.mp ((Zh 89 0 (zt d)).map kn)]=some (cm (jF d),[]):=by rw [e2,<-apart_eq h];rfl
 have hnd:=jaK d;have hnum:∀i (hi:i < (zt d).length),(zt d)[i]=Kh 88 i:=λi hi=>by
  obtain ⟨j,hj,e,e'⟩:=jdR hnm (jC hi);rw [jkY hnd hi] at e';rw [e,jAn e']
 generalize zt d=ns at *;have key:=upto (P:=λi=>∀m:Nm',(∀n∈ns.drop i,yR m n=none)->m++Zh 89 i (ns.drop i)=Zh 89 0 ns->jmp (strs ns) (vi (ns.length:Nat)) (vi (i:Nat)) (.sl 3 (d.map jG)) (m.map kn) []=some (cm (jF d),[])) (n:=ns.length) ?_ ?_ 0 (ko _) [] (λn _=>rfl) (by rw [kD];rfl)
 ·simp only [kU,ql] at key;rw [jKj];simp only [jd,e1,key]
 ·intro m _ hm;rw [kg,Zh,qv] at hm;subst hm;rw [jy6];simp only [jd,e2]
 ·intro i hi ih m hm hp;have hlt:(i:Int) < ((ns.length:Nat):Int):=by omega
  have h5:=js hi (by show ns.length<=9223372036854775807;omega)
  have ld:kN (.elt (cs ns[i]) 0)=some (sv ns[i]):=rfl;have hd:(ns.drop i).Nodup:=hnd.sublist (List.drop_sublist i ns);rw [ji hi] at hm hd hp;have pt:=jFl (hm ns[i] (K1 ..)) (Kh 89 i);have e3:Ym (sv ns[i]) (some (vi 1)) none=some (sv (Lib.decDigits i)):=by
   rw [hnum i hi];have hlen:(Kh 88 i).length=(Lib.decDigits i).length+1:=rfl;show (if (0:Int)<=1/\(1:Int)<=(((Kh 88 i).length:Nat):Int)/\(((Kh 88 i).length:Nat):Int)<=(((Kh 88 i).length:Nat):Int) then some (sv (((Kh 88 i).take ((((Kh 88 i).length:Nat):Int).toNat)).drop 1)) else none)=_;rw [jg ⟨by omega,by omega,by omega⟩,jgm,jam];rfl
  have e4:=jGL 89 i (by omega);have ih:=ih (m++[(ns[i],Kh 89 i)]) (λn hn'=>by
   rw [jfX,hm n (JR _ hn')];show (if ns[i]=n then _ else none)=none;rw [jf];rintro e;exact (jj9.1 hd).1 (e ▸ hn')) (by rw [yv];exact hp)
  rw [jy6];simp only [jd,hlt,ja hi,ld,e3,e4,pt,h5,ih]
theorem jfL (d:kh) (h:jN d=true):G 143 [cm d]=some (cm (jF d),[]):=by
 obtain ⟨hc,_,_,_⟩:=km h;have e1:=jlr d hc;have e2:=jgO 89 (by decide) d hc;rw [apart_eq h] at e2;rw [jKE];simp only [jd,e1,e2]
theorem jyf (c:kh) (hl:c.length<=1000):jr4 (.sl 3 (c.map jG))=some (.top,[.sl 3 (c.map jG)]):=by
 have e1:jAN (.sl 3 (c.map jG))=some (c.map jG):=rfl;have f:jA c.length 48=true:=ZS (by omega);rw [jF3];cases c with
 | nil=>
  have f0:jA 0 48=true:=ZS (by omega);have hz:nz (yM [])=true:=rfl;have e1:jAN (.sl 3 [])=some []:=rfl;simp only [jd,e1,hz,f0,ql,jx5]
 | cons l r=>
  have hz:nz (yM (List.map jG (l::r)))=false:=rfl;generalize l::r=x at *;simp only [jd,e1,hz,f]
theorem jv3 (c:kh) (hl:c.length<=1000) (i:Nat) (hi:i < c.length):jr3 (vi (i:Nat)) (vi ((i+1:Nat):Int)) (c.map jG)=some (.top,[.sl 3 ((c.eraseIdx i).map jG)]):=by
 have e1:yM (c.map jG)=c.length:=qX jG c;have e2:yi (c.map jG) 0=c.length:=by rw [Jh,kj];rfl
 have hne:¬((i:Nat):Int)=((i+1:Nat):Int):=by omega
 have k1:pB 0 c.length (some (vi (c.length:Nat)))=some c.length:=Jq (kz _);have k2:pB 0 c.length (some (vi ((i+1:Nat):Int)))=some (i+1):=Jq (by omega);have k3:pB 0 (i+1) (some (vi (i:Nat)))=some i:=Jq (by omega);have k4:pB c.length c.length (some (vi (i:Nat)))=some i:=Jq (by omega);have k5:pB c.length c.length none=some c.length:=yg (kz _);have w1:yW (c.map jG) (0+(i+1)) (kP c.length (i+1))=(c.drop (i+1)).map jG:=by
  rw [je3,qO,yd,<-jcA,Zd (by rw [kj,qu];omega)]
 have w2:yM ((c.drop (i+1)).map jG)=c.length - (i+1):=by rw [qX,qu]
 have rm:jly 0 (kP i 0) ((c.drop (i+1)).map jG) (c.map jG)=true:=by
  rw [jAL,qO];exact jQ (by rw [kj,kj,qu];omega)
 generalize hov:qj (c.map jG) (0+kP i 0) ((c.drop (i+1)).map jG)=O at *;have hO:O=(c.eraseIdx i).map jG++(c.map jG).drop (c.length - 1):=by
  rw [<-hov,jad,qO,jak,yd,List.eraseIdx_eq_take_drop_succ,zy,jfr,kj,qu];congr 2;omega
 have hOl:O.length=c.length:=by
  rw [hO,zh,kj,List.length_eraseIdx_of_lt hi,qu,kj];omega
 have k6:pB (kP i 0+(c.length - (i+1))) (yi O 0) (some (vi (c.length:Nat)))=some c.length:=by
  rw [Jh,hOl];exact Jq (by omega)
 have k7:pB 0 c.length (some (nA (kP i 0+(c.length - (i+1)))))=some (c.length - 1):=by
  rw [qO,show i - 0+(c.length - (i+1))=c.length - 1 by omega];exact Jq (by omega)
 have fin:List.take (kP i 0+(c.length - (i+1))) (qj O (0+(c.length - 1)) (Zw (kP c.length (c.length - 1)) [vb false,sv [],.sl 2 []]))=(c.eraseIdx i).map jG:=by
  have hlen:((c.eraseIdx i).map jG).length=c.length - 1:=by rw [kj,List.length_eraseIdx_of_lt hi]
  rw [qO,show i - 0+(c.length - (i+1))=c.length - 1 by omega,jad,yd,yv,ja2 (by rw [Ky,hOl];omega),List.take_take,Nat.min_self,hO,ja2 (by omega),Zd (by omega)]
 rw [jF2];simp only [cev];rw [e1,e2,KZ,kj,k1,yy,k2,yy,k3,yy,jqt,kA hne,yy,YT,yy,Yt,k4,yy,k5,yy,k2,yy,w1,rm,jex,hov,w2,k6,yy,k7,yy,fin]
theorem ZB (c:kh) (hl:c.length<=1000) (i:Nat) (hi:i < c.length):G 119 [cm c,vi (i:Nat)]=some (.sl 3 ((c.eraseIdx i).map jG),[]):=by
 have e1:=jyf c hl;have e2:=jv3 c hl i hi;have r1:∀x:kh,hR 3 (A.top,[.sl 3 (x.map jG)]) 0=some (x.map jG):=λx=>rfl;have h5:=js hi (by show c.length<=9223372036854775807;omega);rw [jKl];simp only [jd,e1,r1,h5,e2]
theorem KJ (c:kh) (hl:c.length<=1000) (i:Nat) (hi:i < c.length):jdu (.sl 3 (c.map jG)) (vi (i:Nat))=some (.top,[.sl 3 ((c.eraseIdx i).map jG)]):=by
 have s1:yq 3 (.sl 3 (c.map jG)) none (some (vi (i:Nat)))=some (.sl 3 ((c.map jG).take i)):=KD (by rw [kj];omega)
 have s2:yq 3 (.sl 3 (c.map jG)) (some (vi ((i+1:Nat):Int))) none=some (.sl 3 ((c.map jG).drop (i+1))):=qd (by rw [kj];omega)
 have hck:ck ((i:Int)+1)=some (vi ((i+1:Nat):Int)):=jE (by omega) (by omega);have f1:jA ((c.map jG).take i).length 48=true:=ZS (by rw [Ky,kj];omega);have f2:jA (((c.map jG).take i).length+((c.map jG).drop (i+1)).length) 48=true:=ZS (by rw [Ky,qu,kj];omega);have fin:jW ((c.map jG).take i) ((c.map jG).drop (i+1))=(c.eraseIdx i).map jG:=by
  rw [List.eraseIdx_eq_take_drop_succ,zy,jfr,jcA];rfl
 rw [jF0];simp only [jd,s1,s2,hck,f1,f2,fin]
theorem jDl (n:Nat) (hn:n<=1000):jr2 (vi (n:Nat))=some (.top,[.sl 3 []]):=by
 have h0:¬((n:Nat):Int) < 0:=by omega
 have c1:ck (0 - 0)=some (vi 0):=jE (n:=0 - 0) (by omega) (by omega);have c2:ck (((n:Nat):Int) - 0)=some (vi (n:Nat)):=by rw [Int.sub_zero];exact jE (by omega) (by omega)
 rw [jF1];by_cases hz:n=0
 ·have hz':¬(0:Int) < ((n:Nat):Int):=by omega
  simp only [jd,h0,c1,c2,hz']
 ·have hz':(0:Int) < ((n:Nat):Int):=by omega
  have k1:pB 0 0 (some (vi 0))=some 0:=rfl;have k2:=jf6 (b:=48) (n:=n) (by omega) (by omega);have k3:jA n 48=true:=ZS (by omega);have k4:∀X:List (List A),pB (yM X) (yi X 0) (some (vi 0))=some 0:=λX=>Jq (n:=0) (ko _);simp only [jd,h0,c1,c2,hz',k1,k2,k3,k4,qO,jal];rfl
theorem jk1 (ls:List kh) (hn:ls.length<=10) (hl:∀c∈ls,c.length<=50):jfy (ls.map QD)=some (.top,[.sl 3 (ls.flatten.map jG)]):=by
 have r1:∀x:kh,hR 3 (A.top,[.sl 3 (x.map jG)]) 0=some (x.map jG):=λx=>rfl;have rp:∀i,(hi:i < ls.length)->J5 (ls.map QD) i 0=some (.sl 3 (ls[i].map jG)):=λi hi=>by unfold J5;simp [hi]
 have hix:∀i,i < ls.length->Zf ls.length (vi (i:Nat))=some i:=λi hi=>zz hi;have hend:jbq (vi (ls.length:Nat)) (vi 0) [] (ls.map QD)=some (.top,[.sl 3 (ls.flatten.map jG)]):=by
  have key:=upto (P:=λi=>∀R:kh,R.length<=50 * i->R++(ls.drop i).flatten=ls.flatten->jbq (vi (ls.length:Nat)) (vi (i:Nat)) (R.map jG) (ls.map QD)=some (.top,[.sl 3 (ls.flatten.map jG)])) (n:=ls.length) ?_ ?_ 0 (ko _) [] (ko _) (by rw [kD];rfl)
  ·exact key
  ·intro R _ hR;rw [kg,List.flatten_nil,qv] at hR;rw [jpS,hR];simp only [jd]
  ·intro i hi ih R hRl hR;have hlt:(i:Int) < ((ls.length:Nat):Int):=by omega
   have hck:ck ((i:Int)+1)=some (vi ((i+1:Nat):Int)):=jE (by omega) (by omega);have hc:=hl _ (jC hi);have hf:jA (R.length+ls[i].length) 48=true:=ZS (by omega);have ha:jW (R.map jG) (ls[i].map jG)=(R++ls[i]).map jG:=by rw [zy];rfl
   have:=ih (R++ls[i]) (by rw [zh];omega) (by rw [yv,<-J6,<-ji hi];exact hR)
   rw [jpS];simp only [jd,hlt,hix i hi,rp i hi,hf,ha,hck,this]
 have key:=upto (P:=λi=>∀z:Nat,z<=50 * i->jeb (vi (z:Nat)) (vi (ls.length:Nat)) (vi (i:Nat)) (ls.map QD)=some (.top,[.sl 3 (ls.flatten.map jG)])) (n:=ls.length) ?_ ?_ 0 (ko _) 0 (ko _)
 ·rw [jFV,KZ,kj];exact key
 ·intro z hz;have e:=jDl z (by omega);have r0:hR 3 (A.top,[.sl 3 []]) 0=some []:=rfl;rw [jpR];simp only [jd,e,r0,hend]
 ·intro i hi ih z hz;have hlt:(i:Int) < ((ls.length:Nat):Int):=by omega
  have hck:ck ((i:Int)+1)=some (vi ((i+1:Nat):Int)):=jE (by omega) (by omega);have hc:=hl _ (jC hi);have c1:ck ((z:Int)+((ls[i].length:Nat):Int))=some (vi ((z+ls[i].length:Nat):Int)):=jE (by omega) (by omega);have hneg:¬((z+ls[i].length:Nat):Int) < 0:=by omega
  have:=ih (z+ls[i].length) (by omega);rw [jpR];simp only [jd,hlt,hix i hi,rp i hi,c1,hneg,hck,this]
def LN (l:kh):Prop:=l.length<=40/\ ∀x∈l,Bx x.2/\nodes x.2<=100
theorem LN.app {s:jw} (hs:jL s=true) {l:kh} (h:LN l):∀x∈l.map (λx=>(x.1,Go.Proofs.YtbgikpffkgjecaaGreatDoor.sub s x.2)),Bx x.2/\Tz x.2:=λx hx=>by
 obtain ⟨y,hy,rfl⟩:=zN.1 hx;have hb:=(h.2 y hy).1;exact ⟨hb.sub hs,KN.sub_tz hs hb.ax (by have:=(h.2 y hy).2;omega)⟩
theorem jkT {s:jw} {l c:kh} (h:YE s l=some c):CN c/\Asc cmpL c:=⟨(qF (jav h).1).1,(jav h).2⟩
theorem jxX (s:jw) (hs:jL s=true) (l:kh) (h:LN l):G 132 [sb s,.sl 3 (l.map jG)]=Jz (YE s l):=by
 have hl:=h.1;have happ:=h.app hs;have e1:=jgE (l.map λx=>(x.1,sub s x.2)) (by rw [kj];omega) (λx hx=>(happ x hx).1.rx) λx hx=>(happ x hx).2;have e2:=jpD (yL cmpL (l.map λx=>(x.1,sub s x.2))) (by have:=Q6 cmpL (l.map λx=>(x.1,sub s x.2));rw [kj] at this;omega) λx hx=>(happ x (Yx.1 hx)).2;generalize hd:l.map (λx=>(x.1,sub s x.2))=d at *;have hdl:d.length=l.length:=by rw [<-hd,kj]
 have key:=upto (P:=λi=>jmv (.sl 3 (l.map jG)) (vi (l.length:Nat)) (vi (i:Nat)) (K8 s) ((d.take i).map jG) []=Jz (if ((l.drop i).all λx=>jD (sub s x.2)) && y8 (yL cmpL d) then some (yL cmpL d) else none)) (n:=l.length) ?_ ?_ 0 (ko _)
 ·simp only [kU,jal,ql,kD] at key;unfold YE;rw [hd,<-key,jKv];simp only [jd]
 ·rw [jzf,<-hdl,jam,hdl,kg,QO,jR];rw [<-hdl];cases hv:y8 (yL cmpL d)<;>rw [hv] at e2
  ·rw [jf j7] at e2 ⊢;have e2:G 181 [cm (yL cmpL d)]=some (.tup [cz,vb false],[]):=e2;simp only [jd,e1,e2];rfl
  ·rw [jg rfl] at e2 ⊢;have e2:G 181 [cm (yL cmpL d)]=some (.tup [cm (yL cmpL d),vb true],[]):=e2;simp only [jd,e1,e2];rfl
 ·intro i hi ih;have hi2:i < d.length:=by omega
  have hlt:(i:Int) < ((l.length:Nat):Int):=by omega
  have h5:=js hi (by show l.length<=9223372036854775807;omega)
  have hb:=h.2 _ (jC hi);have e3:=yH s hs l[i].2 hb.1.ax (by omega);have hdi:d[i]=(l[i].1,sub s l[i].2):=by simp only [<-hd,jcs]
  have ta:=Y7 (f:=jG) hi2;have tl:=take_len (f:=jG) (Qc hi2);have hf:jA (i+1) 48=true:=ZS (by omega);rw [hdi] at ta;rw [jzf,ji hi,yU];cases hsm:jD (sub s l[i].2)<;>rw [hsm] at e3
  ·rw [jK,jK,jf j7];have e3:G 123 [sb s,tm l[i].2]=some (.tup [.agg [sv [],.sl 2 []],vb false],[]):=e3;simp only [jd,hlt,ja hi,zs,e3];rfl
  ·rw [jR];have e3:G 123 [sb s,tm l[i].2]=some (.tup [tm (sub s l[i].2),vb true],[]):=e3;generalize (d.take i).map jG=R at *;generalize sub s l[i].2=u at *;rw [<-ih];simp only [jd,hlt,ja hi,zs,e3,tl,hf,ta,h5]
theorem jxY (s:jw) (hs:jL s=true) (l:kh) (h:LN l):G 195 [sb s,.sl 3 (l.map jG)]=Jz (YE s l):=by
 have hl:=h.1;have happ:=h.app hs;have e1:=Q4 (l.map λx=>(x.1,sub s x.2)) (by rw [kj];omega) λx hx=>(happ x hx).2;have e2:=Q3 (yL cmpL (l.map λx=>(x.1,sub s x.2))) (by have:=Q6 cmpL (l.map λx=>(x.1,sub s x.2));rw [kj] at this;omega) λx hx=>(happ x (Yx.1 hx)).2;generalize hd:l.map (λx=>(x.1,sub s x.2))=d at *;have hdl:d.length=l.length:=by rw [<-hd,kj]
 have ld:∀l:Lt,kN (.elt (jG l) 0)=some (vb l.1):=λl=>rfl;have ad:∀(l:Lt) (n:Nat),qi (.elt (jG l) 0) n=some (.elt (jG l) n):=λl n=>by rw [qV,yd]
 have ld2:∀l:Lt,ky 2 (.elt (jG l) 1)=some (tm l.2):=λl=>rfl;have key:=upto (P:=λi=>jmP (.sl 3 (l.map jG)) (vi (i:Nat)) (K8 s) ((d.take i).map jG) []=Jz (if ((l.drop i).all λx=>jD (sub s x.2)) && y8 (yL cmpL d) then some (yL cmpL d) else none)) (n:=l.length) ?_ ?_ 0 (ko _)
 ·simp only [kU,jal,ql,kD] at key;unfold YE;rw [hd,<-key,jLe];simp only [jd]
 ·have hlt:¬((l.length:Nat):Int) < ((l.length:Nat):Int):=by omega
  rw [jzN,Zd (by omega),kg,QO,jR];cases hv:y8 (yL cmpL d)<;>rw [hv] at e2
  ·rw [jf j7];simp only [jd,e1,e2];rfl
  ·rw [jg rfl];simp only [jd,e1,e2];rfl
 ·intro i hi ih;have hi2:i < d.length:=by omega
  have hlt:(i:Int) < ((l.length:Nat):Int):=by omega
  have h5:=js hi (by show l.length<=9223372036854775807;omega)
  have hb:=h.2 _ (jC hi);have tz:=hb.1.tz (by omega);have tz2:=KN.sub_tz hs hb.1.ax (by omega);have e3:=Ku s (yT hs).sz l[i].2 tz;have e4:=jlf (sub s l[i].2) tz2.wf tz2;rw [(hb.1.sub hs).atom] at e4;have hdi:d[i]=(l[i].1,sub s l[i].2):=by simp only [<-hd,jcs]
  have ta:=Y7 (f:=jG) hi2;have tl:=take_len (f:=jG) (Qc hi2);have hf:jA (i+1) 48=true:=ZS (by omega);rw [hdi] at ta;rw [jzN,ji hi,yU];cases hsm:jD (sub s l[i].2)<;>rw [hsm] at e4
  ·rw [jK,jK,jf j7];simp only [jd,hlt,ja hi,ad,ld2,e3,e4];rfl
  ·rw [jR];generalize (d.take i).map jG=R at *;generalize sub s l[i].2=u at *;rw [<-ih];simp only [jd,hlt,ja hi,ad,ld,ld2,e3,e4,tl,hf,ta,h5]
theorem ZP (s:jw) (hs:jL s=true) (l:kh) (h:LN l):G 90 [sb s,.sl 3 (l.map jG)]=Jz (qZ s l):=by
 have e1:=jxX s hs l h;unfold qZ;rw [g90];cases ha:YE s l with
 | none=>
  rw [ha] at e1;have e1:G 132 [sb s,.sl 3 (l.map jG)]=some (.tup [cz,vb false],[]):=e1;simp only [jd,e1];rfl
 | some c=>
  rw [ha] at e1;have e1:G 132 [sb s,.sl 3 (l.map jG)]=some (.tup [cm c,vb true],[]):=e1;have hc:=(jkT ha).1;have e2:=jnQ c hc;have e3:=yK (normC c) (by have:=hc.normC.1;omega) hc.normC.tz;rw [yy];cases hn:jN (normC c)<;>rw [hn] at e3
  ·rw [jf j7];simp only [jd,e1,e2,e3];rfl
  ·rw [jg rfl];simp only [jd,e1,e2,e3];rfl
theorem KU (s:jw) (hs:jL s=true) (l:kh) (h:LN l):G 145 [sb s,.sl 3 (l.map jG)]=Jz (qZ s l):=by
 have e1:=jxY s hs l h;unfold qZ;rw [jKG];cases ha:YE s l with
 | none=>
  rw [ha] at e1;have e1:G 195 [sb s,.sl 3 (l.map jG)]=some (.tup [cz,vb false],[]):=e1;simp only [jd,e1];rfl
 | some c=>
  rw [ha] at e1;have e1:G 195 [sb s,.sl 3 (l.map jG)]=some (.tup [cm c,vb true],[]):=e1;obtain ⟨hc,hasc⟩:=jkT ha;have e2:=jgN c hc hasc;have e3:=QF (normC c) hc.normC;rw [yy];unfold jN;cases hv:y8 (normC c)<;>rw [hv] at e2
  ·rw [jK,jf j7];simp only [jd,e1,e2];rfl
  ·rw [jR];cases hn:KT (normC c)<;>rw [hn] at e3
   ·rw [jf j7];simp only [jd,e1,e2,e3];rfl
   ·rw [jg rfl];simp only [jd,e1,e2,e3];rfl
theorem zW (r:Option kh):∃(c:kh) (b:Bool),Jz r=some (.tup [cm c,vb b],[]):=by
 cases r with
 | none=>exact ⟨[],false,rfl⟩
 | some c=>exact ⟨c,true,rfl⟩
theorem jcS (r:Option jw):∃(u:jw) (b:Bool),yn r=some (.tup [sb u,vb b],[])/\(b=true->r=some u)/\(b=false->r=none):=by
 cases r with
 | none=>exact ⟨[],false,rfl,(λh=>by cases h),λ_=>rfl⟩
 | some u=>exact ⟨u,true,rfl,(λ_=>rfl),λh=>by cases h⟩
def jMR (f g:FuncId) (args:List A):Prop:=∃r:Option kh,G f args=Jz r/\G g args=Jz r/\ ∀x,r=some x->jN x=true
def Yi (c:kh) (i:Int):Bool:=qx 0 (((c.length:Nat):Int) - 1) i
theorem KB {c:kh} {i:Int} (h:Yi c i=true):∃k:Nat,i=(k:Int)/\k < c.length:=by
 unfold Yi qx at h;rw [jy,kM,kM] at h;exact ⟨i.toNat,by omega,by omega⟩
theorem yb (c:kh) (hl:c.length<=1000) (i:Int):G 115 [cm c,vi i]=some (vb (Yi c i),[]):=by
 have c1:ck (((c.length:Nat):Int) - 1)=some (vi (((c.length:Nat):Int) - 1)):=jE (by omega) (by omega);have e:=qh i 0 (((c.length:Nat):Int) - 1);rw [jKi];simp only [jd,c1,e];rfl
theorem LN.erase {c:kh} (h:CN c) (i:Nat):LN (c.eraseIdx i):=⟨by have:=jj8 c i;have:=h.1;omega,λx hx=>by
 have:=h.2 x (List.mem_of_mem_eraseIdx hx);exact ⟨this.1,by omega⟩⟩
theorem LN.append {a b:kh} (ha:CN a) (hb:CN b) (i k:Nat):LN (a.eraseIdx i++b.eraseIdx k):=⟨by
 have:=jj8 a i;have:=jj8 b k;have:=ha.1;have:=hb.1;rw [zh];omega,λx hx=>by
 rcases kZ.1 hx with hx|hx
 ·exact (LN.erase ha i).2 x hx
 ·exact (LN.erase hb k).2 x hx⟩
theorem Qh (l:Lt):kN (.elt (jG l) 0)=some (vb l.1):=rfl
theorem Yr (l:Lt) (n:Nat):qi (.elt (jG l) 0) n=some (.elt (jG l) n):=by rw [qV,yd]
theorem ldT (l:Lt):ky 2 (.elt (jG l) 1)=some (tm l.2):=rfl
theorem hRl (x:kh):hR 3 (A.top,[.sl 3 (x.map jG)]) 0=some (x.map jG):=rfl
theorem jvW (d:kh) (n:Nat) (h:n < (jF d).length) (h':n < d.length):(jF d)[n].1=d[n].1:=by simp only [jF,jcs]
theorem ldA (l:Lt):kN (.elt (jG l) 2)=some (jH l.2.args):=rfl
theorem QV (l:Lt):qi (.elt (jG l) 1) 1=some (.elt (jG l) 2):=rfl
theorem jbL (l:Lt) (b:Bool):G 147 [ltm l,vb b]=some (vb (decide (l.1=b) && decide (l.2.name = [61])),[]):=by
 rw [jKH];by_cases h:l.1=b
 ·rw [jQ h,jR];simp only [jd,h]
 ·rw [kA h,jK];simp only [jd,h]
theorem jpn {t:T} (hb:Bx t) (he:t.name = [61]) (hn:nodes t<=30):t.args.length=2/\zS (YF t)=true/\zS (QC t)=true/\nodes (YF t)<=30/\nodes (QC t)<=30/\jl 2 (jH t.args) (vi 0)=some (.elt (jo (YF t)) 0)/\jl 2 (jH t.args) (vi 1)=some (.elt (jo (QC t)) 0):=by
 rcases hb with hb|hb
 rotate_left
 ·rw [he] at hb;exact absurd hb.1 (by decide)
 obtain ⟨f1,f2,f3,f4⟩:=Zk hb.2.1;have g1:=Jy f3;have g2:=Jy f4;exact ⟨hb.2.1,hb.2.2 _ f3,hb.2.2 _ f4,by omega,by omega,f1,f2⟩
theorem qN (n:Int):kN (.elt (ci n) 0)=some (vi n):=rfl
theorem jnr (n:Nat) (x:Int):qx 0 (((n:Nat):Int) - 1) x=decide (0<=x/\x < (n:Int)):=by
 unfold qx;rw [<-Bool.decide_and];exact jgo.2 ⟨λh=>⟨h.1,by omega⟩,λh=>⟨h.1,by omega⟩⟩
theorem jFL (t:T) (p:List Int) (ht:Tz t) (hl:p.length<=1048576):G 121 [tm t,ints p]=outT (atI p t):=by
 have key:=upto (P:=λi=>∀t:T,Tz t->jmt (ints p) (vi (p.length:Nat)) (vi (i:Nat)) (sv t.name) (jH t.args) (sv []) []=outT (atI (p.drop i) t)) (n:=p.length) ?_ ?_ 0 (ko _) t ht
 ·simp only [kU,kD] at key;rw [jKn];simp only [jd,key]
 ·intro t ht;rw [jzc,kg,atI];simp only [jd];rfl
 ·intro i hi ih t ht;have hz:=ht;unfold Tz at hz;rw [kH] at hz;have hlt:(i:Int) < ((p.length:Nat):Int):=by omega
  have h5:=js hi (by show p.length<=9223372036854775807;omega)
  have c1:ck (((t.args.length:Nat):Int) - 1)=some (vi (((t.args.length:Nat):Int) - 1)):=jE (by omega) (by omega);have e1:=qh p[i] 0 (((t.args.length:Nat):Int) - 1);rw [jnr] at e1;have ix:=Ki hi;rw [jzc,ji hi,atI];by_cases hc:0<=p[i]/\p[i] < (t.args.length:Int)
  ·rw [jQ hc] at e1;rw [jg hc];have hn:p[i].toNat < t.args.length:=by omega
   have ix2:=ja (k:=2) (f:=jo) hn;rw [show ((p[i].toNat:Nat):Int)=p[i] by omega] at ix2;rw [qo hn];have:=ih t.args[p[i].toNat] (ht.args _ (jC hn));simp only [jd,hlt,ix,qN,c1,e1,ix2,je,h5,this]
  ·rw [kA hc] at e1;rw [jf hc];simp only [jd,hlt,ix,qN,c1,e1];rfl
theorem jFM (t:T) (p:List Int) (ht:Tz t) (hl:p.length<=1048576):G 148 [tm t,ints p]=outT (atI p t):=by
 have key:=upto (P:=λi=>∀t:T,Tz t->jh2 (ints p) (vi (i:Nat)) (sv t.name) (jH t.args) (sv []) []=outT (atI (p.drop i) t)) (n:=p.length) ?_ ?_ 0 (ko _) t ht
 ·simp only [kU,kD] at key;rw [jIm];simp only [jd,key]
 ·intro t ht;have e1:=Z5 t ht;rw [jnx,kg,atI];simp only [jd,e1];rfl
 ·intro i hi ih t ht;have hz:=ht;unfold Tz at hz;rw [kH] at hz;have hlt:(i:Int) < ((p.length:Nat):Int):=by omega
  have h5:=js hi (by show p.length<=9223372036854775807;omega)
  have c1:ck (((t.args.length:Nat):Int) - 1)=some (vi (((t.args.length:Nat):Int) - 1)):=jE (by omega) (by omega);have e1:=yx p[i] 0 (((t.args.length:Nat):Int) - 1);rw [jnr] at e1;have ix:=Ki hi;rw [jnx,ji hi,atI];by_cases hc:0<=p[i]/\p[i] < (t.args.length:Int)
  ·rw [jQ hc] at e1;rw [jg hc];have hn:p[i].toNat < t.args.length:=by omega
   have ix2:=ja (k:=2) (f:=jo) hn;rw [show ((p[i].toNat:Nat):Int)=p[i] by omega] at ix2;rw [qo hn];have:=ih t.args[p[i].toNat] (ht.args _ (jC hn));simp only [jd,hlt,ix,qN,c1,e1,ix2,je,h5,this]
  ·rw [kA hc] at e1;rw [jf hc];simp only [jd,hlt,ix,qN,c1,e1];rfl
theorem jyZ (q:List Nat):ints (q.map λn:Nat=>(n:Int))=pln q:=by
 show A.sl 1 ((q.map _).map ci)=_;rw [qa];rfl
theorem jpg (t:T) (ht:Tz t):jfz (sv t.name) (jH t.args)=some (.top,[sv t.name,jH t.args]):=by
 have hz:=ht;unfold Tz at hz;rw [kH] at hz;have e1:=jaB t.args (by omega) λu hu=>JH u (ht.args u hu);have r1:hR 2 (A.top,[jH t.args]) 0=some (t.args.map jo):=rfl;rw [jx6];simp only [jd,e1,r1]
theorem jg1 (s:T) (hs:Tz s):∀(p:List Nat) (t:T),Tz t->okP p t->p.length<=2000000->G 125 [tm t,pln p,tm s]=some (tm (ze s p t),[])
 | [],t,_,_,_=>by
  have e1:=jpg s hs;have hz:(((0:Nat):Int)=0)=True:=by simp
  rw [jIk,ze];simp only [jd,hz,e1,ql,jM]
 | i::p,t,ht,hp,hl=>by
  obtain ⟨h1,h2⟩:=hp;have e:t.args.getD i (.mk [] [])=t.args[i]:=qo h1;rw [e] at h2;have e1:=jpg t ht;have e2:=jg1 s hs p t.args[i] (ht.args _ (jC h1)) h2 (by rw [zk] at hl;omega);have hz:¬((p.length+1:Nat):Int)=0:=by omega
  have i0:jl 1 (pln (i::p)) (vi 0)=some (.elt [vi (i:Nat)] 0):=YU (p:=i::p) (i:=0) (by simp);have sl:yq 1 (pln (i::p)) (some (vi 1)) none=some (pln p):=by
   have:=qd (k:=1) (xs:=(i::p).map λn:Nat=>[vi (n:Nat)]) (i:=1) (by simp);exact this
  have ix:Zf t.args.length (vi (i:Nat))=some i:=zz h1;have rg:jac (t.args.map jo) i=some (jo t.args[i]):=by unfold jac;simp [h1]
  have co:yO (jo t.args[i]) 0 [sv (ze s p t.args[i]).name,jH (ze s p t.args[i]).args]=jo (ze s p t.args[i]):=by rw [kG,kG];rfl
  have rs:qg (t.args.map jo) i (jo (ze s p t.args[i]))=(t.args.set i (ze s p t.args[i])).map jo:=by unfold qg;rw [jct]
  have ll:(zn (pln (i::p)))=some (vi ((p.length+1:Nat):Int)):=by rw [jqG];simp only [jd]
  rw [jIk,ze,e];simp only [jd,ll,hz,e1,i0,ja h1,je,sl,e2,ix,rg,co,rs,jM];rfl
theorem jdS {t:T} (hk:zS t=true) (hn:nodes t<=30):Tz t/\Exx t:=⟨KN.tz (Or.inl hk) (by omega),Or.inl hk,by omega⟩
theorem jc4 {s:jw} (hs:jL s=true) {t:T} (hk:zS t=true):zl (sub s t)=jD (sub s t):=by
 unfold zl;rw [Y5 (J2 hs) t hk,ZC]
noncomputable def rwL (rs:List T):kh->Option kh
 | []=>some []
 | x::r=>(match rwN rs false 51 0 x.2 with
  | none=>none
  | some q=>(rwL rs r).map ((x.1,q.1)::·))
theorem jq7 {rs:List T} {c:kh} {i:Nat} (h:i < c.length):rwL rs (c.drop i)=(match rwN rs false 51 0 c[i].2 with|none=>none|some q=>(rwL rs (c.drop (i+1))).map ((c[i].1,q.1)::·)):=by
 rw [ji h];rfl
noncomputable def jeD (rs:List T) (R:kh) (l:kh):Option kh:=(rwL rs l).bind λr=>qZ [] (R++r)
structure Mdl where
 M:List UInt8->List Int->Int
 Q:List UInt8->List Int->Bool
 good:Int->Prop
 ok:∀n vs,good (M n vs)
def qR (m:Mdl) (e:List UInt8->Int) (t:T):Bool:=if t.name = [61]/\t.args.length=2 then decide (val m.M e (JD t)=val m.M e (Zb t)) else m.Q t.name (t.args.map (val m.M e))
def clV (m:Mdl) (e:List UInt8->Int) (c:kh):Prop:=∃l∈c,qR m e l.2=l.1
def joL (m:Mdl) (e:List UInt8->Int):Prop:=∀x,m.good (e x)
def trM (m:Mdl) (c:kh):Prop:=∀e,joL m e->clV m e c
def Sd (ps:List kh) (x:kh):Prop:=∀m:Mdl,(∀c∈ps,trM m c)->trM m x
theorem jnd {t:T} (h:t.args.length=2):t.args = [JD t,Zb t]:=by
 obtain ⟨n,us⟩:=t
 match us,h with
 | [a,b],_=>rfl
theorem YM {m:Mdl} {e e':List UInt8->Int} {a b:T} (hn:a.name=b.name) (hv:a.args.map (val m.M e)=b.args.map (val m.M e')):qR m e a=qR m e' b:=by
 have hl:a.args.length=b.args.length:=by have:=congrArg List.length hv;simpa using this
 unfold qR;rw [hn,hl];by_cases c:b.name = [61]/\b.args.length=2
 ·rw [jg c,jg c];have ha:=jnd (t:=a) (by rw [hl];exact c.2);have hb:=jnd c.2;rw [ha,hb] at hv;simp only [zf,ql,Qd] at hv;rw [hv.1,hv.2.1]
 ·rw [jf c,jf c,hv]
section
variable (m:Mdl)
theorem jyR (u:jw) (e:List UInt8->Int) {t:T} (h:Bx t):qR m e (sub u t)=qR m (λx=>val m.M e (Js u x)) t:=by
 have hv:=h.nv;refine YM (jcj hv) ?_;rw [jag hv,qa];exact K3 λa ha=>jfm u e a (h.args a ha)
theorem ZO {e:List UInt8->Int} (he:joL m e) (u:jw):joL m (λx=>val m.M e (Js u x)):=λ_=>jfl m.ok he _
theorem jGf {u:jw} {e:List UInt8->Int} {l:kh} (hb:∀y∈l,Bx y.2) (h:clV m (λx=>val m.M e (Js u x)) l):clV m e (l.map λx=>(x.1,sub u x.2)):=by
 obtain ⟨x,hx,hh⟩:=h;exact ⟨(x.1,sub u x.2),zN.2 ⟨x,hx,rfl⟩,by show qR m e (sub u x.2)=x.1;rw [jyR m u e (hb x hx)];exact hh⟩
theorem jEh {f:List UInt8->List UInt8} (hf:∀n,jp n=true->jp (f n)=true) (e:List UInt8->Int):∀t:T,zS t=true->val m.M e (zx f t)=val m.M (λx=>e (f x)) t:=by
 refine T.ind λt ih=> ?_;intro ht;rw [Qv];cases hv:jp t.name with
 | true=>
  rw [jg rfl,jc1 (t:=t) ht hv,QK];show (if ([]:List T).isEmpty && upN (f t.name) then e (f t.name) else _)=_;rw [jhL (hf _ hv)];rfl
 | false=>
  have hs:=ja0 (jf1 ht hv);rw [jf j7,Qy (t:= .mk t.name (t.args.map (zx f))) hs,Qy (t:=t) hs];show m.M t.name ((t.args.map (zx f)).map (val m.M e))=_;rw [qa];exact congrArg _ (K3 λa ha=>ih a ha (zj ht a ha))
theorem jyQ {f:List UInt8->List UInt8} (hf:∀n,jp n=true->jp (f n)=true) (e:List UInt8->Int) {t:T} (h:Bx t):qR m e (zx f t)=qR m (λx=>e (f x)) t:=by
 have hv:=h.nv;refine YM (jcb hv) ?_;rw [jae hv,qa];exact K3 λa ha=>jEh m hf e a (h.args a ha)
variable {m}
theorem jBz {f:List UInt8->List UInt8} (hf:∀n,jp n=true->jp (f n)=true) {c:kh} (hb:∀y∈c,Bx y.2) (h:trM m c):trM m (c.map λl=>(l.1,zx f l.2)):=by
 intro e he;obtain ⟨x,hx,hh⟩:=h (λx=>e (f x)) λx=>he _;exact ⟨(x.1,zx f x.2),zN.2 ⟨x,hx,rfl⟩,by show qR m e (zx f x.2)=x.1;rw [jyQ m hf e (hb x hx)];exact hh⟩
theorem jvE {l:kh} (h:trM m l):trM m (yL cmpL l):=λe he=>by
 obtain ⟨x,hx,hh⟩:=h e he;exact ⟨x,Yx.2 hx,hh⟩
theorem jo7 {p:UInt8} (hp:upc p=true) {c:kh} (hc:CN c):∀n,jp n=true->jp (zH p (zt c) n)=true:=λn hn=>jfO hp (by have:=JJ hc;omega) hn
theorem jEe {p:UInt8} (hp:upc p=true) {c:kh} (hc:CN c) (h:trM m c):trM m (renC p c):=jvE (jBz (jo7 hp hc) (λy hy=>(hc.2 y hy).1) h)
theorem jrq:∀(k:Nat) {c:kh},CN c->trM m c->trM m (normF k c)
 | 0,_,_,h=>h
 | k+1,c,hc,h=>by
  rw [normF];split
  ·exact h
  ·exact jrq k (hc.renC (by decide)) (jEe (by decide) hc h)
theorem jrp {d:kh} (hd:jN d=true) (h:trM m d):trM m (jF d):=jBz (jo7 (by decide) (km hd).1) (λy hy=>((km hd).1.2 y hy).1) h
theorem je8 {u:jw} {l x:kh} (hx:qZ u l=some x) (hb:∀y∈l,Bx y.2) (hl:∀e,joL m e->clV m (λx=>val m.M e (Js u x)) l):trM m x:=by
 unfold qZ at hx;rw [zI] at hx;obtain ⟨d,hd,hx⟩:=hx;have hv:=(jav hd).1;split at hx
 ·cases hx;refine jrq 10 (qF hv).1 ?_;unfold YE at hd;split at hd
  ·cases hd;exact jvE λe he=>jGf m hb (hl e he)
  ·cases hd
 ·cases hx
end
def jna (M:List UInt8->List Int->Int) (e:List UInt8->Int) (s:jw):Prop:=∀q∈s,e q.1=val M e q.2
section
variable {M:List UInt8->List Int->Int} {e:List UInt8->Int}
theorem jBf {s:jw} (h:jna M e s) {n:List UInt8} (hn:jp n=true):val M e (Js s n)=e n:=by
 rw [Js];cases hl:look s n with
 | some r=>exact (h _ (JY hl)).symm
 | none=>
  show val M e (.mk n [])=e n;rw [QK];show (if ([]:List T).isEmpty && upN n then e n else _)=_;rw [jhL hn];rfl
theorem jn9 {s:jw} (h:jna M e s) {t:T} (ht:zS t=true):val M e (sub s t)=val M e t:=by
 rw [jfm s e t ht];exact jl6 t ht λx hx=>jBf h (jrG t hx)
theorem jBH {a b:T} (ha:zS a=true) (hb:zS b=true) (va:jp a.name=false) (vb:jp b.name=false) (hn:a.name=b.name) (hv:a.args.map (val M e)=b.args.map (val M e)):val M e a=val M e b:=by
 rw [Qy (t:=a) (ja0 (jf1 ha va)),Qy (t:=b) (ja0 (jf1 hb vb)),hn,hv]
theorem joq:∀ {us bs:List T},us.length=bs.length->(∀p∈us.zip bs,val M e p.1=val M e p.2)->us.map (val M e)=bs.map (val M e)
 | [],[],_,_=>rfl
 | a::us,b::bs,hl,h=>by
  rw [zf,zf,h (a,b) (by simp),joq (by simpa using hl) λp hp=>h p (by simp [hp])]
 | [],b::bs,hl,_=>by cases hl
 | a::us,[],hl,_=>by cases hl
theorem jrw:∀(k:Nat) (s:jw) (es:JV) {u:jw},ZK s es->(∀p∈es,zS p.1=true/\zS p.2=true)->zE k s es=some (some u)->jna M e u->jna M e s/\ ∀p∈es,val M e p.1=val M e p.2:=by
 intro k;induction k with
 | zero=>
  intro s es u h ho hu hs;cases es with
  | nil=>simp only [zE,zg] at hu;rw [hu];exact ⟨hs,λp hp=>by cases hp⟩
  | cons p es=>simp [zE] at hu
 | succ k ih=>
  intro s es u h ho hu hs;cases es with
  | nil=>simp only [zE,zg] at hu;rw [hu];exact ⟨hs,λp hp=>by cases hp⟩
  | cons p es=>
   obtain ⟨l,r⟩:=p;rw [zE] at hu;cases hst:yl s l r es with
   | none=>
    have hst:yl s (l,r).1 (l,r).2 es=none:=hst;rw [hst] at hu;simp at hu
   | some q=>
    have hst':yl s (l,r).1 (l,r).2 es=some q:=hst;rw [hst'] at hu;obtain ⟨s',es'⟩:=q;have hu:zE k s' es'=some (some u):=hu;have hinv:=(zo h hst).1;obtain ⟨ol,or'⟩:=ho (l,r) (K1 ..);have ores:∀p∈es,zS p.1=true/\zS p.2=true:=λp hp=>ho p (JR _ hp);obtain ⟨hv,hi,he⟩:=h;have hk:=J2 hv;have kl:=Y5 hk l ol;have kr:=Y5 hk r or';have fin:∀ {es0:JV},jna M e s->val M e (sub s l)=val M e (sub s r)->(∀p∈es,val M e p.1=val M e p.2)->jna M e s/\ ∀p∈(l,r)::es,val M e p.1=val M e p.2:=by
     intro _ h1 h2 h3;refine ⟨h1,λp hp=> ?_⟩;rcases jZ.1 hp with rfl|hp
     ·rw [jn9 h1 ol,jn9 h1 or'] at h2;exact h2
     ·exact h3 p hp
    unfold yl at hst;split at hst
    ·cases hst
    split at hst
    ·rename_i heq;cases hst;obtain ⟨h1,h2⟩:=ih s es hinv ores hu hs;exact fin (es0:=[]) h1 (by rw [qz.1 heq]) h2
    split at hst
    ·rename_i hvar;split at hst
     ·cases hst
     rename_i hno;cases hst;obtain ⟨h1,h2⟩:=ih _ es hinv ores hu hs;have c1:(jv (sub s l) (sub s r)).1 ∉ kK (jv (sub s l) (sub s r)).2:=λh=>hno (Or.inl h);have c3:jL [jv (sub s l) (sub s r)]=true:=by
      cases h:jL [jv (sub s l) (sub s r)] with
      | true=>rfl
      | false=>exact absurd (Or.inr (Or.inl h)) hno
     obtain ⟨_,_,h4⟩:=j6 c3;obtain ⟨k1,_,k3⟩:=h4 _ (jov _);have hb:look s (jv (sub s l) (sub s r)).1=none/\(∀x∈kK (jv (sub s l) (sub s r)).2,look s x=none)/\(e (jv (sub s l) (sub s r)).1=val M e (jv (sub s l) (sub s r)).2->val M e (sub s l)=val M e (sub s r)):=by
      unfold jv;split
      ·rename_i hc;have hy:jp (sub s r).name=true:=by
        rcases hc with hc|hc
        ·rcases hvar with h|h
         ·rw [hc] at h;cases h
         ·exact h
        ·exact hc.1
       exact ⟨Qa hi r (by rw [vsv hy];simp),λx hx=>Qa hi l hx,λh=>by rw [jc1 kr hy];exact h.symm⟩
      ·rename_i hc;have hx:jp (sub s l).name=true:=by
        cases h:jp (sub s l).name with
        | true=>rfl
        | false=>exact absurd (Or.inl h) hc
       exact ⟨Qa hi l (by rw [vsv hx];simp),λx hx=>Qa hi r hx,λh=>by rw [jc1 kl hx];exact h⟩
     generalize jv (sub s l) (sub s r)=b at *;obtain ⟨n,t⟩:=b;obtain ⟨_,_,c5,_⟩:=jiq hv hi k1 hb.1 hb.2.1 c1 k3;have hb1:e n=val M e t:=h1 (n,t) ((c5 _).2 (Or.inr rfl));have hsb:jna M e [(n,t)]:=λq hq=>by rw [ku.1 hq];exact hb1
     have hss:jna M e s:=λq hq=>by
      have:=h1 _ ((c5 _).2 (Or.inl ⟨q,hq,rfl⟩));have h6:val M e (sub [(n,t)] q.2)=val M e q.2:=jn9 hsb (hk q hq);rw [<-h6];exact this
     exact fin (es0:=[]) hss (hb.2.2 hb1) h2
    ·rename_i hnv;split at hst
     ·rename_i hnm;cases hst;have v1:jp (sub s l).name=false:=by
       cases h:jp (sub s l).name with
       | false=>rfl
       | true=>exact absurd (Or.inl h) hnv
      have v2:jp (sub s r).name=false:=by
       cases h:jp (sub s r).name with
       | false=>rfl
       | true=>exact absurd (Or.inr h) hnv
      obtain ⟨h1,h2⟩:=ih s _ hinv (λp hp=>by
       rcases kZ.1 hp with hp|hp
       ·have hm:=jkb (a:=p.1) (b:=p.2) hp;exact ⟨zj kl _ hm.1,zj kr _ hm.2⟩
       ·exact ores p hp) hu hs
      exact fin (es0:=[]) h1 (jBH kl kr v1 v2 hnm.1 (joq hnm.2 λp hp=>h2 p (JA _ hp))) λp hp=>h2 p (Kg _ hp)
     ·cases hst
theorem ji6:∀ {u:jw} {q:List UInt8 × T},(u.map Prod.fst).Nodup->q∈u->look u q.1=some q.2
 | p::u,q,hn,hq=>by
  rw [look];rcases jZ.1 hq with rfl|hq
  ·rw [jg rfl]
  ·rw [zf,jj9] at hn;rw [jf (λe=>hn.1 (by rw [e];exact zN.2 ⟨q,hq,rfl⟩))];exact ji6 hn.2 hq
theorem jBe {u:jw} (hv:jL u=true) (hi:IdS u):jna M (λx=>val M e (Js u x)) u:=by
 intro q hq;have hk:=J2 hv;have hl:=ji6 (jb0 hv) hq;show val M e (Js u q.1)=val M (λx=>val M e (Js u x)) q.2;rw [<-jfm u e q.2 (hk q hq),jgd q.2 (hk q hq) λx hx=>hi q hq x hx,Js,hl];rfl
theorem jj1 {a b:T} (ha:Bx a) (hb:Bx b) (na:nodes a<=31) (nb:nodes b<=31) {u:jw} (hu:JQ a b=some u):a.name=b.name/\a.args.map (val M λx=>val M e (Js u x))=b.args.map (val M λx=>val M e (Js u x)):=by
 obtain ⟨k,hk⟩:=ZV (ha.exx na) (hb.exx nb);rw [hu] at hk;have hinv:=jlY (ha.exx na) (hb.exx nb);obtain ⟨hv,hi⟩:=jj0 k _ _ hinv hk;have hs:=jBe (M:=M) (e:=e) hv hi;cases k with
 | zero=>simp [zE] at hk
 | succ k=>
  rw [zE] at hk;have v1:=ha.nv;have v2:=hb.nv;have i1:∀t∈a.args,sub [] t=t:=λt ht=>jgd t (ha.args t ht) λx _=>rfl;have i2:∀t∈b.args,sub [] t=t:=λt ht=>jgd t (hb.args t ht) λx _=>rfl;have e1:sub [] a=a:=by rw [qE v1,K3 i1,List.map_id',T.eta]
  have e2:sub [] b=b:=by rw [qE v2,K3 i2,List.map_id',T.eta]
  cases hst:yl [] a b [] with
  | none=>
   have hst:yl [] (a,b).1 (a,b).2 []=none:=hst;rw [hst] at hk;simp at hk
  | some q=>
   have hst':yl [] (a,b).1 (a,b).2 []=some q:=hst;rw [hst'] at hk;obtain ⟨s',es'⟩:=q;have hk:zE k s' es'=some (some u):=hk;have hinv2:=(zo hinv hst).1;unfold yl at hst;rw [e1,e2] at hst;split at hst
   ·cases hst
   split at hst
   ·rename_i heq;rw [qz.1 heq];exact ⟨rfl,rfl⟩
   split at hst
   ·rename_i hvar;rw [v1,v2] at hvar;rcases hvar with h|h<;>cases h
   ·split at hst
    ·rename_i hnm;cases hst;rw [qv] at hk hinv2;obtain ⟨_,h2⟩:=jrw k _ _ hinv2 (λp hp=>by
      have hm:=jkb (a:=p.1) (b:=p.2) hp;exact ⟨ha.args _ hm.1,hb.args _ hm.2⟩) hk hs
     exact ⟨hnm.1,joq hnm.2 h2⟩
    ·cases hst
end
theorem Yy {α:Type} {c:List α} {m:Nat} (h:m < c.length) {l:α} (hl:l∈c):l=c[m]\/l∈c.eraseIdx m:=by
 obtain ⟨i,hi,rfl⟩:=List.getElem_of_mem hl;by_cases e:i=m
 ·subst e;exact Or.inl rfl
 ·exact Or.inr (List.mem_eraseIdx_iff_getElem.2 ⟨i,hi,e,rfl⟩)
theorem jv7 {α:Type} {c:List α} {m n:Nat} (h:m < c.length) (e:m≠n):c[m]∈c.eraseIdx n:=List.mem_eraseIdx_iff_getElem.2 ⟨m,h,e,rfl⟩
theorem QY {c:kh} (h:CN c) (m:Nat):∀y∈c.eraseIdx m,Bx y.2:=λy hy=>(h.2 y (List.mem_of_mem_eraseIdx hy)).1
theorem jlZ {M:List UInt8->List Int->Int} {e:List UInt8->Int} {a b:T} (ka:zS a=true) (kb:zS b=true) (na:nodes a<=31) (nb:nodes b<=31) {u:jw} (hu:JQ a b=some u):val M (λx=>val M e (Js u x)) a=val M (λx=>val M e (Js u x)) b:=by
 have xa:Exx a:=⟨Or.inl ka,na⟩;have xb:Exx b:=⟨Or.inl kb,nb⟩;obtain ⟨k,hk⟩:=ZV xa xb;rw [hu] at hk;have hinv:=jlY xa xb;obtain ⟨hv,hi⟩:=jj0 k _ _ hinv hk;exact (jrw k _ _ hinv (λp hp=>by rw [ku.1 hp];exact ⟨ka,kb⟩) hk (jBe (M:=M) (e:=e) hv hi)).2 (a,b) (jov _)
theorem jtA {c d:kh} (hc:CN c) (hd:jN d=true) {m n:Nat} (hm:m < c.length) (hn:n < (jF d).length) (hs:¬c[m].1=(jF d)[n].1) {u:jw} (hu:JQ c[m].2 (jF d)[n].2=some u) {x:kh} (hx:qZ u (c.eraseIdx m++(jF d).eraseIdx n)=some x):Sd [c,d] x:=by
 intro M hM;have tc:=hM c (by simp);have td:=jrp hd (hM d (by simp));have ce:=jes hd;refine je8 hx (λy hy=>(kZ.1 hy).elim (QY hc m y) (QY ce n y)) λe he=> ?_;obtain ⟨l,hl,h1⟩:=tc _ (ZO M he u);obtain ⟨l',hl',h2⟩:=td _ (ZO M he u);rcases Yy hm hl with h|h
 ·rcases Yy hn hl' with h'|h'
  ·exfalso;have b1:=hc.2 _ (jC hm);have b2:=ce.2 _ (jC hn);obtain ⟨e1,e2⟩:=jj1 (M:=M.M) (e:=e) b1.1 b2.1 (by omega) (by omega) hu;have:=YM (m:=M) e1 e2;rw [h] at h1;rw [h'] at h2;exact hs (by rw [<-h1,<-h2,this])
  ·exact ⟨l',Kg _ h',h2⟩
 ·exact ⟨l,JA _ h,h1⟩
theorem jw6 {c:kh} (hc:CN c) {m n:Nat} (hm:m < c.length) (hn:n < c.length) (hmn:m≠n) (hs:c[m].1=c[n].1) {u:jw} (hu:JQ c[m].2 c[n].2=some u) {x:kh} (hx:qZ u (c.eraseIdx n)=some x):Sd [c] x:=by
 intro M hM;have tc:=hM c (by simp);refine je8 hx (QY hc n) λe he=> ?_;obtain ⟨l,hl,h1⟩:=tc _ (ZO M he u);rcases Yy hn hl with h|h
 ·have b1:=hc.2 _ (jC hm);have b2:=hc.2 _ (jC hn);obtain ⟨e1,e2⟩:=jj1 (M:=M.M) (e:=e) b1.1 b2.1 (by omega) (by omega) hu;have:=YM (m:=M) e1 e2;rw [h] at h1;exact ⟨c[m],jv7 hm hmn,by rw [this,h1,hs]⟩
 ·exact ⟨l,h,h1⟩
theorem jiC (M:Mdl) (e:List UInt8->Int) {t:T} (hn:t.name = [61]) (hl:t.args.length=2):qR M e t=decide (val M.M e (JD t)=val M.M e (Zb t)):=by
 unfold qR;rw [jg ⟨hn,hl⟩]
theorem joa {c:kh} (hc:CN c) {m:Nat} (hm:m < c.length) (hs:c[m].1=false) (he:c[m].2.name = [61]) (hl:c[m].2.args.length=2) (k0:zS (YF c[m].2)=true) (k1:zS (QC c[m].2)=true) (n0:nodes (YF c[m].2)<=30) (n1:nodes (QC c[m].2)<=30) {u:jw} (hu:JQ (YF c[m].2) (QC c[m].2)=some u) {x:kh} (hx:qZ u (c.eraseIdx m)=some x):Sd [c] x:=by
 intro M hM;have tc:=hM c (by simp);refine je8 hx (QY hc m) λe hg=> ?_;obtain ⟨l,hl',h1⟩:=tc _ (ZO M hg u);rcases Yy hm hl' with h|h
 ·exfalso;have hv:=jlZ (M:=M.M) (e:=e) k0 k1 (by omega) (by omega) hu;rw [h,jiC M _ he hl,hs] at h1;exact absurd (jQ (show val M.M _ (JD c[m].2)=val M.M _ (Zb c[m].2) from hv)) (by rw [h1];decide)
 ·exact ⟨l,h,h1⟩
theorem jrI {M:List UInt8->List Int->Int} {e:List UInt8->Int} {r:T} :∀(p:List Nat) (t:T),okP p t->val M e r=val M e (atT p t)->val M e (ze r p t)=val M e t/\(p≠ []->(ze r p t).name=t.name/\(ze r p t).args.map (val M e)=t.args.map (val M e))
 | [],t,_,h=>⟨h,λh=>absurd rfl h⟩
 | i::p,t,hk,h=>by
  obtain ⟨h1,h2⟩:=hk;rw [atT] at h;obtain ⟨q,_⟩:=jrI p _ h2 h;have hargs:(ze r (i::p) t).args.map (val M e)=t.args.map (val M e):=by
   rw [ze];show (t.args.set i (ze r p (t.args.getD i (.mk [] [])))).map (val M e)=_;rw [jct,q,qo h1];have:(t.args.map (val M e))[i]'(by rw [kj];exact h1)=val M e t.args[i]:=jcs _;rw [<-this];exact List.set_getElem_self _
  have hlen:(ze r (i::p) t).args.isEmpty=false/\t.args.isEmpty=false:=by
   constructor
   ·rw [ze];show (t.args.set i _).isEmpty=false;cases hq:t.args with
    | nil=>rw [hq] at h1;simp at h1
    | cons a l=>cases i<;>rfl
   ·cases hq:t.args with
    | nil=>rw [hq] at h1;simp at h1
    | cons a l=>rfl
  refine ⟨?_,λ_=>⟨rfl,hargs⟩⟩;rw [QK,QK M e t,hlen.1,hlen.2,hargs];rfl
theorem job {c d:kh} (hc:CN c) (hd:jN d=true) {m n:Nat} (hm:m < c.length) (hn:n < (jF d).length) (hs:c[m].1=true) (he:c[m].2.name = [61]) (hl2:c[m].2.args.length=2) {l r:T} (hlr:(l=JD c[m].2/\r=Zb c[m].2)\/(l=Zb c[m].2/\r=JD c[m].2)) (kl:zS l=true) (kr:zS r=true) (nl:nodes l<=30) {q:List Nat} (hq:q≠ []) (hk:okP q (jF d)[n].2) (kw:zS (atT q (jF d)[n].2)=true) (nw:nodes (atT q (jF d)[n].2)<=31) {u:jw} (hu:JQ l (atT q (jF d)[n].2)=some u) {x:kh} (hx:qZ u (c.eraseIdx m++(jF d).eraseIdx n++[((jF d)[n].1,ze r q (jF d)[n].2)])=some x):Sd [c,d] x:=by
 intro M hM;have tc:=hM c (by simp);have td:=jrp hd (hM d (by simp));have ce:=jes hd;have b2:=ce.2 _ (jC hn);refine je8 hx (λy hy=> ?_) λe hg=> ?_
 ·rcases kZ.1 hy with hy|hy
  ·exact (kZ.1 hy).elim (QY hc m y) (QY ce n y)
  ·rw [ku.1 hy];exact jvP kr hq hk b2.1
 obtain ⟨y,hy,h1⟩:=tc _ (ZO M hg u);obtain ⟨z,hz,h2⟩:=td _ (ZO M hg u);rcases Yy hm hy with h|h
 ·rcases Yy hn hz with h'|h'
  ·have hv:=jlZ (M:=M.M) (e:=e) kl kw (by omega) nw hu;rw [h,jiC M _ he hl2,hs,kM] at h1;have hr:val M.M (λx=>val M.M e (Js u x)) r=val M.M (λx=>val M.M e (Js u x)) (atT q (jF d)[n].2):=by
    rcases hlr with ⟨rfl,rfl⟩|⟨rfl,rfl⟩
    ·rw [<-hv,h1]
    ·rw [<-hv,h1]
   obtain ⟨w1,w2⟩:=(jrI q _ hk hr).2 hq;refine ⟨_,Kg _ (jov _),?_⟩;show qR M _ (ze r q (jF d)[n].2)=(jF d)[n].1;rw [YM w1 w2,<-h',h2]
  ·exact ⟨z,JA _ (Kg _ h'),h2⟩
 ·exact ⟨y,JA _ (JA _ h),h1⟩
def jkJ (ps:List kh) (f g:FuncId) (args:List A):Prop:=∃r:Option kh,G f args=Jz r/\G g args=Jz r/\ ∀x,r=some x->jN x=true/\Sd ps x
theorem JF {ps:List kh} {f g:FuncId} {args:List A} (h1:G f args=some (.tup [cz,vb false],[])) (h2:G g args=some (.tup [cz,vb false],[])):jkJ ps f g args:=⟨none,h1,h2,λx h=>by cases h⟩
theorem jtr (c d:kh) (hc:jN c=true) (hd:jN d=true) (i k:Int):∃r:Option kh,G 84 [cm c,vi i,cm d,vi k]=Jz r/\G 101 [cm c,vi i,cm d,vi k]=Jz r/\ ∀x,r=some x->(jN x=true/\Sd [c,d] x)/\ ∃(u:jw) (m n:Nat),i=(m:Nat)/\m < c.length/\n < d.length/\qZ u (c.eraseIdx m++(jF d).eraseIdx n)=some x:=by
 obtain ⟨cc,_,_,_⟩:=km hc;obtain ⟨cd,_,_,_⟩:=km hd;have lc:=cc.1;have ld:=cd.1;have ce:=jes hd;have le:=jfM d;have a1:=jkS d hd;have a2:=jfL d hd;have p1:=yb c (by omega) i;have p2:=yb d (by omega) k;have c1:ck (((c.length:Nat):Int) - 1)=some (vi (((c.length:Nat):Int) - 1)):=jE (by omega) (by omega);have c2:ck ((((jF d).length:Nat):Int) - 1)=some (vi ((((jF d).length:Nat):Int) - 1)):=jE (by omega) (by omega);have q1:=yx i 0 (((c.length:Nat):Int) - 1);have q2:=yx k 0 ((((jF d).length:Nat):Int) - 1);have hi':qx 0 (((c.length:Nat):Int) - 1) i=Yi c i:=rfl;have hk':qx 0 ((((jF d).length:Nat):Int) - 1) k=Yi d k:=by rw [le];rfl
 rw [hi'] at q1;rw [hk'] at q2;rw [g84,jKb];cases hi:Yi c i<;>rw [hi] at p1 q1
 ·exact ⟨none,by simp only [jd,p1];rfl,by simp only [jd,a2,c1,q1];rfl,λx h=>by cases h⟩
 cases hk:Yi d k<;>rw [hk] at p2 q2
 ·exact ⟨none,by simp only [jd,p1,p2];rfl,by simp only [jd,a2,c1,q1,c2,q2];rfl,λx h=>by cases h⟩
 obtain ⟨m,rfl,hm⟩:=KB hi;obtain ⟨n,rfl,hn⟩:=KB hk;have hn2:n < (jF d).length:=by omega
 have sg:(jF d)[n].1=d[n].1:=jvW d n hn2 hn;have x1:=ja (k:=3) (f:=jG) hm;have x2:=ja (k:=3) (f:=jG) hn;have x3:=ja (k:=3) (f:=jG) hn2;have hb1:=cc.2 _ (jC hm);have hb2:=ce.2 _ (jC hn2);have u1:=jfk c[m].2 (jF d)[n].2 (hb1.1.exx (by omega)) (hb2.1.exx (by omega));have u2:=jaI c[m].2 (jF d)[n].2 (hb1.1.exx (by omega)) (hb2.1.exx (by omega));have hval:∀s,JQ c[m].2 (jF d)[n].2=some s->jL s=true:=λs hs=>Yp (hb1.1.exx (by omega)) (hb2.1.exx (by omega)) hs;by_cases hs:c[m].1=d[n].1
 ·have hs2:c[m].1=(jF d)[n].1:=by rw [sg];exact hs
  exact ⟨none,by simp only [jd,p1,p2,x1,x2,Yr,Qh,hs];rfl,by simp only [jd,a2,c1,q1,c2,q2,x1,x3,Yr,Qh,hs2];rfl,λx h=>by cases h⟩
 have hs1:=kA hs;have hs2:decide (c[m].1=(jF d)[n].1)=false:=by rw [sg];exact hs1
 obtain ⟨u,b,hu,hut,huf⟩:=jcS (JQ c[m].2 (jF d)[n].2);rw [hu] at u1 u2;cases b
 ·exact ⟨none,by simp only [jd,p1,p2,x1,x2,x3,Yr,Qh,ldT,hs1,a1,u1];rfl,by simp only [jd,a2,c1,q1,c2,q2,x1,x3,Yr,Qh,ldT,hs2,u2];rfl,λx h=>by cases h⟩
 have hv:=hval u (hut rfl);have hln:=LN.append cc ce m n;have w1:=ZB c (by omega) m hm;have w2:=ZB (jF d) (by omega) n hn2;have w3:=KJ c (by omega) m hm;have w4:=KJ (jF d) (by omega) n hn2;have cat:=jk1 [c.eraseIdx m,(jF d).eraseIdx n] (by simp) (λx hx=>by
  simp only [jZ,qK,Jb] at hx;rcases hx with rfl|rfl
  ·have:=(LN.erase cc m).1;omega
  ·have:=(LN.erase ce n).1;omega)
 have hfl: [c.eraseIdx m,(jF d).eraseIdx n].flatten=c.eraseIdx m++(jF d).eraseIdx n:=by simp
 rw [hfl] at cat;have cat:jfy [[.sl 3 ((c.eraseIdx m).map jG)],[.sl 3 (((jF d).eraseIdx n).map jG)]]=some (.top,[.sl 3 ((c.eraseIdx m++(jF d).eraseIdx n).map jG)]):=cat;have e1:=ZP u hv _ hln;have e2:=KU u hv _ hln;have hf:jA ((c.eraseIdx m).length+((jF d).eraseIdx n).length) 48=true:=ZS (by have:=(LN.erase cc m).1;have:=(LN.erase ce n).1;omega);have ha:jW ((c.eraseIdx m).map jG) (((jF d).eraseIdx n).map jG)=(c.eraseIdx m++(jF d).eraseIdx n).map jG:=by rw [zy];rfl
 refine ⟨qZ u (c.eraseIdx m++(jF d).eraseIdx n),?_,?_,λx hx=>⟨⟨ZU hx,jtA cc hd hm hn2 (by rw [sg];exact hs) (hut rfl) hx⟩,u,m,n,rfl,hm,hn,hx⟩⟩
 ·obtain ⟨c',b',hr⟩:=zW (qZ u (c.eraseIdx m++(jF d).eraseIdx n));rw [hr] at e1 ⊢;generalize c.eraseIdx m++(jF d).eraseIdx n=L at *;simp only [jd,p1,p2,x1,x2,x3,Yr,Qh,ldT,hs1,a1,u1,w1,w2,cat,hRl,e1]
 ·obtain ⟨c',b',hr⟩:=zW (qZ u (c.eraseIdx m++(jF d).eraseIdx n));rw [hr] at e2 ⊢;generalize c.eraseIdx m++(jF d).eraseIdx n=L at *;simp only [jd,a2,c1,q1,c2,q2,x1,x3,Yr,Qh,ldT,hs2,u2,w3,w4,hRl,hf,ha,e2]
theorem jw0 (c d:kh) (hc:jN c=true) (hd:jN d=true) (i k:Int):∃r:Option kh,G 84 [cm c,vi i,cm d,vi k]=Jz r/\G 101 [cm c,vi i,cm d,vi k]=Jz r/\ ∀x,r=some x->jN x=true/\Sd [c,d] x:=by
 obtain ⟨r,h1,h2,h3⟩:=jtr c d hc hd i k;exact ⟨r,h1,h2,λx hx=>(h3 x hx).1⟩
theorem jdo (c d:kh) (lc:c.length<=1048576) (zc:∀l∈c,Tz l.2) (ld:d.length<=1048576) (zd:∀l∈d,Tz l.2) (i k:Int):jkJ [c,d] 53 69 [cm c,vi i,cm d,vi k]:=by
 have n1:=yK c lc zc;have n2:=yK d ld zd;have m1:=qb c lc zc;have m2:=qb d ld zd;cases hc:jN c<;>rw [hc] at n1 m1
 ·exact JF (by rw [g53];simp only [jd,n1]) (by rw [g69];simp only [jd,m1])
 cases hd:jN d<;>rw [hd] at n2 m2
 ·exact JF (by rw [g53];simp only [jd,n1,n2]) (by rw [g69];simp only [jd,m1,m2])
 obtain ⟨r,e1,e2,e3⟩:=jw0 c d hc hd i k;obtain ⟨c',b',hr⟩:=zW r;refine ⟨r,?_,?_,e3⟩
 ·rw [hr] at e1 ⊢;rw [g53];simp only [jd,n1,n2,e1]
 ·rw [hr] at e2 ⊢;rw [g69];simp only [jd,m1,m2,e2]
theorem jyI (c:kh) (hc:jN c=true) (i k:Int) (ib: -9223372036854775808<=i/\i<=9223372036854775807):∃r:Option kh,G 85 [cm c,vi i,vi k]=Jz r/\G 102 [cm c,vi i,vi k]=Jz r/\ ∀x,r=some x->jN x=true/\Sd [c] x:=by
 obtain ⟨cc,_,_,_⟩:=km hc;have lc:=cc.1;have p1:=yb c (by omega) i;have p2:=yb c (by omega) k;have c1:ck (((c.length:Nat):Int) - 1)=some (vi (((c.length:Nat):Int) - 1)):=jE (by omega) (by omega);have q1:=yx i 0 (((c.length:Nat):Int) - 1);have q2:=yx k (i+1) (((c.length:Nat):Int) - 1);have hi':qx 0 (((c.length:Nat):Int) - 1) i=Yi c i:=rfl;rw [hi'] at q1;rw [g85,jKc];cases hi:Yi c i<;>rw [hi] at p1 q1
 ·exact ⟨none,by simp only [jd,p1];rfl,by simp only [jd,c1,q1];rfl,λx h=>by cases h⟩
 obtain ⟨m,rfl,hm⟩:=KB hi;have cm1:ck ((m:Int)+1)=some (vi ((m:Int)+1)):=jE (by omega) (by omega);have hk':qx ((m:Int)+1) (((c.length:Nat):Int) - 1) k=(Yi c k && !decide (k<=(m:Int))):=by
  unfold Yi qx;by_cases h1:k<=(m:Int)
  ·rw [kA (show ¬(m:Int)+1<=k by omega),jQ h1,jK,jgj,zr]
  ·rw [jQ (show (m:Int)+1<=k by omega),kA h1,jQ (show (0:Int)<=k by omega),Bool.not_false,ZC]
 rw [hk'] at q2;cases hk:Yi c k<;>rw [hk] at p2 q2
 ·rw [jK] at q2;exact ⟨none,by simp only [jd,p1,p2];rfl,by simp only [jd,c1,q1,cm1,q2];rfl,λx h=>by cases h⟩
 rw [jR] at q2;by_cases hik:k<=(m:Int)
 ·rw [jQ hik] at q2;exact ⟨none,by simp only [jd,p1,p2,hik];rfl,by simp only [jd,c1,q1,cm1,q2];rfl,λx h=>by cases h⟩
 have hik':=kA hik;rw [hik'] at q2;obtain ⟨n,rfl,hn⟩:=KB hk;have x1:=ja (k:=3) (f:=jG) hm;have x2:=ja (k:=3) (f:=jG) hn;have hb1:=cc.2 _ (jC hm);have hb2:=cc.2 _ (jC hn);have u1:=jfk c[m].2 c[n].2 (hb1.1.exx (by omega)) (hb2.1.exx (by omega));have u2:=jaI c[m].2 c[n].2 (hb1.1.exx (by omega)) (hb2.1.exx (by omega));by_cases hs:c[m].1=c[n].1;rotate_left
 ·have hs1:=kA hs;exact ⟨none,by simp only [jd,p1,p2,hik',x1,x2,Yr,Qh,hs1];rfl,by simp only [jd,c1,q1,cm1,q2,x1,x2,Yr,Qh,hs1];rfl,λx h=>by cases h⟩
 have hs1:=jQ hs;obtain ⟨u,b,hu,hut,huf⟩:=jcS (JQ c[m].2 c[n].2);rw [hu] at u1 u2;cases b
 ·exact ⟨none,by simp only [jd,p1,p2,hik',x1,x2,Yr,Qh,ldT,hs1,u1];rfl,by simp only [jd,c1,q1,cm1,q2,x1,x2,Yr,Qh,ldT,hs1,u2];rfl,λx h=>by cases h⟩
 have hv:=Yp (hb1.1.exx (by omega)) (hb2.1.exx (by omega)) (hut rfl);have hln:=LN.erase cc n;have w1:=ZB c (by omega) n hn;have w3:=KJ c (by omega) n hn;have e1:=ZP u hv _ hln;have e2:=KU u hv _ hln;refine ⟨qZ u (c.eraseIdx n),?_,?_,λx hx=>⟨ZU hx,jw6 cc hm hn (by omega) hs (hut rfl) hx⟩⟩
 ·obtain ⟨c',b',hr⟩:=zW (qZ u (c.eraseIdx n));rw [hr] at e1 ⊢;simp only [jd,p1,p2,hik',x1,x2,Yr,Qh,ldT,hs1,u1,w1,e1]
 ·obtain ⟨c',b',hr⟩:=zW (qZ u (c.eraseIdx n));rw [hr] at e2 ⊢;simp only [jd,c1,q1,cm1,q2,x1,x2,Yr,Qh,ldT,hs1,u2,w3,hRl,e2]
theorem jeE (c:kh) (lc:c.length<=1048576) (zc:∀l∈c,Tz l.2) (i k:Int) (ib: -9223372036854775808<=i/\i<=9223372036854775807):jkJ [c] 54 70 [cm c,vi i,vi k]:=by
 have n1:=yK c lc zc;have m1:=qb c lc zc;cases hc:jN c<;>rw [hc] at n1 m1
 ·exact JF (by rw [g54];simp only [jd,n1]) (by rw [g70];simp only [jd,m1])
 obtain ⟨r,e1,e2,e3⟩:=jyI c hc i k ib;obtain ⟨c',b',hr⟩:=zW r;refine ⟨r,?_,?_,e3⟩
 ·rw [hr] at e1 ⊢;rw [g54];simp only [jd,n1,e1]
 ·rw [hr] at e2 ⊢;rw [g70];simp only [jd,m1,e2]
theorem jqR (c:kh) (hc:jN c=true) (i:Int):∃r:Option kh,G 87 [cm c,vi i]=Jz r/\G 104 [cm c,vi i]=Jz r/\ ∀x,r=some x->jN x=true/\Sd [c] x:=by
 obtain ⟨cc,_,_,_⟩:=km hc;have lc:=cc.1;have p1:=yb c (by omega) i;have c1:ck (((c.length:Nat):Int) - 1)=some (vi (((c.length:Nat):Int) - 1)):=jE (by omega) (by omega);have q1:=yx i 0 (((c.length:Nat):Int) - 1);have hi':qx 0 (((c.length:Nat):Int) - 1) i=Yi c i:=rfl;rw [hi'] at q1;rw [g87,jKd];cases hi:Yi c i<;>rw [hi] at p1 q1
 ·exact ⟨none,by simp only [jd,p1];rfl,by simp only [jd,c1,q1];rfl,λx h=>by cases h⟩
 obtain ⟨m,rfl,hm⟩:=KB hi;have x1:=ja (k:=3) (f:=jG) hm;have hb1:=cc.2 _ (jC hm);have e3:=qG c[m].2;have e4:=jbL c[m] false;generalize hl:c[m]=l at *;have e4:G 147 [ltm l,vb false]=_:=e4;cases hs:l.1<;>rw [hs] at e4
 rotate_left
 ·exact ⟨none,by simp only [jd,p1,x1,Yr,Qh,hs];rfl,by simp only [jd,c1,q1,x1,zs,hs,e4,jK];rfl,λx h=>by cases h⟩
 by_cases he:l.2.name = [61];rotate_left
 ·rw [kA he] at e3 e4;exact ⟨none,by simp only [jd,p1,x1,Yr,Qh,ldT,hs,e3];rfl,by simp only [jd,c1,q1,x1,zs,hs,e4,zr];rfl,λx h=>by cases h⟩
 rw [jQ he] at e3 e4;obtain ⟨l2,k0,k1,n0,n1,i0,i1⟩:=jpn hb1.1 he hb1.2;have u1:=jfk (YF l.2) (QC l.2) ⟨Or.inl k0,by omega⟩ ⟨Or.inl k1,by omega⟩;have u2:=jaI (YF l.2) (QC l.2) ⟨Or.inl k0,by omega⟩ ⟨Or.inl k1,by omega⟩;obtain ⟨u,b,hu,hut,huf⟩:=jcS (JQ (YF l.2) (QC l.2));rw [hu] at u1 u2;cases b
 ·exact ⟨none,by simp only [jd,p1,x1,Yr,QV,ldA,Qh,ldT,hs,e3,i0,i1,je,u1];rfl,by simp only [jd,c1,q1,x1,zs,hs,e4,QM,Yr,QV,ldA,i0,i1,je,u2];rfl,λx h=>by cases h⟩
 have hv:=Yp ⟨Or.inl k0,by omega⟩ ⟨Or.inl k1,by omega⟩ (hut rfl);have hln:=LN.erase cc m;have w1:=ZB c (by omega) m hm;have w3:=KJ c (by omega) m hm;have e1:=ZP u hv _ hln;have e2:=KU u hv _ hln;refine ⟨qZ u (c.eraseIdx m),?_,?_,λx hx=>⟨ZU hx,joa cc hm (by rw [hl];exact hs) (by rw [hl];exact he) (by rw [hl];exact l2) (by rw [hl];exact k0) (by rw [hl];exact k1) (by rw [hl];exact n0) (by rw [hl];exact n1) (by rw [hl];exact hut rfl) hx⟩⟩
 ·obtain ⟨c',b',hr⟩:=zW (qZ u (c.eraseIdx m));rw [hr] at e1 ⊢;simp only [jd,p1,x1,Yr,QV,ldA,Qh,ldT,hs,e3,i0,i1,je,u1,w1,e1]
 ·obtain ⟨c',b',hr⟩:=zW (qZ u (c.eraseIdx m));rw [hr] at e2 ⊢;simp only [jd,c1,q1,x1,zs,hs,e4,QM,Yr,QV,ldA,i0,i1,je,u2,w3,hRl,e2]
theorem jbb (c:kh) (lc:c.length<=1048576) (zc:∀l∈c,Tz l.2) (i:Int):jkJ [c] 56 72 [cm c,vi i]:=by
 have n1:=yK c lc zc;have m1:=qb c lc zc;cases hc:jN c<;>rw [hc] at n1 m1
 ·exact JF (by rw [g56];simp only [jd,n1]) (by rw [g72];simp only [jd,m1])
 obtain ⟨r,e1,e2,e3⟩:=jqR c hc i;obtain ⟨c',b',hr⟩:=zW r;refine ⟨r,?_,?_,e3⟩
 ·rw [hr] at e1 ⊢;rw [g56];simp only [jd,n1,e1]
 ·rw [hr] at e2 ⊢;rw [g72];simp only [jd,m1,e2]
theorem jbd (c d:kh) (cc:CN c) (hd:jN d=true) (m n:Nat) (hm:m < c.length) (hn:n < d.length) (hs:c[m].1=true) (he:c[m].2.name = [61]) (hl2:c[m].2.args.length=2) (l r:T) (hlr:(l=JD c[m].2/\r=Zb c[m].2)\/(l=Zb c[m].2/\r=JD c[m].2)) (side:Int) (hside:qx 0 1 side=true) (sl:jl 2 (jH c[m].2.args) (vi side)=some (.elt (jo l) 0)) (sr:jl 2 (jH c[m].2.args) (vi (1 - side))=some (.elt (jo r) 0)) (kl:zS l=true) (kr:zS r=true) (nl:nodes l<=30) (nr:nodes r<=30) (p:List Int) (hpl:p.length<=1048576) (hp:p≠ []) :
  ∃o:Option kh,G 86 [cm c,vi (m:Nat),vi side,cm d,vi (n:Nat),ints p]=Jz o/\G 103 [cm c,vi (m:Nat),vi side,cm d,vi (n:Nat),ints p]=Jz o/\ ∀x,o=some x->jN x=true/\Sd [c,d] x:=by
 obtain ⟨cd,_,_,_⟩:=km hd;have lc:=cc.1;have ld:=cd.1;have ce:=jes hd;have le:=jfM d;have a1:=jkS d hd;have a2:=jfL d hd;have p1:=yb c (by omega) (m:Nat);have p2:=yb d (by omega) (n:Nat);have hi:Yi c (m:Nat)=true:=by unfold Yi;rw [jnr];exact jQ ⟨by omega,by omega⟩
 have hk:Yi d (n:Nat)=true:=by unfold Yi;rw [jnr];exact jQ ⟨by omega,by omega⟩
 have c1:ck (((c.length:Nat):Int) - 1)=some (vi (((c.length:Nat):Int) - 1)):=jE (by omega) (by omega);have c2:ck ((((jF d).length:Nat):Int) - 1)=some (vi ((((jF d).length:Nat):Int) - 1)):=jE (by omega) (by omega);have q1:=yx (m:Nat) 0 (((c.length:Nat):Int) - 1);have q2:=yx (n:Nat) 0 ((((jF d).length:Nat):Int) - 1);have q3:=yx side 0 1;have p3:=qh side 0 1;have hi':qx 0 (((c.length:Nat):Int) - 1) (m:Nat)=true:=hi;have hk':qx 0 ((((jF d).length:Nat):Int) - 1) (n:Nat)=true:=by rw [le];exact hk
 rw [hi'] at q1;rw [hk'] at q2;rw [hside] at q3 p3;rw [hi] at p1;rw [hk] at p2;have hn2:n < (jF d).length:=by omega
 have x1:=ja (k:=3) (f:=jG) hm;have x3:=ja (k:=3) (f:=jG) hn2;have hb2:=ce.2 _ (jC hn2);have e3:=qG c[m].2;have e4:=jbL c[m] true;rw [hs,he,jQ rfl,jQ rfl,QM] at e4;rw [jQ he] at e3;have e4:G 147 [.agg [vb c[m].1,sv c[m].2.name,jH c[m].2.args],vb true]=some (vb true,[]):=e4;have hp0:¬((p.length:Nat):Int)=0:=by
  cases p with
  | nil=>exact (hp rfl).elim
  | cons _ _=>simp only [zk];omega
 have cs:ck (1 - side)=some (vi (1 - side)):=by
  unfold qx at hside;rw [jy,kM,kM] at hside;exact jE (by omega) (by omega)
 have sdx:∀ {q:List Nat},q≠ []->okP q (jF d)[n].2->zS (atT q (jF d)[n].2)=true->nodes (atT q (jF d)[n].2)<=31-> ∀ {u:jw},JQ l (atT q (jF d)[n].2)=some u-> ∀ {x:kh},qZ u (c.eraseIdx m++(jF d).eraseIdx n++[((jF d)[n].1,ze r q (jF d)[n].2)])=some x->Sd [c,d] x:=λ{q} hq hk kw nw {u} hu {x} hx=>job cc hd hm hn2 hs he hl2 hlr kl kr nl hq hk kw nw hu hx;generalize hL:c[m]=L at *;generalize hE:(jF d)[n]=E at *;have tE:=hb2.1.tz (by omega);have t1:=jFL E.2 p tE hpl;have t2:=jFM E.2 p tE hpl;rw [g86,jsN];cases hat:atI p E.2 with
 | none=>
  rw [hat] at t1 t2;have t1:G 121 [tm E.2,ints p]=some (.tup [.agg [sv [],.sl 2 []],vb false],[]):=t1;have t2:G 148 [tm E.2,ints p]=some (.tup [.agg [sv [],.sl 2 []],vb false],[]):=t2;refine ⟨none,?_,?_,λx h=>by cases h⟩
  ·simp only [jd,p1,p2,p3,x1,x3,Yr,QV,ldA,Qh,ldT,hs,e3,hp0,sl,sr,cs,je,a1,t1];rfl
  ·simp only [jd,a2,c1,q1,c2,q2,q3,x1,x3,zs,e4,hp0,Yr,QV,ldA,Qh,ldT,sl,sr,cs,je,t2];rfl
 | some w=>
  rw [hat] at t1 t2;have t1:G 121 [tm E.2,ints p]=some (.tup [tm w,vb true],[]):=t1;have t2:G 148 [tm E.2,ints p]=some (.tup [tm w,vb true],[]):=t2;obtain ⟨q,hpe,hq,hw⟩:=jx1 hat;have hqne:q≠ []:=λh=>hp (by rw [hpe,h];rfl);have hql:q.length<=2000000:=by rw [hpe,kj] at hpl;omega
  obtain ⟨kw,nw⟩:=jAr hqne hq hb2.1.args;rw [<-hw] at kw nw;obtain ⟨tzw,exw⟩:=jdS kw (by omega);obtain ⟨tzl,exl⟩:=jdS kl nl;obtain ⟨tzr,exr⟩:=jdS kr nr;have v1:=yP w (Or.inl kw);have v2:=zK w.name ((kR w).1 tzw.wf).1;cases hv:jp w.name<;>rw [hv] at v1 v2
  rotate_left
  ·refine ⟨none,?_,?_,λx h=>by cases h⟩
   ·simp only [jd,p1,p2,p3,x1,x3,Yr,QV,ldA,Qh,ldT,hs,e3,hp0,sl,sr,cs,je,a1,t1,v1];rfl
   ·simp only [jd,a2,c1,q1,c2,q2,q3,x1,x3,zs,e4,hp0,Yr,QV,ldA,Qh,ldT,sl,sr,cs,je,t2,v2];rfl
  have u1:=jfk l w exl exw;have u2:=jaI l w exl exw;obtain ⟨u,b,hu,hut,huf⟩:=jcS (JQ l w);rw [hu] at u1 u2;cases b
  ·refine ⟨none,?_,?_,λx h=>by cases h⟩
   ·simp only [jd,p1,p2,p3,x1,x3,Yr,QV,ldA,Qh,ldT,hs,e3,hp0,sl,sr,cs,je,a1,t1,v1,u1];rfl
   ·simp only [jd,a2,c1,q1,c2,q2,q3,x1,x3,zs,e4,hp0,Yr,QV,ldA,Qh,ldT,sl,sr,cs,je,t2,v2,u2];rfl
  have hval:=Yp exl exw (hut rfl);have b1:=yH u hval l (Or.inl kl) (by omega);have b2:=yH u hval r (Or.inl kr) (by omega);have b3:=Ku u (yT hval).sz l tzl;have b4:=Ku u (yT hval).sz r tzr;have tsl:=KN.sub_tz hval (Or.inl kl) (by omega);have tsr:=KN.sub_tz hval (Or.inl kr) (by omega);have b5:=Zp (sub u l) tsl.wf tsl;have b6:=Zp (sub u r) tsr.wf tsr;rw [jc4 hval kl] at b5;rw [jc4 hval kr] at b6;cases s1:jD (sub u l)<;>rw [s1] at b1 b5
  ·have b1:G 123 [sb u,tm l]=some (.tup [.agg [sv [],.sl 2 []],vb false],[]):=b1;obtain ⟨z,hz⟩:∃z:T × Bool,G 123 [sb u,tm r]=some (.tup [tm z.1,vb z.2],[]):=by
    cases h:jD (sub u r)<;>rw [h] at b2
    ·exact ⟨(.mk [] [],false),b2⟩
    ·exact ⟨(sub u r,true),b2⟩
   refine ⟨none,?_,?_,λx h=>by cases h⟩
   ·simp only [jd,p1,p2,p3,x1,x3,Yr,QV,ldA,Qh,ldT,hs,e3,hp0,sl,sr,cs,je,a1,t1,v1,u1,b1,hz];rfl
   ·simp only [jd,a2,c1,q1,c2,q2,q3,x1,x3,zs,e4,hp0,Yr,QV,ldA,Qh,ldT,sl,sr,cs,je,t2,v2,u2,b3,b4,b5];rfl
  have b1:G 123 [sb u,tm l]=some (.tup [tm (sub u l),vb true],[]):=b1;cases s2:jD (sub u r)<;>rw [s2] at b2 b6
  ·have b2:G 123 [sb u,tm r]=some (.tup [.agg [sv [],.sl 2 []],vb false],[]):=b2;refine ⟨none,?_,?_,λx h=>by cases h⟩
   ·simp only [jd,p1,p2,p3,x1,x3,Yr,QV,ldA,Qh,ldT,hs,e3,hp0,sl,sr,cs,je,a1,t1,v1,u1,b1,b2];rfl
   ·simp only [jd,a2,c1,q1,c2,q2,q3,x1,x3,zs,e4,hp0,Yr,QV,ldA,Qh,ldT,sl,sr,cs,je,t2,v2,u2,b3,b4,b5,b6];rfl
  have b2:G 123 [sb u,tm r]=some (.tup [tm (sub u r),vb true],[]):=b2;obtain ⟨o,o1,o2,_⟩:=jjl (sub u l) (sub u r) tsl.wf tsr.wf tsl tsr (by rw [jc4 hval kl];exact s1) (by rw [jc4 hval kr];exact s2);by_cases h1:o=1
  ·refine ⟨none,?_,?_,λx h=>by cases h⟩
   ·simp only [jd,p1,p2,p3,x1,x3,Yr,QV,ldA,Qh,ldT,hs,e3,hp0,sl,sr,cs,je,a1,t1,v1,u1,b1,b2,o2,h1];rfl
   ·simp only [jd,a2,c1,q1,c2,q2,q3,x1,x3,zs,e4,hp0,Yr,QV,ldA,Qh,ldT,sl,sr,cs,je,t2,v2,u2,b3,b4,b5,b6,o1,h1];rfl
  by_cases h3:o=3
  ·refine ⟨none,?_,?_,λx h=>by cases h⟩
   ·have h13:¬(3:Int)=1:=by decide
    simp only [jd,p1,p2,p3,x1,x3,Yr,QV,ldA,Qh,ldT,hs,e3,hp0,sl,sr,cs,je,a1,t1,v1,u1,b1,b2,o2,h3,h13];rfl
   ·have h13:¬(3:Int)=1:=by decide
    simp only [jd,a2,c1,q1,c2,q2,q3,x1,x3,zs,e4,hp0,Yr,QV,ldA,Qh,ldT,sl,sr,cs,je,t2,v2,u2,b3,b4,b5,b6,o1,h3,h13];rfl
  have hint:=jyZ q;have rp1:=jg1 r tzr q E.2 tE hq hql;have rp2:=joo r tzr q E.2 tE hq hql;rw [<-hint,<-hpe] at rp1 rp2;have hbw:=jvP kr hqne hq hb2.1;have hnw:=jj5 r q E.2 hq;have hlnA:=LN.append cc ce m n;have hlen8:(c.eraseIdx m).length<=8/\((jF d).eraseIdx n).length<=8:=⟨by have:=jj8 c m;omega,by have:=jj8 (jF d) n;have:=ce.1;omega⟩;have hln:LN (c.eraseIdx m++(jF d).eraseIdx n++[(E.1,ze r q E.2)]):=⟨by
   rw [zh,zh];simp only [zk,yw];omega,λx hx=>by
   rcases kZ.1 hx with hx|hx
   ·exact hlnA.2 x hx
   ·rw [ku.1 hx];exact ⟨hbw,by show nodes (ze r q E.2)<=100;omega⟩⟩
  have w1:=ZB c (by omega) m hm;have w2:=ZB (jF d) (by omega) n hn2;have w3:=KJ c (by omega) m hm;have w4:=KJ (jF d) (by omega) n hn2;have cat:=jk1 [c.eraseIdx m,(jF d).eraseIdx n,[(E.1,ze r q E.2)]] (by simp) (λx hx=>by
   simp only [jZ,qK,Jb] at hx;rcases hx with rfl|rfl|rfl
   ·omega
   ·omega
   ·simp)
  have hfl: [c.eraseIdx m,(jF d).eraseIdx n,[(E.1,ze r q E.2)]].flatten=c.eraseIdx m++(jF d).eraseIdx n++[(E.1,ze r q E.2)]:=by simp
  rw [hfl] at cat;have cat:jfy [[.sl 3 ((c.eraseIdx m).map jG)],[.sl 3 (((jF d).eraseIdx n).map jG)],[.sl 3 [[vb E.1,sv (ze r q E.2).name,jH (ze r q E.2).args]]]]=some (.top,[.sl 3 ((c.eraseIdx m++(jF d).eraseIdx n++[(E.1,ze r q E.2)]).map jG)]):=cat;have g1:=ZP u hval _ hln;have g2:=KU u hval _ hln;have hf:jA ((c.eraseIdx m).length+((jF d).eraseIdx n).length) 48=true:=ZS (by omega);have ha:jW ((c.eraseIdx m).map jG) (((jF d).eraseIdx n).map jG)=(c.eraseIdx m++(jF d).eraseIdx n).map jG:=by rw [zy];rfl
  have hf2:jA ((c.eraseIdx m++(jF d).eraseIdx n).length+1) 48=true:=ZS (by rw [zh];omega)
  have ha2:jW ((c.eraseIdx m++(jF d).eraseIdx n).map jG) [[vb E.1,sv (ze r q E.2).name,jH (ze r q E.2).args]]=(c.eraseIdx m++(jF d).eraseIdx n++[(E.1,ze r q E.2)]).map jG:=by rw [zy (l₁:=c.eraseIdx m++(jF d).eraseIdx n)];rfl
  refine ⟨qZ u (c.eraseIdx m++(jF d).eraseIdx n++[(E.1,ze r q E.2)]),?_,?_,λx hx=>⟨ZU hx,sdx hqne hq (by rw [<-hw];exact kw) (by rw [<-hw];omega) (by rw [<-hw];exact hut rfl) hx⟩⟩
  ·obtain ⟨c',b',hr⟩:=zW (qZ u (c.eraseIdx m++(jF d).eraseIdx n++[(E.1,ze r q E.2)]));rw [hr] at g1 ⊢;generalize c.eraseIdx m++(jF d).eraseIdx n++[(E.1,ze r q E.2)]=Z at *;simp only [jd,p1,p2,p3,x1,x3,Yr,QV,ldA,Qh,ldT,hs,e3,hp0,sl,sr,cs,je,a1,t1,v1,u1,b1,b2,o2,h1,h3,rp1];generalize hB:kX _ _ _=B;have hB':B=some (ltm (E.1,ze r q E.2)):=by rw [<-hB];kernel_rfl
   rw [hB'];simp only [jd,w1,w2,cat,hRl,g1]
  ·obtain ⟨c',b',hr⟩:=zW (qZ u (c.eraseIdx m++(jF d).eraseIdx n++[(E.1,ze r q E.2)]));rw [hr] at g2 ⊢;generalize c.eraseIdx m++(jF d).eraseIdx n++[(E.1,ze r q E.2)]=Z at *;simp only [jd,a2,c1,q1,c2,q2,q3,x1,x3,zs,e4,hp0,Yr,QV,ldA,Qh,ldT,sl,sr,cs,je,t2,v2,u2,b3,b4,b5,b6,o1,h1,h3,w3,w4,hRl,hf,ha,rp2];generalize hB:kX _ _ _=B;have hB':B=some (ltm (E.1,ze r q E.2)):=by rw [<-hB];kernel_rfl
   rw [hB'];simp only [jd,hf2,ha2,g2]
theorem jrj (c d:kh) (hc:jN c=true) (hd:jN d=true) (i side k:Int) (p:List Int) (hpl:p.length<=1048576):∃o:Option kh,G 86 [cm c,vi i,vi side,cm d,vi k,ints p]=Jz o/\G 103 [cm c,vi i,vi side,cm d,vi k,ints p]=Jz o/\ ∀x,o=some x->jN x=true/\Sd [c,d] x:=by
 obtain ⟨cc,_,_,_⟩:=km hc;obtain ⟨cd,_,_,_⟩:=km hd;have lc:=cc.1;have ld:=cd.1;have le:=jfM d;have a2:=jfL d hd;have p1:=yb c (by omega) i;have p2:=yb d (by omega) k;have c1:ck (((c.length:Nat):Int) - 1)=some (vi (((c.length:Nat):Int) - 1)):=jE (by omega) (by omega);have c2:ck ((((jF d).length:Nat):Int) - 1)=some (vi ((((jF d).length:Nat):Int) - 1)):=jE (by omega) (by omega);have q1:=yx i 0 (((c.length:Nat):Int) - 1);have q2:=yx k 0 ((((jF d).length:Nat):Int) - 1);have q3:=yx side 0 1;have p3:=qh side 0 1;have hi':qx 0 (((c.length:Nat):Int) - 1) i=Yi c i:=rfl;have hk':qx 0 ((((jF d).length:Nat):Int) - 1) k=Yi d k:=by rw [le];rfl
 rw [hi'] at q1;rw [hk'] at q2;cases hi:Yi c i<;>rw [hi] at p1 q1
 ·exact ⟨none,by rw [g86];simp only [jd,p1];rfl,by rw [jsN];simp only [jd,a2,c1,q1];rfl,λx h=>by cases h⟩
 cases hk:Yi d k<;>rw [hk] at p2 q2
 ·exact ⟨none,by rw [g86];simp only [jd,p1,p2];rfl,by rw [jsN];simp only [jd,a2,c1,q1,c2,q2];rfl,λx h=>by cases h⟩
 cases hs:qx 0 1 side<;>rw [hs] at p3 q3
 ·exact ⟨none,by rw [g86];simp only [jd,p1,p2,p3];rfl,by rw [jsN];simp only [jd,a2,c1,q1,c2,q2,q3];rfl,λx h=>by cases h⟩
 obtain ⟨m,rfl,hm⟩:=KB hi;obtain ⟨n,rfl,hn⟩:=KB hk;have x1:=ja (k:=3) (f:=jG) hm;have hb1:=cc.2 _ (jC hm);have e3:=qG c[m].2;have e4:=jbL c[m] true;have e4:G 147 [.agg [vb c[m].1,sv c[m].2.name,jH c[m].2.args],vb true]=_:=e4;by_cases hp:c[m].1=true;rotate_left
 ·have hp0:c[m].1=false:=by cases h:c[m].1 with|false=>rfl|true=>exact (hp h).elim
  rw [kA hp,jK] at e4;refine ⟨none,?_,?_,λx h=>by cases h⟩
  ·rw [g86];simp only [jd,p1,p2,p3,x1,Yr,Qh,hp0];rfl
  ·rw [jsN];simp only [jd,a2,c1,q1,c2,q2,q3,x1,zs,e4];rfl
 rw [jQ hp,jR] at e4;by_cases he:c[m].2.name = [61];rotate_left
 ·rw [kA he] at e3 e4;refine ⟨none,?_,?_,λx h=>by cases h⟩
  ·rw [g86];simp only [jd,p1,p2,p3,x1,Yr,Qh,ldT,hp,e3];rfl
  ·rw [jsN];simp only [jd,a2,c1,q1,c2,q2,q3,x1,zs,e4];rfl
 by_cases hne:p = []
 ·have e3':=e3;rw [jQ he] at e3' e4;subst hne;have hl:zn (ints [])=some (vi 0):=rfl;refine ⟨none,?_,?_,λx h=>by cases h⟩
  ·rw [g86];simp only [jd,p1,p2,p3,x1,Yr,Qh,ldT,hp,e3',hl];rfl
  ·rw [jsN];simp only [jd,a2,c1,q1,c2,q2,q3,x1,zs,e4,hl];rfl
 obtain ⟨l2,k0,k1,n0,n1,i0,i1⟩:=jpn hb1.1 he hb1.2;have hside:side=0\/side=1:=by
  unfold qx at hs;rw [jy,kM,kM] at hs;omega
 rcases hside with rfl|rfl
 ·exact jbd c d cc hd m n hm hn hp he l2 (YF c[m].2) (QC c[m].2) (Or.inl ⟨rfl,rfl⟩) 0 hs i0 i1 k0 k1 n0 n1 p hpl hne
 ·exact jbd c d cc hd m n hm hn hp he l2 (QC c[m].2) (YF c[m].2) (Or.inr ⟨rfl,rfl⟩) 1 hs i1 i0 k1 k0 n1 n0 p hpl hne
theorem jbc (c d:kh) (lc:c.length<=1048576) (zc:∀l∈c,Tz l.2) (ld:d.length<=1048576) (zd:∀l∈d,Tz l.2) (i side k:Int) (p:List Int) (hpl:p.length<=1048576):jkJ [c,d] 55 71 [cm c,vi i,vi side,cm d,vi k,ints p]:=by
 have n1:=yK c lc zc;have n2:=yK d ld zd;have m1:=qb c lc zc;have m2:=qb d ld zd;cases hc:jN c<;>rw [hc] at n1 m1
 ·exact JF (by rw [g55];simp only [jd,n1]) (by rw [g71];simp only [jd,m1])
 cases hd:jN d<;>rw [hd] at n2 m2
 ·exact JF (by rw [g55];simp only [jd,n1,n2]) (by rw [g71];simp only [jd,m1,m2])
 obtain ⟨r,e1,e2,e3⟩:=jrj c d hc hd i side k p hpl;obtain ⟨c',b',hr⟩:=zW r;refine ⟨r,?_,?_,e3⟩
 ·rw [hr] at e1 ⊢;rw [g55];simp only [jd,n1,n2,e1]
 ·rw [hr] at e2 ⊢;rw [g71];simp only [jd,m1,m2,e2]
theorem jBb {rs:List T} (hr:RS rs):∀ {c r:kh},(∀y∈c,Bx y.2/\nodes y.2<=30)->rwL rs c=some r-> ∀y∈r,Bx y.2
 | [],r,_,h=>by cases h;exact λy hy=>by cases hy
 | x::c,r,hb,h=>by
  rw [rwL] at h;split at h
  ·cases h
  ·rename_i q hq;obtain ⟨r',h1,rfl⟩:=yB.1 h;have hx:=hb x (K1 ..);intro y hy;rcases jZ.1 hy with rfl|hy
   ·exact (jcX hr 51 0 (hx.1.exB hx.2) hq).1
   ·exact jBb hr (λz hz=>hb z (JR _ hz)) h1 y hy
theorem jBc {m:Mdl} {e:List UInt8->Int} (he:joL m e) {rs:List T} (hr:jat rs) (hh:joW m.M m.good rs):∀ {c r:kh},(∀y∈c,Bx y.2)->rwL rs c=some r->clV m e c->clV m e r
 | [],r,_,h,hc=>by cases h;exact hc
 | x::c,r,hb,h,⟨l,hl,hv⟩=>by
  rw [rwL] at h;split at h
  ·cases h
  ·rename_i q hq;obtain ⟨r',h1,rfl⟩:=yB.1 h;rcases jZ.1 hl with rfl|hl
   ·obtain ⟨g1,g2,_⟩:=jBd (M:=m.M) (good:=m.good) m.ok he hr hh 51 0 l.2 (hb l (K1 ..)).args hq;exact ⟨(l.1,q.1),K1 ..,by show qR m e q.1=l.1;rw [YM g1 g2];exact hv⟩
   ·obtain ⟨l',hl',hv'⟩:=jBc he hr hh (λz hz=>hb z (JR _ hz)) h1 ⟨l,hl,hv⟩;exact ⟨l',JR _ hl',hv'⟩
theorem jtB {c:kh} (hc:CN c) {rs:List T} (hr:RS rs) (hn:∀t∈rs,t.name = [61]) {x:kh} (hx:jeD rs [] c=some x):Sd (c::rs.map λt=>[(true,t)]) x:=by
 intro m hm;unfold jeD at hx;rw [zI] at hx;obtain ⟨r,h1,h2⟩:=hx;rw [Ju] at h2;have tc:=hm c (K1 ..);have hh:joW m.M m.good rs:=λt ht e he=>by
  obtain ⟨l,hl,hv⟩:=hm [(true,t)] (JR _ (zN.2 ⟨t,ht,rfl⟩)) e he;rw [ku.1 hl,jiC m e (hn t ht) (hr.2 t ht).1] at hv;exact jg9 hv
 refine je8 h2 (jBb hr hc.2 h1) λe he=> ?_;exact jBc (ZO m he []) hr.ok hh (λy hy=>(hc.2 y hy).1) h1 (tc _ (ZO m he []))
theorem jtv (c:kh) (hc:jN c=true) (rs:List T) (hr:RS rs) (hnm:∀t∈rs,t.name = [61]):∃r:Option kh,joP (jH rs) (.sl 3 (c.map jG)) (vi (c.length:Nat)) (vi 0) [] []=Jz r/\G 152 [cm c,jH rs]=Jz r/\ ∀x,r=some x->jN x=true/\Sd (c::rs.map λt=>[(true,t)]) x:=by
 obtain ⟨cc,_,_,_⟩:=km hc;have lc:=cc.1;have zb:sb [] = .agg [.sl 3 []]:=rfl;have ld:∀l:Lt,kN (.elt (jG l) 0)=some (vb l.1):=λl=>rfl;have kI:=upto (P:=λi=>∀R:kh,R.length<=i->(∀x∈R,Bx x.2/\nodes x.2<=100)->joP (jH rs) (.sl 3 (c.map jG)) (vi (c.length:Nat)) (vi (i:Nat)) (R.map jG) []=Jz (jeD rs R (c.drop i))) (n:=c.length) ?_ ?_ 0 (ko _) [] (ko _) (λx h=>by cases h);rotate_left
 ·intro R hR hx;have e:=ZP [] jgf R ⟨by omega,hx⟩;have hend:jeD rs R (c.drop c.length)=qZ [] R:=by
   rw [kg];show qZ [] (R++[])=_;rw [qv]
  rw [hend];obtain ⟨c',b',hr'⟩:=zW (qZ [] R);rw [hr'] at e ⊢;have e:G 90 [.agg [.sl 3 []],.sl 3 (R.map jG)]=_:=e;rw [jEU];simp only [jd,e]
 ·intro i hi ih R hR hx;have hlt:(i:Int) < ((c.length:Nat):Int):=by omega
  have hck:ck ((i:Int)+1)=some (vi ((i+1:Nat):Int)):=jE (by omega) (by omega);have hb:=cc.2 _ (jC hi);have e1:=jA2 rs hr c[i].2 (hb.1.exB hb.2);have hf:jA (R.length+1) 48=true:=ZS (by omega);rw [jEU];unfold jeD;rw [jq7 hi];cases hq:rwN rs false 51 0 c[i].2 with
  | none=>
   rw [hq] at e1;have e1:G 89 [tm c[i].2,jH rs,vb false]=some (.tup [.agg [sv [],.sl 2 []],vi 0,vb false],[]):=e1;simp only [jd,hlt,ja hi,zs,e1];rfl
  | some q=>
   rw [hq] at e1;have e1:G 89 [tm c[i].2,jH rs,vb false]=some (.tup [tm q.1,vi (q.2:Nat),vb true],[]):=e1;obtain ⟨bq,nq⟩:=jcX hr 51 0 (hb.1.exB hb.2) hq;have:=ih (R++[(c[i].1,q.1)]) (by rw [zh];simp only [zk,yw];omega) (λx h=>by
    rcases kZ.1 h with h|h
    ·exact hx x h
    ·rw [ku.1 h];exact ⟨bq,by show nodes q.1<=100;omega⟩)
   have ha:jW (R.map jG) [[vb c[i].1,sv q.1.name,jH q.1.args]]=(R++[(c[i].1,q.1)]).map jG:=by rw [zy];rfl
   have hend:((rwL rs (c.drop (i+1))).map ((c[i].1,q.1)::·)).bind (λr=>qZ [] (R++r))=jeD rs (R++[(c[i].1,q.1)]) (c.drop (i+1)):=by
    unfold jeD;cases rwL rs (c.drop (i+1)) with
    | none=>rfl
    | some r=>show qZ [] (R++(c[i].1,q.1)::r)=qZ [] (R++[(c[i].1,q.1)]++r);rw [yv];rfl
   show _=Jz (((rwL rs (c.drop (i+1))).map ((c[i].1,q.1)::·)).bind (λr=>qZ [] (R++r)));rw [hend,<-this];simp only [jd,hlt,ja hi,zs,e1,hf,ha,hck]
 have kS:=upto (P:=λi=>∀R:kh,R.length<=i->(∀x∈R,Bx x.2/\nodes x.2<=100)->jmD (jH rs) (vi (i:Nat)) (.sl 3 (c.map jG)) (R.map jG) []=Jz (jeD rs R (c.drop i))) (n:=c.length) ?_ ?_ 0 (ko _) [] (ko _) (λx h=>by cases h);rotate_left
 ·intro R hR hx;have e:=KU [] jgf R ⟨by omega,hx⟩;have hend:jeD rs R (c.drop c.length)=qZ [] R:=by
   rw [kg];show qZ [] (R++[])=_;rw [qv]
  rw [hend];obtain ⟨c',b',hr'⟩:=zW (qZ [] R);rw [hr'] at e ⊢;have e:G 145 [.agg [.sl 3 []],.sl 3 (R.map jG)]=_:=e;rw [jzw];simp only [jd,e]
 ·intro i hi ih R hR hx;have hlt:(i:Int) < ((c.length:Nat):Int):=by omega
  have hck:ck ((i:Int)+1)=some (vi ((i+1:Nat):Int)):=jE (by omega) (by omega);have hb:=cc.2 _ (jC hi);have e1:=jA3 rs hr c[i].2 (hb.1.exB hb.2);have hf:jA (R.length+1) 48=true:=ZS (by omega);rw [jzw];unfold jeD;rw [jq7 hi];cases hq:rwN rs false 51 0 c[i].2 with
  | none=>
   rw [hq] at e1;have e1:G 197 [tm c[i].2,jH rs,vb false]=some (.tup [.agg [sv [],.sl 2 []],vi 0,vb false],[]):=e1;simp only [jd,hlt,ja hi,Yr,ldT,e1];rfl
  | some q=>
   rw [hq] at e1;have e1:G 197 [tm c[i].2,jH rs,vb false]=some (.tup [tm q.1,vi (q.2:Nat),vb true],[]):=e1;obtain ⟨bq,nq⟩:=jcX hr 51 0 (hb.1.exB hb.2) hq;have:=ih (R++[(c[i].1,q.1)]) (by rw [zh];simp only [zk,yw];omega) (λx h=>by
    rcases kZ.1 h with h|h
    ·exact hx x h
    ·rw [ku.1 h];exact ⟨bq,by show nodes q.1<=100;omega⟩)
   have ha:jW (R.map jG) [[vb c[i].1,sv q.1.name,jH q.1.args]]=(R++[(c[i].1,q.1)]).map jG:=by rw [zy];rfl
   have hend:((rwL rs (c.drop (i+1))).map ((c[i].1,q.1)::·)).bind (λr=>qZ [] (R++r))=jeD rs (R++[(c[i].1,q.1)]) (c.drop (i+1)):=by
    unfold jeD;cases rwL rs (c.drop (i+1)) with
    | none=>rfl
    | some r=>show qZ [] (R++(c[i].1,q.1)::r)=qZ [] (R++[(c[i].1,q.1)]++r);rw [yv];rfl
   show _=Jz (((rwL rs (c.drop (i+1))).map ((c[i].1,q.1)::·)).bind (λr=>qZ [] (R++r)));rw [hend,<-this];simp only [jd,hlt,ja hi,Yr,Qh,ldT,e1,hf,ha,hck]
 simp only [kU,ql,kD] at kI kS;refine ⟨jeD rs [] c,kI,?_,λx h=> ?_⟩
 ·rw [jKK];simp only [jd,kS]
 ·refine ⟨?_,jtB cc hr hnm h⟩;unfold jeD at h;rw [zI] at h;obtain ⟨r,_,h⟩:=h;exact ZU h
theorem jcc (c:kh) (lc:c.length<=1048576) (zc:∀l∈c,Tz l.2) (rs:List T) (hl:rs.length<=1048576) (hz:∀r∈rs,Tz r):jkJ (c::rs.map λt=>[(true,t)]) 58 105 [cm c,jH rs]:=by
 have n1:=yK c lc zc;have m1:=qb c lc zc;cases hc:jN c<;>rw [hc] at n1 m1
 ·exact JF (by rw [g58];simp only [jd,n1]) (by rw [jDi];simp only [jd,m1])
 obtain ⟨b,r1,r2,hb⟩:=jq3 rs hl hz;cases b
 ·exact JF (by rw [g58];simp only [jd,n1,r2]) (by rw [jDi];simp only [jd,m1,r1])
 obtain ⟨r,e1,e2,e3⟩:=jtv c hc rs (hb rfl).1 (λt ht=>((hb rfl).2 t ht).1);obtain ⟨c',b',hr⟩:=zW r;refine ⟨r,?_,?_,e3⟩
 ·rw [hr] at e1 ⊢;rw [g58];simp only [jd,n1,r2,e1]
 ·rw [hr] at e2 ⊢;rw [jDi];simp only [jd,m1,r1,e2]
def Cz (c:kh):Prop:=c.length<=1048576/\ ∀l∈c,Tz l.2
noncomputable def wfP (p:Prf):Bool:=decide (p.ax.length<=30) && p.ax.all jN && decide (p.st.length<=60)
theorem jkt (c:kh) (hc:Cz c):G 47 [cm c]=some (vb (!jN c),[]):=by
 have e:=yK c hc.1 hc.2;rw [g47];simp only [jd,e]
theorem jpE (l:List kh) (hl:l.length<=1048576) (hz:∀c∈l,Cz c):∃k:Int,joQ (cls l) (.fn 47 []) (vi (l.length:Nat)) (vi 0)=some (vi k,[])/\decide (k>=0)=l.any (λc=> !jN c):=by
 have key:=upto (P:=λi=>∃k:Int,joQ (cls l) (.fn 47 []) (vi (l.length:Nat)) (vi (i:Nat))=some (vi k,[])/\decide (k>=0)=(l.drop i).any (λc=> !jN c)) (n:=l.length) ?_ ?_ 0 (ko _)
 ·simpa only [kU,kD] using key
 ·refine ⟨-1,?_,?_⟩
  ·rw [jE3];simp only [jd]
  ·rw [kg];rfl
 ·intro i hi ⟨k,ih1,ih2⟩;have hlt:(i:Int) < ((l.length:Nat):Int):=by omega
  have h5:=js hi (by show l.length<=9223372036854775807;omega)
  have e1:=jkt l[i] (hz _ (jC hi));have hp:K.pureF 47=true:=rfl;have cc:DX.run K (MM K) (.callc (.fn 47 []) [cm l[i]] false)=some (vb (!jN l[i])):=by
   rw [qP hp,qv,e1];rfl
  rw [jE3,ji hi,List.any_cons];cases hn:jN l[i]<;>rw [hn] at cc
  ·refine ⟨i,?_,?_⟩
   ·simp only [jd,hlt,ja hi,Yz,cc]
   ·rw [jQ (by omega)];rfl
  ·refine ⟨k,?_,?_⟩
   ·simp only [jd,hlt,ja hi,Yz,cc,h5,ih1]
   ·rw [ih2];rfl
theorem jnc (l:List kh) (hl:l.length<=1048576) (hz:∀c∈l,Cz c):G 24 [cls l]=some (vb (l.all jN),[]):=by
 obtain ⟨k,h1,h2⟩:=jpE l hl hz;have e2:G 78 [cls l,.fn 47 []]=some (vi k,[]):=by
  rw [g78];simp only [jd,h1]
 have e3:G 46 [cls l,.fn 47 []]=some (vb (l.any (λc=> !jN c)),[]):=by
  rw [g46];simp only [jd,e2,h2]
 have e4:(!l.any (λc=> !jN c))=l.all jN:=by rw [List.all_eq_not_any_not]
 rw [g24];simp only [jd,e3,e4]
theorem QL (p:Prf) (ha:p.ax.length<=1048576) (hz:∀c∈p.ax,Cz c):G 12 [prm p]=some (vb (wfP p),[]):=by
 have e:=jnc p.ax ha hz;unfold wfP;rw [g12];by_cases h1:((p.ax.length:Nat):Int)<=30
 ·rw [jQ (p:=p.ax.length<=30) (by omega),jR];cases h2:p.ax.all jN<;>rw [h2] at e
  ·rw [jK];simp only [jd,h1,e]
  ·rw [jR,show decide (p.st.length<=60)=decide (((p.st.length:Nat):Int)<=60) from jgo.2 (by omega)];simp only [jd,h1,e]
 ·rw [kA (p:=p.ax.length<=30) (by omega),jK,jK];simp only [jd,h1]
theorem jpT (p:Prf) (ha:p.ax.length<=1048576) (hz:∀c∈p.ax,Cz c):G 25 [prm p]=some (vb (wfP p),[]):=by
 have key:=upto (P:=λi=>jub (vi (i:Nat)) (cls p.ax) (JE p.st)=some (vb ((p.ax.drop i).all jN),[])) (n:=p.ax.length) ?_ ?_ 0 (ko _)
 ·simp only [kU,kD] at key;unfold wfP;rw [g25];by_cases h1:((p.ax.length:Nat):Int) > 30
  ·rw [kA (p:=p.ax.length<=30) (by omega),jK,jK];simp only [jd,h1]
  ·by_cases h2:((p.st.length:Nat):Int) > 60
   ·rw [kA (p:=p.st.length<=60) (by omega),zr];simp only [jd,h1,h2]
   ·rw [jQ (p:=p.st.length<=60) (by omega),jQ (p:=p.ax.length<=30) (by omega),jR,ZC];simp only [jd,h1,h2,key]
 ·rw [jEO,kg];simp only [jd]
 ·intro i hi ih;have hlt:(i:Int) < ((p.ax.length:Nat):Int):=by omega
  have h5:=js hi (by show p.ax.length<=9223372036854775807;omega)
  have hc:=hz _ (jC hi);have e1:=qb p.ax[i] hc.1 hc.2;rw [jEO,ji hi,yU];cases hn:jN p.ax[i]<;>rw [hn] at e1
  ·rw [jK];simp only [jd,hlt,ja hi,Yz,e1]
  ·rw [jR,<-ih];simp only [jd,hlt,ja hi,Yz,e1,h5]
noncomputable def jL7 (out:List kh) (r:kh):Bool:=out.any λx=>dq x r
noncomputable def jJW (out:List kh) (r:kh):List kh:=if jL7 out r then out else out++[r]
noncomputable def jJl:List kh->List kh->List kh
 | out,[]=>out
 | out,r::l=>jJl (jJW out r) l
def jI7 (R:Nat->Option kh):Nat->Nat->List kh
 | 0,_=>[]
 | j+1,k=>(R k).toList++jI7 R j (k+1)
def jI8 (R:Nat->Nat->Option kh) (m:Nat):Nat->Nat->List kh
 | 0,_=>[]
 | j+1,i=>jI7 (R i) m 0++jI8 R m j (i+1)
theorem CN.cz {c:kh} (h:CN c):Cz c:=⟨by have:=h.1;omega,h.tz⟩
theorem jA6 {xs:List kh} {i:Nat} (h:i < xs.length):qc (xs.map QD) i 0 1=some (cm xs[i]):=jA7 h 1
theorem jxV (out:List kh) (r:kh):jW (out.map QD) [[.sl 3 (r.map jG)]]=(out++[r]).map QD:=by rw [zy];rfl
theorem jFk {n:Nat} (h:n<=1000000):jA n 24=true:=by
 unfold jA;exact jQ ⟨by omega,by omega⟩
section
variable {c d:kh} {R:Nat->Nat->Option kh} (hR:∀i k:Nat,G 84 [cm c,vi (i:Nat),cm d,vi (k:Nat)]=Jz (R i k)/\G 101 [cm c,vi (i:Nat),cm d,vi (k:Nat)]=Jz (R i k)/\ ∀x,R i k=some x->Cz x)
include hR
end
section
variable {c:kh} {R:Nat->Nat->Option kh} (hR:∀i k:Nat,i<=100->G 85 [cm c,vi (i:Nat),vi (k:Nat)]=Jz (R i k)/\G 102 [cm c,vi (i:Nat),vi (k:Nat)]=Jz (R i k)/\ ∀x,R i k=some x->Cz x)
include hR
end
abbrev cy (n:Int):List A:=[vy n]
abbrev zq (l:List Int):A:= .sl 1 (l.map cy)
abbrev vu (n:Int):A:= .val (.int .u64 n)
def By (l:List Int):Prop:=(∀n∈l,0<=n/\n<=255)/\l.length<=65536
theorem Jo (a x0 x1 x2 x3:A) (us:List T) (l:List A):hR 2 (a,x0::x1::x2::x3::jH us::l) 4=some (us.map jo):=by simp [hR,jH]
set_option maxRecDepth 100000 in
theorem jBN:∀n:Fin 256,IntKind.u64.wrap ((n.val:Nat):Int)=((n.val:Nat):Int):=by decide
theorem jAP (x y:Int):ju .mul false (vu x) (vu y)=some (vu (IntKind.u64.wrap (x * y))):=rfl
theorem jAO (x y:Int):ju .add false (vu x) (vu y)=some (vu (IntKind.u64.wrap (x+y))):=rfl
theorem jG0 (x:Int):ju .shr false (vu x) (vu 40)=some (vu (QW .shr .u64 x 40)):=by
 show (if (0:Int)<=40 then some (vu (QW .shr .u64 x 40)) else none)=_;rw [jg (by decide)]
theorem jGZ (x:Int):ju .and false (vu x) (vu 255)=some (vu (QW .and .u64 x 255)):=rfl
theorem jvU (x:Int):0<=QW .and .u64 x 255/\QW .and .u64 x 255<=255:=by
 have h:(BitVec.ofInt 64 x &&& BitVec.ofInt 64 255).toNat<=255:=by
  rw [BitVec.toNat_and];have h2:(BitVec.ofInt 64 255).toNat=255:=by decide
  rw [h2];exact Nat.and_le_right
 show 0<=IntKind.u64.wrap (((BitVec.ofInt 64 x &&& BitVec.ofInt 64 255).toNat:Nat):Int)/\IntKind.u64.wrap (((BitVec.ofInt 64 x &&& BitVec.ofInt 64 255).toNat:Nat):Int)<=255;generalize (BitVec.ofInt 64 x &&& BitVec.ofInt 64 255).toNat=m at *;have:=jBN ⟨m,by omega⟩;simp only at this;rw [this];omega
theorem jAC (k:IntKind) (a:Int):yS .u64 (.val (.int k a))=some (vu (IntKind.u64.wrap a)):=rfl
theorem jtg (k:IntKind) (a:Int):yS .i64 (.val (.int k a))=ck a:=rfl
theorem jAp (n:Int):jI (vu n)=true:=rfl
section
variable {code:List Int} (hb:By code)
include hb
theorem jDC (a s:Int) (h0:0<=a) (h1:a<=1000000000):∃s' x,0<=x/\x<=255/\jt0 (zq code) (vi a) (vu s)=some (.top,[zq code,vi (a+1),vu s',vi x]):=by
 obtain ⟨k,rfl⟩:∃k:Nat,a=(k:Nat):=⟨a.toNat,by omega⟩;have c1:ck (((k:Nat):Int)+1)=some (vi (((k:Nat):Int)+1)):=jE (by omega) (by omega);have hcl:=hb.2;rw [jHX];by_cases hk:k < code.length
 ·have hlt:((k:Nat):Int) < ((code.length:Nat):Int):=by omega
  have hle:((k:Nat):Int)+1<=((code.length:Nat):Int):=by omega
  have hv:=hb.1 code[k] (jC hk);have c2:ck code[k]=some (vi code[k]):=jE (by omega) (by omega);exact ⟨_,code[k],hv.1,hv.2,by simp only [jd,hlt,ja hk,jtg,c2,c1,jAP,jAC,jAO,jAp,hle];rfl⟩
 ·have hlt:¬((k:Nat):Int) < ((code.length:Nat):Int):=by omega
  have hle:¬((k:Nat):Int)+1<=((code.length:Nat):Int):=by omega
  generalize hz:IntKind.u64.wrap (IntKind.u64.wrap (IntKind.u64.wrap (s * 6364136223846793005)+IntKind.u64.wrap 0)+892892)=z;have hbd:=jvU (QW .shr .u64 z 40);have c2:ck (QW .and .u64 (QW .shr .u64 z 40) 255)=some (vi (QW .and .u64 (QW .shr .u64 z 40) 255)):=jE (by omega) (by omega);exact ⟨z,_,hbd.1,hbd.2,by simp only [jd,hlt,c1,jAP,jAC,jAO,hz,jAp,hle,jG0,jGZ,jtg,c2]⟩
omit hb in
theorem jnY {x n:Int} (h0:0<=x) (hn:1<=n):ju .rem false (vi x) (vi n)=some (vi (x % n)):=by
 show (if n=0 then none else some (vi (x.tmod n)))=_;rw [jf (by omega),Int.tmod_eq_emod_of_nonneg h0]
theorem zX (n:Int) (hn:1<=n) (hn':n<=200) (a s:Int) (h0:0<=a) (h1:a<=1000000000):∃a' s' x,a<=a'/\a'<=a+1/\0<=x/\x < n/\z6 (vi n) (zq code) (vi a) (vu s)=some (.top,[zq code,vi a',vu s',vi x]):=by
 rw [jHP];by_cases h:n<=1
 ·exact ⟨a,s,0,by omega,by omega,by omega,by omega,by simp only [jd,h]⟩
 ·obtain ⟨s',x,x0,x1,e⟩:=jDC hb a s h0 h1;have e2:=jnY x0 hn;have hg:¬(200:Int) < n:=by omega
  refine ⟨a+1,s',x % n,by omega,by omega,jkk _ (by omega),jkl _ (by omega),?_⟩;simp only [jd,h,e,jM,j4,hg,e2,Jo]
theorem KW (n:Int) (hn:1<=n) (hn':n<=200) (a s:Int) (h0:0<=a) (h1:a<=1000000000):∃a' s' b,a<=a'/\a'<=a+1/\QS (vi n) (zq code) (vi a) (vu s)=some (.top,[zq code,vi a',vu s',vb b]):=by
 obtain ⟨a',s',x,q1,q2,_,_,e⟩:=zX hb n hn hn' a s h0 h1;refine ⟨a',s',decide (x=0),q1,q2,?_⟩;rw [jHY];simp only [jd,e,jM,j4,Jo]
theorem jqn (l:List (List UInt8)) (hn:1<=l.length) (hn':l.length<=200) (a s:Int) (h0:0<=a) (h1:a<=1000000000):∃a' s' w,w∈l/\a<=a'/\a'<=a+1/\ZJ (zq code) (vi a) (vu s) (l.map cs)=some (.top,[zq code,vi a',vu s',sv w]):=by
 obtain ⟨a',s',x,q1,q2,x0,x1,e⟩:=zX hb ((l.length:Nat):Int) (by omega) (by omega) a s h0 h1;obtain ⟨i,rfl⟩:∃i:Nat,x=(i:Nat):=⟨x.toNat,by omega⟩;have hi:i < l.length:=by omega
 have e1:Zf l.length (vi ((i:Nat):Int))=some i:=zz hi;have e2:J5 (l.map cs) i 0=some (sv l[i]):=by unfold J5;simp [hi]
 refine ⟨a',s',l[i],jC hi,q1,q2,?_⟩;rw [jH2];simp only [jd,e,jM,j4,e1,e2]
end
theorem jEd (t:T):jH [t] = .sl 2 [[sv t.name,.sl 2 (t.args.map jo)]]:=by
 show A.sl 2 [jo t]=_;rw [kG]
theorem jro (t u:T):jH [t,u] = .sl 2 [[sv t.name,.sl 2 (t.args.map jo)],[sv u.name,.sl 2 (u.args.map jo)]]:=by
 show A.sl 2 [jo t,jo u]=_;rw [kG,kG]
abbrev S5:List (List UInt8):=[[88],[89],[90],[88,121,122,57],[81,49]]
def Q9 (n:List UInt8):Bool:= !jp n || S5.contains n
mutual
def nmT:T->Bool
 | .mk n us=>Q9 n && Qi us
def Qi:List T->Bool
 | []=>true
 | t::ts=>nmT t && Qi ts
end
theorem jtc (t:T):nmT t=(Q9 t.name && Qi t.args):=by cases t;rw [nmT];rfl
theorem jje:∀us vs:List T,Qi (us++vs)=(Qi us && Qi vs)
 | [],vs=>by rw [Ju,Qi,jR]
 | u::us,vs=>by rw [K5,Qi,Qi,jje us vs,jmg]
theorem nm0 {n:List UInt8} (h:Q9 n=true):nmT (.mk n [])=true:=by rw [nmT,h];rfl
theorem nm1 {n:List UInt8} {t:T} (h:Q9 n=true) (ht:nmT t=true):nmT (.mk n [t])=true:=by rw [nmT,h,Qi,ht];rfl
theorem nm2 {n:List UInt8} {t u:T} (h:Q9 n=true) (ht:nmT t=true) (hu:nmT u=true):nmT (.mk n [t,u])=true:=by rw [nmT,h,Qi,ht,Qi,hu];rfl
theorem nmA {t:T} (h:nmT t=true):Qi t.args=true:=by rw [jtc,jy] at h;exact h.2
theorem nmN {t:T} (h:nmT t=true):Q9 t.name=true:=by rw [jtc,jy] at h;exact h.1
theorem jqk {n:List UInt8} {us:List T} (h:Q9 n=true) (hu:Qi us=true):nmT (.mk n us)=true:=by rw [nmT,h,hu];rfl
def TD (code:List Int) (z q:Nat) (a:Int) (o:Option Out):Prop:=∃a' s' t,a<=a'/\a'<=a+(q:Nat)/\(tsz t<=z/\nmT t=true)/\o=some (.top,[zq code,vi a',vu s',sv (T.name t),jH (T.args t)])
section
variable {code:List Int} (hb:By code)
include hb
theorem jhB (l:List (List UInt8)) (hn:1<=l.length) (hn':l.length<=200) (hl:∀w∈l,w.length<=1/\Q9 w=true) (a s:Int) (h0:0<=a) (h1:a<=1000000000) :
  ∃a' s' w,(w.length<=1/\Q9 w=true)/\a<=a'/\a'<=a+1/\ZJ (zq code) (vi a) (vu s) (l.map cs)=some (.top,[zq code,vi a',vu s',sv w]):=by
 obtain ⟨a',s',w,hw,q1,q2,e⟩:=jqn hb l hn hn' a s h0 h1;exact ⟨a',s',w,hl w hw,q1,q2,e⟩
theorem jyN:∀(d:Nat),d<=100-> ∀(J8:Int),J8<=(d:Nat)-> -1000<=J8-> ∀(a s:Int),0<=a->a+((3 * 4 ^ d:Nat):Int)<=1000000000->TD code (3 * 4 ^ d) (3 * 4 ^ d) a (Ze (vi J8) (zq code) (vi a) (vu s)):=by
 have base:∀(d:Nat) (J8:Int),J8<=1-> ∀(a s:Int),0<=a->a+((3 * 4 ^ d:Nat):Int)<=1000000000->TD code (3 * 4 ^ d) (3 * 4 ^ d) a (Ze (vi J8) (zq code) (vi a) (vu s)):=by
  intro d J8 hd a s h0 h1;have hp:1<=4 ^ d:=jrN (by simp);obtain ⟨a1,s1,w,hw,q1,q2,e⟩:=jhB hb [[88],[89],[90],[97],[98],[88],[97]] (by decide) (by decide) (by decide) a s h0 (by omega);have e:ZJ (zq code) (vi a) (vu s) [[sv [88]],[sv [89]],[sv [90]],[sv [97]],[sv [98]],[sv [88]],[sv [97]]]=some (.top,[zq code,vi a1,vu s1,sv w]):=e;refine ⟨a1,s1,.mk w [],q1,by omega,⟨by rw [Kd];simp [Jd];omega,nm0 hw.2⟩,?_⟩;rw [jbD];simp only [jd,hd,e,jM,j4,Jo];rfl
 intro d;induction d with
 | zero=>intro _ J8 hd _ a s h0 h1;exact base 0 J8 (by omega) a s h0 h1
 | succ d ih=>
  intro hdd J8 hd hd' a s h0 h1;by_cases hle:J8<=1
  ·exact base (d+1) J8 hle a s h0 h1
  have hp:1<=4 ^ d:=jrN (by simp);rw [Nat.pow_succ] at h1 ⊢;generalize 4 ^ d=P at *;obtain ⟨a1,s1,b1,q1,q2,e1⟩:=KW hb 3 (by decide) (by decide) a s h0 (by omega);cases b1 with
  | true=>
   obtain ⟨a2,s2,w,hw,r1,r2,e⟩:=jhB hb [[88],[89],[90],[97],[98],[88],[97]] (by decide) (by decide) (by decide) a1 s1 (by omega) (by omega);have e:ZJ (zq code) (vi a1) (vu s1) [[sv [88]],[sv [89]],[sv [90]],[sv [97]],[sv [98]],[sv [88]],[sv [97]]]=some (.top,[zq code,vi a2,vu s2,sv w]):=e;refine ⟨a2,s2,.mk w [],by omega,by omega,⟨by rw [Kd];simp [Jd];omega,nm0 hw.2⟩,?_⟩;rw [jbD];simp only [jd,hle,e1,e,jM,j4,Jo];rfl
  | false=>
   obtain ⟨a2,s2,b2,r1,r2,e2⟩:=KW hb 2 (by decide) (by decide) a1 s1 (by omega) (by omega);have c1:ck (J8 - 1)=some (vi (J8 - 1)):=jE (by omega) (by omega);obtain ⟨a3,s3,t3,u1,u2,u3,e3⟩:=ih (by omega) (J8 - 1) (by omega) (by omega) a2 s2 (by omega) (by omega);cases b2 with
   | true=>
    refine ⟨a3,s3,.mk [102] [t3],by omega,by omega,⟨by rw [Kd];simp [Jd];omega,nm1 (by decide) u3.2⟩,?_⟩
    rw [jbD];simp only [jd,hle,e1,e2,c1,e3,jM,j4,Jo];rw [<-jEd];rfl
   | false=>
    obtain ⟨a4,s4,t4,v1,v2,v3,e4⟩:=ih (by omega) (J8 - 1) (by omega) (by omega) a3 s3 (by omega) (by omega);refine ⟨a4,s4,.mk [103] [t3,t4],by omega,by omega,⟨by rw [Kd];simp [Jd];omega,nm2 (by decide) u3.2 v3.2⟩,?_⟩;rw [jbD];simp only [jd,hle,e1,e2,c1,e3,e4,jM,j4,Jo];rw [<-jro];rfl
theorem jc0 (a s:Int) (h0:0<=a) (h1:a<=999999000):TD code 192 193 a (jbn (zq code) (vi a) (vu s)):=by
 obtain ⟨a1,s1,x,q1,q2,x0,x1,e1⟩:=zX hb 3 (by decide) (by decide) a s h0 (by omega);have c1:ck (1+x)=some (vi (1+x)):=jE (by omega) (by omega);obtain ⟨a2,s2,t,r1,r2,r3,e2⟩:=jyN hb 3 (by decide) (1+x) (by omega) (by omega) a1 s1 (by omega) (by omega);refine ⟨a2,s2,t,by omega,by omega,r3,?_⟩;rw [jEz];simp only [jd,e1,c1,e2,jM,j4,Jo]
theorem jBy (d:Nat) (hd:d<=20) (a s:Int) (h0:0<=a) (h1:a<=999990000):TD code 60 1 a (jrZ (vi (d:Nat)) (zq code) (vi a) (vu s)):=by
 obtain ⟨a1,s1,w,hw,q1,q2,e⟩:=jhB hb [[88],[97]] (by decide) (by decide) (by decide) a s h0 (by omega);have e:ZJ (zq code) (vi a) (vu s) [[sv [88]],[sv [97]]]=some (.top,[zq code,vi a1,vu s1,sv w]):=e;have loop:∀(k:Nat) (t:T) (x1:A) (r0:List (List A)),k<=20-> ∃u,(tsz u<=tsz t+2 * k/\(nmT t=true->nmT u=true))/\QT (vi (k:Nat)) x1 (sv t.name) (zq code) (vi a1) (vu s1) r0 (t.args.map jo)=some (.top,[zq code,vi a1,vu s1,sv (T.name u),jH (T.args u)]):=by
  intro k;induction k with
  | zero=>
   intro t x1 r0 _;refine ⟨t,⟨by omega,id⟩,?_⟩;have h:¬(1:Int) < ((0:Nat):Int):=by omega
   rw [jiM];simp only [jd,h]
  | succ k ih=>
   intro t x1 r0 hk;by_cases h:(1:Int) < ((k+1:Nat):Int)
   ·obtain ⟨u,hu,eu⟩:=ih (.mk [102] [t]) x1 r0 (by omega);rw [Kd] at hu;simp only [zk,yw,Jd] at hu;refine ⟨u,⟨by omega,λh=>hu.2 (nm1 (by decide) h)⟩,?_⟩;have c1:ck (((k+1:Nat):Int) - 1)=some (vi (k:Nat)):=by rw [show ((k+1:Nat):Int) - 1=(k:Nat) by omega];exact jE (by omega) (by omega)
    have eu:QT (vi (k:Nat)) x1 (sv [102]) (zq code) (vi a1) (vu s1) r0 [jo t]=_:=eu;rw [kG] at eu;rw [jiM];simp only [jd,h,c1,eu]
   ·refine ⟨t,⟨by omega,id⟩,?_⟩;rw [jiM];simp only [jd,h]
 obtain ⟨u,hu,eu⟩:=loop d (.mk w []) (sv []) [] hd;rw [Kd] at hu;simp only [yw,Jd] at hu;refine ⟨a1,s1,u,q1,q2,⟨by omega,hu.2 (nm0 hw.2)⟩,?_⟩;have eu:QT (vi (d:Nat)) (sv []) (sv w) (zq code) (vi a1) (vu s1) [] []=_:=eu;rw [jFT];simp only [jd,e,jM,j4,eu,Jo]
end
theorem jGQ {n:Nat} (h:n<=4194304):jA n 16=true:=by
 unfold jA;exact jQ ⟨by omega,by omega⟩
theorem jDJ {n:Nat} (h:n<=4194304):jA n 8=true:=by
 unfold jA;exact jQ ⟨by omega,by omega⟩
abbrev nbs (vs:List Int):A:= .sl 1 (vs.map ci)
theorem jMg {x n:Int} (h0:0<=x) (hn:2<=n) (hx:x<=9223372036854775807):ju .quo false (vi x) (vi n)=some (vi (x / n)):=by
 show (if n=0 then none else ck (x.tdiv n))=_;rw [jf (by omega),jtV h0,jE]
 ·have:=Int.ediv_nonneg h0 (show (0:Int)<=n by omega);omega
 ·have:=Int.ediv_le_self n h0;omega
theorem jAD (x:Int) (h0:0<=x) (h1:x<=255):yS .i64 (vy x)=some (vi x):=by
 rw [jtg,jE (by omega) (by omega)]
theorem jqx {l:List (List UInt8)} {i:Nat} (h:i < l.length):J5 (l.map cs) i 0=some (sv l[i]):=by
 unfold J5;simp [h]
section
variable {code:List Int} (hb:By code)
include hb
theorem jBF (i:Int) (h0:0<=i) (h1:i<=1000):∃x,0<=x/\x<=255/\G 93 [zq code,vi i]=some (vi x,[]):=by
 obtain ⟨k,rfl⟩:∃k:Nat,i=(k:Nat):=⟨i.toNat,by omega⟩;have hl:=hb.2;rw [g93];by_cases hk:k < code.length
 ·have hlt:((k:Nat):Int) < ((code.length:Nat):Int):=by omega
  have hv:=hb.1 code[k] (jC hk);have c:=jAD code[k] hv.1 hv.2;exact ⟨code[k],hv.1,hv.2,by simp only [jd,hlt,ja hk,c]⟩
 ·have hlt:¬((k:Nat):Int) < ((code.length:Nat):Int):=by omega
  have c1:ck (((k:Nat):Int) * 7)=some (vi (((k:Nat):Int) * 7)):=jE (by omega) (by omega);have c2:ck (((k:Nat):Int) * 7+((code.length:Nat):Int))=some (vi (((k:Nat):Int) * 7+((code.length:Nat):Int))):=jE (by omega) (by omega);have c3:=jnY (x:=((k:Nat):Int) * 7+((code.length:Nat):Int)) (n:=256) (by omega) (by decide);exact ⟨(((k:Nat):Int) * 7+((code.length:Nat):Int)) % 256,jkk _ (by decide),by have:=jkl (((k:Nat):Int) * 7+((code.length:Nat):Int)) (show (0:Int) < 256 by decide);omega,by simp only [jd,hlt,c1,c2,c3]⟩
theorem jBG (vs:List Int) (hvs:∀v∈vs,0<=v/\v<=10) (hl:vs.length<=4000000):∀i,i<=vs.length-> ∀h:Int,0<=h->h < 65521-> ∃x,0<=x/\juh (zq code) (nbs vs) (vi h) (vi (i:Nat))=some (vi x,[]):=by
 refine upto ?_ ?_
 ·intro h h0 h1;obtain ⟨a,a0,a1,ea⟩:=jBF hb (h % 53) (jkk _ (by decide)) (by have:=jkl h (show (0:Int) < 53 by decide);omega);obtain ⟨b,b0,b1,eb⟩:=jBF hb (h % 89) (jkk _ (by decide)) (by have:=jkl h (show (0:Int) < 89 by decide);omega);have r1:=jnY (x:=h) (n:=53) h0 (by decide);have r2:=jnY (x:=h) (n:=89) h0 (by decide);have c1:ck (13 * a)=some (vi (13 * a)):=jE (by omega) (by omega);have c2:ck (h+13 * a)=some (vi (h+13 * a)):=jE (by omega) (by omega);have c3:ck (h+13 * a+b)=some (vi (h+13 * a+b)):=jE (by omega) (by omega);have q:=jMg (x:=h+13 * a+b) (n:=3) (by omega) (by decide) (by omega);refine ⟨(h+13 * a+b) / 3,Int.ediv_nonneg (by omega) (by decide),?_⟩;rw [jEY];simp only [jd,r1,r2,ea,eb,c1,c2,c3,q]
 ·intro i hi ih h h0 h1;have hlt:(i:Int) < ((vs.length:Nat):Int):=by omega
  have h5:=js hi (by show vs.length<=9223372036854775807;omega)
  have hv:=hvs vs[i] (jC hi);have c1:ck (37 * h)=some (vi (37 * h)):=jE (by omega) (by omega);have c2:ck (37 * h+vs[i])=some (vi (37 * h+vs[i])):=jE (by omega) (by omega);have c3:ck (37 * h+vs[i]+1)=some (vi (37 * h+vs[i]+1)):=jE (by omega) (by omega);have r:=jnY (x:=37 * h+vs[i]+1) (n:=65521) (by omega) (by decide);obtain ⟨x,x0,e⟩:=ih ((37 * h+vs[i]+1) % 65521) (jkk _ (by decide)) (jkl _ (by decide));refine ⟨x,x0,?_⟩;rw [jEY];simp only [jd,hlt,ja hi,c1,c2,c3,r,h5,e]
theorem jEf (n:List UInt8) (hn:n.length<=4000000) (vs:List Int) (hvs:∀v∈vs,0<=v/\v<=10) (hl:vs.length<=4000000):∃x,0<=x/\G 62 [zq code,sv n,nbs vs]=some (vi x,[]):=by
 have key:∀i,i<=n.length-> ∀h:Int,0<=h->h < 65521-> ∃x,0<=x/\jug (zq code) (sv n) (nbs vs) (vi h) (vi (i:Nat))=some (vi x,[]):=by
  refine upto ?_ ?_
  ·intro h h0 h1;obtain ⟨x,x0,e⟩:=jBG hb vs hvs hl 0 (ko _) h h0 h1;refine ⟨x,x0,?_⟩;rw [jEX];simp only [kU] at e;simp only [jd,e]
  ·intro i hi ih h h0 h1;have hlt:(i:Int) < ((n.length:Nat):Int):=by omega
   have h5:=js hi (by show n.length<=9223372036854775807;omega)
   have hx:=Zs hi;have hc:n[i].toNat<=255:=by have:=n[i].toNat_lt;omega
   generalize n[i].toNat=c at *;have c0:=jAD ((c:Nat):Int) (by omega) (by omega);have c1:ck (31 * h)=some (vi (31 * h)):=jE (by omega) (by omega);have c2:ck (31 * h+((c:Nat):Int))=some (vi (31 * h+((c:Nat):Int))):=jE (by omega) (by omega);have r:=jnY (x:=31 * h+((c:Nat):Int)) (n:=65521) (by omega) (by decide);obtain ⟨x,x0,e⟩:=ih ((31 * h+((c:Nat):Int)) % 65521) (jkk _ (by decide)) (jkl _ (by decide));refine ⟨x,x0,?_⟩;rw [jEX];simp only [jd,hlt,hx,c0,c1,c2,r,h5,e]
 obtain ⟨x,x0,e⟩:=key 0 (ko _) 17 (by decide) (by decide);refine ⟨x,x0,?_⟩;rw [g62];simp only [kU] at e;exact e
end
noncomputable def ji9 (code:List Int) (n:List UInt8) (vs:List Int):Int:=match G 62 [zq code,sv n,nbs vs] with|some (.val (.int _ x),_)=>x|_=>0
theorem jvc {code:List Int} (hb:By code) (n:List UInt8) (hn:n.length<=4000000) (vs:List Int) (hvs:∀v∈vs,0<=v/\v<=10) (hl:vs.length<=4000000):0<=ji9 code n vs/\G 62 [zq code,sv n,nbs vs]=some (vi (ji9 code n vs),[]):=by
 obtain ⟨x,x0,e⟩:=jEf hb n hn vs hvs hl;have:ji9 code n vs=x:=by unfold ji9;rw [e]
 rw [this];exact ⟨x0,e⟩
noncomputable abbrev qB (code:List Int) (s:Int):List UInt8->List Int->Int:=λn vs=>ji9 code n vs % s
abbrev Env:=List (List UInt8 × Int)
abbrev ev (E:Env):A:= .agg [.sl 1 (E.map λp=>cs p.1),.sl 1 (E.map λp=>ci p.2)]
def zZ (E:Env) (n:List UInt8):Int:=E.foldl (λa p=>if p.1=n then p.2 else a) 0
theorem jwe (E:Env) (p:List UInt8 × Int) (n:List UInt8):zZ (E++[p]) n=if p.1=n then p.2 else zZ E n:=by
 unfold zZ;rw [List.foldl_append];rfl
theorem jDk (E:Env) (hl:E.length<=4000000) (n:List UInt8):G 92 [ev E,sv n]=some (vi (zZ E n),[]):=by
 have key:∀k,k<=E.length->jur (sv n) (vi ((k:Nat) - 1:Int)) (.sl 1 (E.map λp=>cs p.1)) (.sl 1 (E.map λp=>ci p.2))=some (vi (zZ (E.take k) n),[]):=by
  intro k;induction k with
  | zero=>
   intro _;have h:¬(0:Int)<=((0:Nat):Int) - 1:=by omega
   rw [jE9];simp only [jd,h];rfl
  | succ k ih=>
   intro hk;have hk':k < E.length:=by omega
   have h:(0:Int)<=(k:Int):=by omega
   have e1:((k+1:Nat):Int) - 1=(k:Int):=by omega
   have c1:ck ((k:Int) - 1)=some (vi ((k:Int) - 1)):=jE (by omega) (by omega);have i1:=ja (k:=1) (f:=λp:List UInt8 × Int=>cs p.1) hk';have i2:=ja (k:=1) (f:=λp:List UInt8 × Int=>ci p.2) hk';rw [e1,jE9,jkf hk',jwe];by_cases hn:E[k].1=n
   ·rw [jg hn];simp only [jd,h,i1,i2,hn]
   ·rw [jf hn,<-ih (by omega)];simp only [jd,h,i1,i2,hn,c1]
 have:=key E.length (kz _);rw [jam] at this;have c1:ck (((E.length:Nat):Int) - 1)=some (vi (((E.length:Nat):Int) - 1)):=jE (by omega) (by omega);rw [g92];simp only [jd,c1,this]
theorem jfY {code:List Int} (s:Int) (hs:1<=s) (n:List UInt8) (vs:List Int):0<=qB code s n vs/\qB code s n vs < s:=⟨jkk _ (by omega),jkl _ (by omega)⟩
theorem jlv {c:UInt8} {r:List UInt8} :ye (sv (c::r)) (vi 0)=some (vy (c.toNat:Int)):=qW
section
variable {code:List Int} (hb:By code)
include hb
theorem jrB (s:Int) (hs:1<=s/\s<=10) (E:Env) (hE:∀x,0<=zZ E x/\zZ E x < s) (n:List UInt8) (hn:n.length<=1048576) (us:List T) (hl:us.length<=1048576) (ih:∀u∈us,G 61 [zq code,vi s,ev E,tm u]=some (vi (val (qB code s) (zZ E) u),[])) :
  jkP (zq code) (vi s) (vi 0) (.sl 1 (E.map λp=>cs p.1)) (.sl 1 (E.map λp=>ci p.2)) (sv n) (jH us) []=some (vi (qB code s n (us.map (val (qB code s) (zZ E)))),[]):=by
 have key:=upto (P:=λi=>jkP (zq code) (vi s) (vi (i:Nat)) (.sl 1 (E.map λp=>cs p.1)) (.sl 1 (E.map λp=>ci p.2)) (sv n) (jH us) (((us.take i).map (val (qB code s) (zZ E))).map ci)=some (vi (qB code s n (us.map (val (qB code s) (zZ E)))),[])) (n:=us.length) ?_ ?_ 0 (ko _)
 ·exact key
 ·have hv:∀v∈us.map (val (qB code s) (zZ E)),0<=v/\v<=10:=by
   intro v hv;obtain ⟨u,_,rfl⟩:=zN.1 hv;have:=jfl (good:=λv=>0<=v/\v < s) (M:=qB code s) (jfY s hs.1) hE u;omega
  obtain ⟨m0,me⟩:=jvc hb n (by omega) _ hv (by rw [kj];omega)
  have r:=jnY (x:=ji9 code n (us.map (val (qB code s) (zZ E)))) (n:=s) m0 hs.1;rw [jam,jEW];generalize us.map (val (qB code s) (zZ E))=vs at *;show _=some (vi (ji9 code n vs % s),[]);simp only [jd,me,r]
 ·intro i hi ihi;have hlt:(i:Int) < ((us.length:Nat):Int):=by omega
  have h5:=js hi (by show us.length<=9223372036854775807;omega)
  have e1:=ih us[i] (jC hi);have f:jA (i+1) 8=true:=jDJ (by omega);have hmin:min i us.length=i:=by omega
  rw [jkf hi,zy,zy,show ([us[i]].map (val (qB code s) (zZ E))).map ci = [[vi (val (qB code s) (zZ E) us[i])]] from rfl] at ihi;rw [jEW];generalize val (qB code s) (zZ E) us[i]=v at *;have ihi:jkP (zq code) (vi s) (vi ((i+1:Nat):Int)) (.sl 1 (E.map λp=>cs p.1)) (.sl 1 (E.map λp=>ci p.2)) (sv n) (jH us) (jW (((us.take i).map (val (qB code s) (zZ E))).map ci) [[vi v]])=_:=ihi;have hlen:(((us.take i).map (val (qB code s) (zZ E))).map ci).length=i:=by simp [hmin]
  generalize ((us.take i).map (val (qB code s) (zZ E))).map ci=R at *;have f2:jA (R.length+1) 8=true:=by rw [hlen];exact f
  simp only [jd,hlt,ja hi,je,e1,h5,f2,ihi]
theorem jxs (s:Int) (hs:1<=s/\s<=10) (E:Env) (hEl:E.length<=4000000) (hE:∀x,0<=zZ E x/\zZ E x < s):∀t:T,Tz t->G 61 [zq code,vi s,ev E,tm t]=some (vi (val (qB code s) (zZ E) t),[]):=by
 refine T.ind λt ih ht=> ?_;have hz:=ht;unfold Tz at hz;rw [kH] at hz;have e0:=jrB hb s hs E hE t.name (by omega) t.args (by omega) λu hu=>ih u hu (ht.args u hu);have e1:=jDk E hEl t.name;rw [g61,QK];cases ha:t.args with
 | cons u us=>
  rw [ha] at e0;have hne:¬(((u::us).length:Nat):Int)=0:=by rw [zk];omega
  rw [show (u::us).isEmpty=false from rfl,jK,jf j7];generalize u::us=vs at *;simp only [jd,ha,hne,e0]
 | nil=>
  rw [ha] at e0;rw [show ([]:List T).isEmpty=true from rfl,jR];cases hn:t.name with
  | nil=>
   rw [hn] at e0;rw [show upN []=false from rfl,jf j7];have z1:(((([]:List T).length:Nat):Int)=0):=rfl;have z2:¬(0:Int) < ((0:Nat):Int):=by decide
   generalize hE0:([]:List T)=vs at *;simp only [jd,ha,hn,z1,z2,e0]
  | cons c r=>
   rw [hn] at e0 e1;have hpos:(0:Int) < (((c::r).length:Nat):Int):=Int.natCast_pos.2 (Nat.succ_pos _);have hx:=jlv (c:=c) (r:=r);have hu:upN (c::r)=(decide ((65:Int)<=(c.toNat:Int)) && decide ((c.toNat:Int)<=90)):=rfl;rw [hu];have z1:(((([]:List T).length:Nat):Int)=0):=rfl;generalize hE0:([]:List T)=vs at *;generalize c::r=nm at *;by_cases h1:(65:Int)<=(c.toNat:Int)
   ·by_cases h2:(c.toNat:Int)<=90
    ·rw [jQ h1,jQ h2,QM,jg rfl];simp only [jd,ha,hn,z1,hpos,hx,h1,h2,e1]
    ·rw [jQ h1,kA h2,zr,jf j7];simp only [jd,ha,hn,z1,hpos,hx,h1,h2,e0]
   ·rw [kA h1,jK,jf j7];simp only [jd,ha,hn,z1,hpos,hx,h1,e0]
end
theorem jEi (l:List (List UInt8)) (n:List UInt8):(vnA l n).length<=l.length+1:=by
 unfold vnA;split
 ·omega
 ·simp
theorem jon:∀(t:T) (l:List (List UInt8)),(vn l t).length<=l.length+nodes t:=by
 refine T.ind λt ih l=> ?_;have hn:=jT t;rw [jvM];split
 ·have:=jEi l t.name;omega
 ·have key:∀us:List T,(∀u∈us,u∈t.args)-> ∀l:List (List UInt8),(vnL l us).length<=l.length+jr us:=by
   intro us;induction us with
   | nil=>intro _ l;simp [vnL,jr]
   | cons u us ih2=>
    intro hu l;have h1:=ih u (hu u (by simp)) l;have h2:=ih2 (λv hv=>hu v (by simp [hv])) (vn l u);rw [vnL,jr];omega
  have:=key t.args (λ_ h=>h) l;omega
theorem jtP (n:List UInt8) (x:A) (hx:n.length<=1048576) (l:List (List UInt8)) (hl:l.length<=4000000):jcI (vi 0) (sv n) x (l.map cs)=some (.top,[.sl 1 ((vnA l n).map cs)]):=by
 have key:=upto (P:=λi=>jcI (vi (i:Nat)) (sv n) x (l.map cs)=some (.top,[.sl 1 ((if (l.drop i).contains n then l else l++[n]).map cs)])) (n:=l.length) ?_ ?_ 0 (ko _)
 ·exact key
 ·have f:jA (l.length+1) 16=true:=jGQ (by omega);rw [ju4,kg,show ([]:List (List UInt8)).contains n=false from rfl,jf j7,zy];simp only [jd,f];rfl
 ·intro i hi ih;have hlt:(i:Int) < ((l.length:Nat):Int):=by omega
  have h5:=js hi (by show l.length<=9223372036854775807;omega)
  have x1:Zf l.length (vi ((i:Nat):Int))=some i:=zz hi;have x2:=jqx hi;rw [ju4,ji hi,jot];by_cases he:l[i]=n
  ·rw [<-he,beq_self_eq_true,Jl,jg rfl];rw [he] at x2 ⊢;simp only [jd,hlt,x1,x2]
  ·have hne:(n == l[i])=false:=by
    cases h:(n == l[i]) with
    | false=>rfl
    | true=>exact absurd (eq_of_beq h).symm he
   rw [hne,zF,<-ih];simp only [jd,hlt,x1,x2,he,h5]
theorem jl1:∀t:T,Tz t-> ∀l:List (List UInt8),l.length+nodes t<=4000000->joI (tm t) (l.map cs)=some (.top,[.sl 1 ((vn l t).map cs)]):=by
 refine T.ind λt ih ht l hl=> ?_;have hz:=ht;unfold Tz at hz;rw [kH] at hz;have hn:=jT t;have e1:∀x,jcI (vi 0) (sv t.name) x (l.map cs)=_:=λx=>jtP t.name x (by omega) l (by omega);have key:=upto (P:=λi=>∀l:List (List UInt8),l.length+jr (t.args.drop i)<=4000000->jhr (vi (i:Nat)) (sv t.name) (jH t.args) (l.map cs)=some (.top,[.sl 1 ((vnL l (t.args.drop i)).map cs)])) (n:=t.args.length) ?_ ?_ 0 (ko _);rotate_left
 ·intro l _;rw [jnG,kg];simp only [jd];rfl
 ·intro i hi ihi l hl;have hlt:(i:Int) < ((t.args.length:Nat):Int):=by omega
  have h5:=js hi (by show t.args.length<=9223372036854775807;omega)
  rw [ji hi,jr] at hl;have q:=ih t.args[i] (jC hi) (ht.args _ (jC hi)) l (by omega);have hln:=jon t.args[i] l;have q2:=ihi (vn l t.args[i]) (by omega);rw [jnG,ji hi,vnL];generalize vn l t.args[i]=l' at *;have hr:hR 1 (A.top,[.sl 1 (l'.map cs)]) 0=some (l'.map cs):=rfl;simp only [jd,hlt,ja hi,je,q,hr,h5,q2]
 have e2:jhq (vi 0) (sv t.name) (jH t.args) (l.map cs)=some (.top,[.sl 1 ((vnL l t.args).map cs)]):=by
  have key:=key l (by rw [kD];omega)
  rw [kD] at key;have:jhq (vi 0) (sv t.name) (jH t.args) (l.map cs)=jhr (vi 0) (sv t.name) (jH t.args) (l.map cs):=by rw [jDs,jnG]
  rw [this];exact key
 rw [jHT,jvM];cases ha:t.args with
 | cons u us=>
  rw [ha] at e2;have hne:¬(((u::us).length:Nat):Int)=0:=by rw [zk];omega
  rw [show (u::us).isEmpty=false from rfl,jK,jf j7];generalize u::us=vs at *;simp only [jd,ha,hne,e2]
 | nil=>
  rw [ha] at e2;rw [show ([]:List T).isEmpty=true from rfl,jR];cases hnm:t.name with
  | nil=>
   rw [hnm] at e2;rw [show upN []=false from rfl,jf j7];have z1:(((([]:List T).length:Nat):Int)=0):=rfl;have z2:¬(0:Int) < ((0:Nat):Int):=by decide
   generalize hE0:([]:List T)=vs at *;simp only [jd,ha,hnm,z1,z2,e2]
  | cons c r=>
   rw [hnm] at e1 e2;have hpos:(0:Int) < (((c::r).length:Nat):Int):=Int.natCast_pos.2 (Nat.succ_pos _);have hx:=jlv (c:=c) (r:=r);have hu:upN (c::r)=(decide ((65:Int)<=(c.toNat:Int)) && decide ((c.toNat:Int)<=90)):=rfl;rw [hu];have z1:(((([]:List T).length:Nat):Int)=0):=rfl;generalize hE0:([]:List T)=vs at *;generalize c::r=nm at *;by_cases h1:(65:Int)<=(c.toNat:Int)
   ·by_cases h2:(c.toNat:Int)<=90
    ·rw [jQ h1,jQ h2,QM,jg rfl];simp only [jd,ha,hnm,z1,hpos,hx,h1,h2,e1]
    ·rw [jQ h1,kA h2,zr,jf j7];simp only [jd,ha,hnm,z1,hpos,hx,h1,h2,e2]
   ·rw [kA h1,jK,jf j7];simp only [jd,ha,hnm,z1,hpos,hx,h1,e2]
theorem jIV {x n:Int} (h0:0<=x) (hn:1<=n) (hx:x<=9223372036854775807):ju .quo false (vi x) (vi n)=some (vi (x / n)):=by
 show (if n=0 then none else ck (x.tdiv n))=_;rw [jf (by omega),jtV h0,jE]
 ·have:=Int.ediv_nonneg h0 (show (0:Int)<=n by omega);omega
 ·have:=Int.ediv_le_self n h0;omega
theorem jyn {n:Nat} (hn:1<=n):∀(l k:Nat),∀v∈dec n l k,v < n
 | 0,_,v,h=>by cases h
 | l+1,k,v,h=>by
  rw [dec] at h;rcases jZ.1 h with rfl|h
  ·exact Nat.mod_lt _ (by omega)
  ·exact jyn hn l _ v h
theorem juL (n:Nat):∀l k:Nat,(dec n l k).length=l
 | 0,_=>rfl
 | l+1,k=>by rw [dec,zk,juL n l]
theorem jwd {s:Int} (hs:1<=s) {E:Env} (h:∀p∈E,0<=p.2/\p.2 < s) (x:List UInt8):0<=zZ E x/\zZ E x < s:=by
 have key:∀(E:Env) (a:Int),(0<=a/\a < s)->(∀p∈E,0<=p.2/\p.2 < s)->0<=E.foldl (λa p=>if p.1=x then p.2 else a) a/\E.foldl (λa p=>if p.1=x then p.2 else a) a < s:=by
  intro E;induction E with
  | nil=>intro a ha _;exact ha
  | cons p E ih=>
   intro a ha h;rw [Km];refine ih _ ?_ λq hq=>h q (by simp [hq]);split
   ·exact h p (by simp)
   ·exact ha
 exact key E 0 ⟨by omega,by omega⟩ h
theorem jyL (f:List UInt8->Int) {l:List (List UInt8)} {x:List UInt8} (hx:x∈l):zZ (l.map λn=>(n,f n)) x=f x:=by
 have key:∀(l:List (List UInt8)) (a:Int),(x∈l\/a=f x)->(l.map λn=>(n,f n)).foldl (λa (p:List UInt8 × Int)=>if p.1=x then p.2 else a) a=f x:=by
  intro l;induction l with
  | nil=>intro a h;exact h.elim (λh=>absurd h qK) id
  | cons n l ih=>
   intro a h;rw [zf,Km];refine ih _ ?_;show x∈l\/(if n=x then f n else a)=f x;by_cases hn:n=x
   ·right;rw [jg hn,hn]
   ·rw [jf hn];rcases h with h|h
    ·rcases jZ.1 h with h|h
     ·exact absurd h.symm hn
     ·exact Or.inl h
    ·exact Or.inr h
 exact key l 0 (Or.inl hx)
theorem jfp {α β:Type} (f:α->β):∀l:List α,l.zip (l.map f)=l.map λx=>(x,f x)
 | []=>rfl
 | x::l=>by rw [zf,List.zip_cons_cons,jfp f l,zf]
def jfS (s:Nat) (names:List (List UInt8)) (k:Nat):Env:=names.zip ((dec s names.length k).map λv=>((v:Nat):Int))
theorem jk2 {s:Nat} (hs:1<=s) (names:List (List UInt8)) (k:Nat) (x:List UInt8):0<=zZ (jfS s names k) x/\zZ (jfS s names k) x < (s:Int):=by
 refine jwd (by omega) (λp hp=> ?_) x;obtain ⟨v,hv,e⟩:=zN.1 (jkb hp).2;have:=jyn hs _ _ v hv;rw [<-e];omega
theorem jyB {s:Nat} (hs:1<=s) (names:List (List UInt8)) (e:List UInt8->Int) (he:∀x,0<=e x/\e x < (s:Int)):∃k,k < s ^ names.length/\ ∀x∈names,zZ (jfS s names k) x=e x:=by
 have hv:∀v∈names.map (λx=>(e x).toNat),v < s:=by
  intro v hv;obtain ⟨x,_,rfl⟩:=zN.1 hv;have:=he x;omega
 refine ⟨enc s (names.map λx=>(e x).toNat),?_,λx hx=> ?_⟩
 ·have:=jyy hs _ hv;rwa [kj] at this
 ·have h1:=juK hs _ hv;rw [kj] at h1;unfold jfS;rw [h1,qa,jfp,jyL _ hx];have:=he x;show (((e x).toNat:Nat):Int)=e x;omega
theorem jyC (s:Nat) (names:List (List UInt8)) (k:Nat):(jfS s names k).length=names.length:=by
 unfold jfS;rw [yD,kj,juL,Nat.min_self]
section
variable {code:List Int} (hb:By code)
include hb
omit hb in
theorem jBM (n:List UInt8) (v:Int) (E:Env) (hl:E.length<=1000000):jxG (sv n) (vi v) (E.map λp=>cs p.1) (E.map λp=>ci p.2)=some (.top,[.sl 1 (E.map λp=>cs p.1),.sl 1 (E.map λp=>ci p.2),.sl 1 ((E++[(n,v)]).map λp=>cs p.1),.sl 1 ((E++[(n,v)]).map λp=>ci p.2)]):=by
 have f1:jA E.length 16=true:=jGQ (by omega);have f2:jA E.length 8=true:=jDJ (by omega);have f3:jA (E.length+1) 16=true:=jGQ (by omega);have f4:jA (E.length+1) 8=true:=jDJ (by omega);rw [jHU];simp only [jd,f1,f2,f3,f4,zy];rfl
omit hb in
theorem jry (s:Nat) (hs:1<=s/\s<=3) (al k:A) (X:A) (names:List (List UInt8)) (hn:names.length<=1000):∀(m i rest:Nat) (E:Env),i+m=names.length->E.length=i->rest<=1000000000->
  jt9 (zq code) (vi (s:Nat)) al k (vi (rest:Nat)) (vi (i:Nat)) X (names.map cs) (E.map λp=>cs p.1) (E.map λp=>ci p.2) =
  joN (zq code) (vi (s:Nat)) al k (vb false) (vi 0) X (names.map cs) ((E++(names.drop i).zip ((dec s m rest).map λv=>((v:Nat):Int))).map λp=>cs p.1) ((E++(names.drop i).zip ((dec s m rest).map λv=>((v:Nat):Int))).map λp=>ci p.2):=by
 intro m;induction m with
 | zero=>
  intro i rest E hi hE hr;have hlt:¬(i:Int) < ((names.length:Nat):Int):=by omega
  rw [dec,ql,List.zip_nil_right,qv,jEM];simp only [jd,hlt]
 | succ m ih=>
  intro i rest E hi hE hr;have hi':i < names.length:=by omega
  have hlt:(i:Int) < ((names.length:Nat):Int):=by omega
  have h5:=js hi' (by show names.length<=9223372036854775807;omega)
  have x1:Zf names.length (vi ((i:Nat):Int))=some i:=zz hi';have x2:=jqx hi';have r1:=jnY (x:=((rest:Nat):Int)) (n:=((s:Nat):Int)) (by omega) (by omega);have r2:=jIV (x:=((rest:Nat):Int)) (n:=((s:Nat):Int)) (by omega) (by omega) (by omega);rw [<-Int.natCast_emod] at r1;rw [<-Int.natCast_ediv] at r2;have w:=jBM names[i] ((rest % s:Nat):Int) E (by omega);have hd:rest / s<=1000000000:=K2 (Nat.div_le_self _ _) hr;have q:=ih (i+1) (rest / s) (E++[(names[i],((rest % s:Nat):Int))]) (by omega) (by rw [zh,qm,hE]) hd;rw [dec,ji hi',zf,List.zip_cons_cons,show E++(names[i],((rest % s:Nat):Int))::((names.drop (i+1)).zip ((dec s m (rest / s)).map λv=>((v:Nat):Int)))=(E++[(names[i],((rest % s:Nat):Int))])++(names.drop (i+1)).zip ((dec s m (rest / s)).map λv=>((v:Nat):Int)) by rw [yv];rfl,<-q,jEM];generalize hE':E++[(names[i],((rest % s:Nat):Int))]=E' at *;have hR:∀a b c d:List (List A),hR 1 (A.top,[.sl 1 a,.sl 1 b,.sl 1 c,.sl 1 d]) 0=some a/\hR 1 (A.top,[.sl 1 a,.sl 1 b,.sl 1 c,.sl 1 d]) 1=some b/\hR 1 (A.top,[.sl 1 a,.sl 1 b,.sl 1 c,.sl 1 d]) 2=some c/\hR 1 (A.top,[.sl 1 a,.sl 1 b,.sl 1 c,.sl 1 d]) 3=some d:=λ_ _ _ _=>⟨rfl,rfl,rfl,rfl⟩;obtain ⟨z0,z1,z2,z3⟩:=hR (E.map λp=>cs p.1) (E.map λp=>ci p.2) (E'.map λp=>cs p.1) (E'.map λp=>ci p.2);simp only [jd,hlt,x1,x2,r1,r2,h5,w,z0,z1,z2,z3]
end
noncomputable def jc8 (code:List Int) (s:Int) (hs:1<=s):Mdl:=⟨qB code s,λn vs=>decide (ji9 code (126::n) vs % 2=1),λv=>0<=v/\v < s,jfY s hs⟩
section
variable {code:List Int} (hb:By code)
include hb
theorem jtO (s:Int) (hs:1<=s/\s<=10) (E:Env) (hEl:E.length<=4000000) (hE:∀x,0<=zZ E x/\zZ E x < s) (t:T) (ht:Tz t):G 33 [zq code,vi s,ev E,tm t]=some (vb (qR (jc8 code s hs.1) (zZ E) t),[]):=by
 have hz:=ht;unfold Tz at hz;rw [kH] at hz;have hv:∀v∈t.args.map (val (qB code s) (zZ E)),0<=v/\v<=10:=by
  intro v hv;obtain ⟨u,_,rfl⟩:=zN.1 hv;have:=jfl (good:=λv=>0<=v/\v < s) (M:=qB code s) (jfY s hs.1) hE u;omega
 have key:=upto (P:=λi=>joO (zq code) (vi s) (vi (i:Nat)) (.sl 1 (E.map λp=>cs p.1)) (.sl 1 (E.map λp=>ci p.2)) (sv t.name) (jH t.args) (((t.args.take i).map (val (qB code s) (zZ E))).map ci)=some (vb (qR (jc8 code s hs.1) (zZ E) t),[])) (n:=t.args.length) ?_ ?_ 0 (ko _)
 ·rw [g33];exact key
 ·obtain ⟨m0,me⟩:=jvc hb (126::t.name) (by rw [zk];omega) _ hv (by rw [kj];omega)
  have r:=jnY (x:=ji9 code (126::t.name) (t.args.map (val (qB code s) (zZ E)))) (n:=2) m0 (by decide);have sa:ju .add false (sv [126]) (sv t.name)=some (sv (126::t.name)):=by rw [jaa,jg (by simp;omega)];rfl
  have lt0:¬((t.args.length:Nat):Int) < ((t.args.length:Nat):Int):=by omega
  have hlen:(t.args.map (val (qB code s) (zZ E))).length=t.args.length:=kj ..;rw [jam,jEQ];by_cases hn:t.name = [61]
  ·by_cases h2:t.args.length=2
   ·have ha:=jnd h2;have hh:qR (jc8 code s hs.1) (zZ E) t=decide (val (qB code s) (zZ E) (JD t)=val (qB code s) (zZ E) (Zb t)):=by
     unfold qR;rw [jg ⟨hn,h2⟩];rfl
    rw [hh];have hm:(t.args.map (val (qB code s) (zZ E))).map ci = [[vi (val (qB code s) (zZ E) (JD t))],[vi (val (qB code s) (zZ E) (Zb t))]]:=by rw [ha];rfl
    rw [hm];generalize val (qB code s) (zZ E) (JD t)=x at *;generalize val (qB code s) (zZ E) (Zb t)=y at *;have p0:Zf 2 (vi 0)=some 0:=rfl;have p1:Zf 2 (vi 1)=some 1:=rfl;have q0:J5 [[vi x],[vi y]] 0 0=some (vi x):=rfl;have q1:J5 [[vi x],[vi y]] 1 0=some (vi y):=rfl;have hl2:([[vi x],[vi y]]:List (List A)).length=2:=rfl;have h22:((2:Nat):Int)=2:=rfl;generalize hR: [[vi x],[vi y]]=R at *;simp only [jd,lt0,hn,hl2,h22,p0,p1,q0,q1]
   ·have hh:qR (jc8 code s hs.1) (zZ E) t=decide (ji9 code (126::t.name) (t.args.map (val (qB code s) (zZ E))) % 2=1):=by
     unfold qR;rw [jf (λh=>h2 h.2)];rfl
    have h2':¬((t.args.length:Nat):Int)=2:=by omega
    rw [hh];generalize t.args.map (val (qB code s) (zZ E))=vs at *;have hl:((vs.length:Nat):Int)=((t.args.length:Nat):Int):=by rw [hlen]
    rw [hn] at sa me r;simp only [jd,lt0,hn,hl,h2',sa,me,r]
  ·have hh:qR (jc8 code s hs.1) (zZ E) t=decide (ji9 code (126::t.name) (t.args.map (val (qB code s) (zZ E))) % 2=1):=by
    unfold qR;rw [jf (λh=>hn h.1)];rfl
   rw [hh];generalize t.args.map (val (qB code s) (zZ E))=vs at *;simp only [jd,lt0,hn,sa,me,r]
 ·intro i hi ihi;have hlt:(i:Int) < ((t.args.length:Nat):Int):=by omega
  have h5:=js hi (by show t.args.length<=9223372036854775807;omega)
  have e1:=jxs hb s hs E hEl hE t.args[i] (ht.args _ (jC hi));have f:jA (i+1) 8=true:=jDJ (by omega);have hmin:min i t.args.length=i:=by omega
  rw [jkf hi,zy,zy,show ([t.args[i]].map (val (qB code s) (zZ E))).map ci = [[vi (val (qB code s) (zZ E) t.args[i])]] from rfl] at ihi;rw [jEQ];generalize val (qB code s) (zZ E) t.args[i]=v at *;have ihi:joO (zq code) (vi s) (vi ((i+1:Nat):Int)) (.sl 1 (E.map λp=>cs p.1)) (.sl 1 (E.map λp=>ci p.2)) (sv t.name) (jH t.args) (jW (((t.args.take i).map (val (qB code s) (zZ E))).map ci) [[vi v]])=_:=ihi;have hlen:(((t.args.take i).map (val (qB code s) (zZ E))).map ci).length=i:=by simp [hmin]
  generalize ((t.args.take i).map (val (qB code s) (zZ E))).map ci=R at *;have f2:jA (R.length+1) 8=true:=by rw [hlen];exact f
  simp only [jd,hlt,ja hi,je,e1,h5,f2,ihi]
end
def vnC (l:List (List UInt8)) (c:kh):List (List UInt8):=c.foldl (λl x=>vn l x.2) l
theorem jHh {t:T} (hk:zS t=true) {l:List (List UInt8)} (hl:l.Nodup):(vn l t).Nodup/\(∀x∈l,x∈vn l t)/\ ∀x∈kK t,x∈vn l t:=by
 obtain ⟨a,_,b,c⟩:=jBJ (S:=l++kK t) t hk (λx hx=>Kg _ hx) l hl (λx hx=>JA _ hx);exact ⟨a,b,c⟩
theorem jvL:∀ {ts:List T} {l:List (List UInt8)},(∀t∈ts,zS t=true)->l.Nodup->(vnL l ts).Nodup/\(∀x∈l,x∈vnL l ts)/\ ∀t∈ts,∀x∈kK t,x∈vnL l ts
 | [],l,_,hl=>⟨hl,λx h=>h,λt h=>by cases h⟩
 | t::ts,l,hk,hl=>by
  obtain ⟨a,b,c⟩:=jHh (hk t (K1 ..)) hl;obtain ⟨a',b',c'⟩:=jvL (ts:=ts) (λu hu=>hk u (JR _ hu)) a;refine ⟨a',λx hx=>b' x (b x hx),λu hu x hx=> ?_⟩;rcases jZ.1 hu with rfl|hu
  ·exact b' x (c x hx)
  ·exact c' u hu x hx
theorem jHM {t:T} (h:Bx t):upN t.name=false:=h.elim (λh=>by rw [h.1];decide) λh=>ja0 h.1
theorem jEk {t:T} (h:Bx t) (l:List (List UInt8)):vn l t=vnL l t.args:=by rw [jvM,jHM h,zr,jf j7]
theorem jvK:∀ {c:kh} {l:List (List UInt8)},(∀y∈c,Bx y.2)->l.Nodup->(∀x∈l,x∈vnC l c)/\ ∀y∈c,∀t∈y.2.args,∀x∈kK t,x∈vnC l c
 | [],l,_,hl=>⟨λx h=>h,λy h=>by cases h⟩
 | y::c,l,hk,hl=>by
  have hy:=hk y (K1 ..);obtain ⟨a,b,d⟩:=jvL (ts:=y.2.args) hy.args hl;rw [<-jEk hy] at a b d;obtain ⟨a',b'⟩:=jvK (c:=c) (l:=vn l y.2) (λz hz=>hk z (JR _ hz)) a;refine ⟨λx hx=>a' x (b x hx),λz hz t ht x hx=> ?_⟩;rcases jZ.1 hz with rfl|hz
  ·exact a' x (d t ht x hx)
  ·exact b' z hz t ht x hx
theorem jye {m:Mdl} {e e':List UInt8->Int} {c:kh} (hk:∀y∈c,Bx y.2) (h:∀x∈vnC [] c,e x=e' x) (hc:clV m e c):clV m e' c:=by
 obtain ⟨y,hy,hv⟩:=hc;refine ⟨y,hy,?_⟩;rw [<-hv];refine YM rfl (K3 λt ht=> ?_);exact jl6 t ((hk y hy).args t ht) λx hx=>(h x ((jvK (l:=[]) hk jkc).2 y hy t ht x hx)).symm
def jha (s:Nat):Nat->Nat->Nat
 | 0,a=>a
 | k+1,a=>if a < 200 then jha s k (a * s) else a
theorem juy {s:Nat} (hs:s<=3):∀(k a:Nat),a<=600->jha s k a<=600
 | 0,a,h=>h
 | k+1,a,h=>by
  rw [jha];split
  ·refine juy hs k _ ?_;have:a * s<=a * 3:=Nat.mul_le_mul_left _ hs;omega
  ·exact h
theorem joZ:∀k:Nat,jha 1 k 1=1
 | 0=>rfl
 | k+1=>by rw [jha,jg (by decide),Nat.mul_one,joZ k]
theorem jss {s k:Nat} (h1:1<=s) (hs:s<=3) (hk:s=1\/k<=4):jha s k 1=s ^ k:=by
 rcases hk with rfl|hk
 ·rw [joZ,Nat.one_pow]
 ·have:∀s,s < 4-> ∀k,k < 5->jha s k 1=s ^ k:=by decide
  exact this s (by omega) k (by omega)
end Go.Proofs.YtbgikpffkgjecaaGreatDoor
