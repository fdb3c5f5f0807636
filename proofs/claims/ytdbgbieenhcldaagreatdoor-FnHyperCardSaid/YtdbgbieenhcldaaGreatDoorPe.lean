/- Pe -/
import Derived.Test.YtdbgbieenhcldaaGreatDoorPd
import Derived.Test.YtdbgbieenhcldaaGreatDoorPa
import Derived.Test.YtdbgbieenhcldaaGreatDoorPq
import Derived.KernelRfl
namespace Go.Proofs.YtdbgbieenhcldaaGreatDoor
open Go Go.RowKit Go.Proofs.YtdbgbieenhcldaaGreatDoor.Abs
set_option linter.unusedSimpArgs false
set_option linter.unusedVariables false
set_option maxHeartbeats 1000000
theorem jnq (d:jO) (h:kj d=true):G 36 [cm d]=some (cm (jW d),[]):=by
 obtain ⟨hc,_,_,hnm⟩:=kM h;have hl:=yl hc;have e1:=jfz d hc;have e2:=Qo 89 d hc (j8 d) (λn=>QF) (hc.ren_tz (by decide));have e2:G 73 [cm d,.mp ((qC 89 0 (j8 d)).map kn)]=some (cm (jW d),[]):=by rw [e2,<-apart_eq h];rfl
 have hnd:=Zo d;have hnum:∀i (hi:i < (j8 d).length),(j8 d)[i]=yP 88 i:=λi hi=>by
  obtain ⟨j,hj,e,e'⟩:=QH hnm (List.getElem_mem hi);rw [jff hnd hi] at e';rw [e,jqW e']
 generalize j8 d=ns at *;have key:=upto (P:=λi=>∀m:Nm',(∀n∈ns.drop i,zn m n=none)->m++qC 89 i (ns.drop i)=qC 89 0 ns->jlV (strs ns) (vi (ns.length:Nat)) (vi (i:Nat)) (.sl 3 (d.map jC)) (m.map kn) []=some (cm (jW d),[])) (n:=ns.length) ?_ ?_ 0 (Nat.zero_le _) [] (λn _=>rfl) (by rw [List.drop_zero];rfl)
 ·simp only [Int.natCast_zero,List.map_nil] at key;rw [g36];simp only [jd,e1,key]
 ·intro m _ hm;rw [List.drop_length,qC,List.append_nil] at hm;subst hm;rw [juz];simp only [jd,e2]
 ·intro i hi ih m hm hp;have hlt:(i:Int) < ((ns.length:Nat):Int):=by omega
  have h5:=jr hi (by show ns.length<=9223372036854775807;omega)
  have ld:kJ (.elt (cs ns[i]) 0)=some (sv ns[i]):=rfl;have hd:(ns.drop i).Nodup:=hnd.sublist (List.drop_sublist i ns);rw [jo hi] at hm hd hp;have pt:=jvd (hm ns[i] (List.mem_cons_self ..)) (yP 89 i);have e3:JD (sv ns[i]) (some (vi 1)) none=some (sv (Lib.decDigits i)):=by
   rw [hnum i hi];have hlen:(yP 88 i).length=(Lib.decDigits i).length+1:=rfl;show (if (0:Int)<=1/\(1:Int)<=(((yP 88 i).length:Nat):Int)/\(((yP 88 i).length:Nat):Int)<=(((yP 88 i).length:Nat):Int) then some (sv (((yP 88 i).take ((((yP 88 i).length:Nat):Int).toNat)).drop 1)) else none)=_;rw [if_pos ⟨by omega,by omega,by omega⟩,Int.toNat_natCast,List.take_length];rfl
  have e4:=jwj 89 i (by omega);have ih:=ih (m++[(ns[i],yP 89 i)]) (λn hn'=>by
   rw [jbd,hm n (List.mem_cons_of_mem _ hn')];show (if ns[i]=n then _ else none)=none;rw [if_neg];rintro e;exact (List.nodup_cons.1 hd).1 (e ▸ hn')) (by rw [List.append_assoc];exact hp)
  rw [juz];simp only [jd,hlt,ja hi,ld,e3,e4,pt,h5,ih]
theorem jnr (d:jO) (h:kj d=true):G 113 [cm d]=some (cm (jW d),[]):=by
 obtain ⟨hc,_,_,_⟩:=kM h;have e1:=jfA d hc;have e2:=jbS 89 (by decide) d hc;rw [apart_eq h] at e2;rw [jzh];simp only [jd,e1,e2]
theorem jpt (c:jO) (hl:c.length<=1000):jkk (.sl 3 (c.map jC))=some (.top,[.sl 3 (c.map jC)]):=by
 have e1:jrj (.sl 3 (c.map jC))=some (c.map jC):=rfl;have f:jB c.length 48=true:=J0 (by omega);rw [jvN];cases c with
 | nil=>
  have f0:jB 0 48=true:=J0 (by omega);have hz:nz (zx [])=true:=rfl;have e1:jrj (.sl 3 [])=some []:=rfl;simp only [jd,e1,hz,f0,List.map_nil,jpl]
 | cons l r=>
  have hz:nz (zx (List.map jC (l::r)))=false:=rfl;generalize l::r=x at *;simp only [jd,e1,hz,f]
theorem jny (c:jO) (hl:c.length<=1000) (i:Nat) (hi:i < c.length):jkj (vi (i:Nat)) (vi ((i+1:Nat):Int)) (c.map jC)=some (.top,[.sl 3 ((c.eraseIdx i).map jC)]):=by
 have e1:zx (c.map jC)=c.length:=zX jC c;have e2:kZ (c.map jC) 0=c.length:=by rw [yh,List.length_map];rfl
 have hne:¬((i:Nat):Int)=((i+1:Nat):Int):=by omega
 have k1:pB 0 c.length (some (vi (c.length:Nat)))=some c.length:=yg (Nat.le_refl _);have k2:pB 0 c.length (some (vi ((i+1:Nat):Int)))=some (i+1):=yg (by omega);have k3:pB 0 (i+1) (some (vi (i:Nat)))=some i:=yg (by omega);have k4:pB c.length c.length (some (vi (i:Nat)))=some i:=yg (by omega);have k5:pB c.length c.length none=some c.length:=zc (Nat.le_refl _);have w1:zC (c.map jC) (0+(i+1)) (jT c.length (i+1))=(c.drop (i+1)).map jC:=by
  rw [jcK,ya,Nat.zero_add,<-List.map_drop,List.take_of_length_le (by rw [List.length_map,List.length_drop];omega)]
 have w2:zx ((c.drop (i+1)).map jC)=c.length - (i+1):=by rw [zX,List.length_drop]
 have rm:jfH 0 (jT i 0) ((c.drop (i+1)).map jC) (c.map jC)=true:=by
  rw [jrg,ya];exact decide_eq_true (by rw [List.length_map,List.length_map,List.length_drop];omega)
 generalize hov:z8 (c.map jC) (0+jT i 0) ((c.drop (i+1)).map jC)=O at *;have hO:O=(c.eraseIdx i).map jC++(c.map jC).drop (c.length - 1):=by
  rw [<-hov,jaD,ya,Nat.sub_zero,Nat.zero_add,List.eraseIdx_eq_take_drop_succ,List.map_append,List.map_take,List.length_map,List.length_drop];congr 2;omega
 have hOl:O.length=c.length:=by
  rw [hO,List.length_append,List.length_map,List.length_eraseIdx_of_lt hi,List.length_drop,List.length_map];omega
 have k6:pB (jT i 0+(c.length - (i+1))) (kZ O 0) (some (vi (c.length:Nat)))=some c.length:=by
  rw [yh,hOl];exact yg (by omega)
 have k7:pB 0 c.length (some (nA (jT i 0+(c.length - (i+1)))))=some (c.length - 1):=by
  rw [ya,show i - 0+(c.length - (i+1))=c.length - 1 by omega];exact yg (by omega)
 have fin:List.take (jT i 0+(c.length - (i+1))) (z8 O (0+(c.length - 1)) (J1 (jT c.length (c.length - 1)) [vb false,sv [],.sl 2 []]))=(c.eraseIdx i).map jC:=by
  have hlen:((c.eraseIdx i).map jC).length=c.length - 1:=by rw [List.length_map,List.length_eraseIdx_of_lt hi]
  rw [ya,show i - 0+(c.length - (i+1))=c.length - 1 by omega,jaD,Nat.zero_add,List.append_assoc,List.take_append_of_le_length (by rw [List.length_take,hOl];omega),List.take_take,Nat.min_self,hO,List.take_append_of_le_length (by omega),List.take_of_length_le (by omega)]
 rw [jvM];simp only [cev];rw [e1,e2,Kt,List.length_map,k1,Option.bind_some,k2,Option.bind_some,k3,Option.bind_some,ji7,decide_eq_false hne,Option.bind_some,jaB,Option.bind_some,YJ,k4,Option.bind_some,k5,Option.bind_some,k2,Option.bind_some,w1,rm,jdg,hov,w2,k6,Option.bind_some,k7,Option.bind_some,fin]
theorem QS (c:jO) (hl:c.length<=1000) (i:Nat) (hi:i < c.length):G 91 [cm c,vi (i:Nat)]=some (.sl 3 ((c.eraseIdx i).map jC),[]):=by
 have e1:=jpt c hl;have e2:=jny c hl i hi;have r1:∀x:jO,hR 3 (A.top,[.sl 3 (x.map jC)]) 0=some (x.map jC):=λx=>rfl;have h5:=jr hi (by show c.length<=9223372036854775807;omega);rw [g91];simp only [jd,e1,r1,h5,e2]
theorem YB (c:jO) (hl:c.length<=1000) (i:Nat) (hi:i < c.length):jhS (.sl 3 (c.map jC)) (vi (i:Nat))=some (.top,[.sl 3 ((c.eraseIdx i).map jC)]):=by
 have s1:ym 3 (.sl 3 (c.map jC)) none (some (vi (i:Nat)))=some (.sl 3 ((c.map jC).take i)):=Yj (by rw [List.length_map];omega)
 have s2:ym 3 (.sl 3 (c.map jC)) (some (vi ((i+1:Nat):Int))) none=some (.sl 3 ((c.map jC).drop (i+1))):=Yi (by rw [List.length_map];omega)
 have hck:ck ((i:Int)+1)=some (vi ((i+1:Nat):Int)):=jG (by omega) (by omega);have f1:jB ((c.map jC).take i).length 48=true:=J0 (by rw [List.length_take,List.length_map];omega);have f2:jB (((c.map jC).take i).length+((c.map jC).drop (i+1)).length) 48=true:=J0 (by rw [List.length_take,List.length_drop,List.length_map];omega);have fin:jL ((c.map jC).take i) ((c.map jC).drop (i+1))=(c.eraseIdx i).map jC:=by
  rw [List.eraseIdx_eq_take_drop_succ,List.map_append,List.map_take,List.map_drop];rfl
 rw [jxt];simp only [jd,s1,s2,hck,f1,f2,fin]
theorem jtg (n:Nat) (hn:n<=1000):jki (vi (n:Nat))=some (.top,[.sl 3 []]):=by
 have h0:¬((n:Nat):Int) < 0:=by omega
 have c1:ck (0 - 0)=some (vi 0):=jG (n:=0 - 0) (by omega) (by omega);have c2:ck (((n:Nat):Int) - 0)=some (vi (n:Nat)):=by rw [Int.sub_zero];exact jG (by omega) (by omega)
 rw [jvL];by_cases hz:n=0
 ·have hz':¬(0:Int) < ((n:Nat):Int):=by omega
  simp only [jd,h0,c1,c2,hz']
 ·have hz':(0:Int) < ((n:Nat):Int):=by omega
  have k1:pB 0 0 (some (vi 0))=some 0:=rfl;have k2:=jbo (b:=48) (n:=n) (by omega) (by omega);have k3:jB n 48=true:=J0 (by omega);have k4:∀X:List (List A),pB (zx X) (kZ X 0) (some (vi 0))=some 0:=λX=>yg (n:=0) (Nat.zero_le _);simp only [jd,h0,c1,c2,hz',k1,k2,k3,k4,ya,List.take_zero];rfl
theorem jnx (ls:List jO) (hn:ls.length<=10) (hl:∀c∈ls,c.length<=50):jlO (ls.map Jx)=some (.top,[.sl 3 (ls.flatten.map jC)]):=by
 have r1:∀x:jO,hR 3 (A.top,[.sl 3 (x.map jC)]) 0=some (x.map jC):=λx=>rfl;have rp:∀i,(hi:i < ls.length)->yE (ls.map Jx) i 0=some (.sl 3 (ls[i].map jC)):=λi hi=>by unfold yE;simp [hi]
 have hix:∀i,i < ls.length->Ke ls.length (vi (i:Nat))=some i:=λi hi=>zi hi;have hend:Q5 (vi (ls.length:Nat)) (vi 0) [] (ls.map Jx)=some (.top,[.sl 3 (ls.flatten.map jC)]):=by
  have key:=upto (P:=λi=>∀R:jO,R.length<=50 * i->R++(ls.drop i).flatten=ls.flatten->Q5 (vi (ls.length:Nat)) (vi (i:Nat)) (R.map jC) (ls.map Jx)=some (.top,[.sl 3 (ls.flatten.map jC)])) (n:=ls.length) ?_ ?_ 0 (Nat.zero_le _) [] (Nat.zero_le _) (by rw [List.drop_zero];rfl)
  ·exact key
  ·intro R _ hR;rw [List.drop_length,List.flatten_nil,List.append_nil] at hR;rw [jmL,hR];simp only [jd]
  ·intro i hi ih R hRl hR;have hlt:(i:Int) < ((ls.length:Nat):Int):=by omega
   have hck:ck ((i:Int)+1)=some (vi ((i+1:Nat):Int)):=jG (by omega) (by omega);have hc:=hl _ (List.getElem_mem hi);have hf:jB (R.length+ls[i].length) 48=true:=J0 (by omega);have ha:jL (R.map jC) (ls[i].map jC)=(R++ls[i]).map jC:=by rw [List.map_append];rfl
   have:=ih (R++ls[i]) (by rw [List.length_append];omega) (by rw [List.append_assoc,<-List.flatten_cons,<-jo hi];exact hR)
   rw [jmL];simp only [jd,hlt,hix i hi,rp i hi,hf,ha,hck,this]
 have key:=upto (P:=λi=>∀z:Nat,z<=50 * i->jcA (vi (z:Nat)) (vi (ls.length:Nat)) (vi (i:Nat)) (ls.map Jx)=some (.top,[.sl 3 (ls.flatten.map jC)])) (n:=ls.length) ?_ ?_ 0 (Nat.zero_le _) 0 (Nat.zero_le _)
 ·rw [jxs,Kt,List.length_map];exact key
 ·intro z hz;have e:=jtg z (by omega);have r0:hR 3 (A.top,[.sl 3 []]) 0=some []:=rfl;rw [jmK];simp only [jd,e,r0,hend]
 ·intro i hi ih z hz;have hlt:(i:Int) < ((ls.length:Nat):Int):=by omega
  have hck:ck ((i:Int)+1)=some (vi ((i+1:Nat):Int)):=jG (by omega) (by omega);have hc:=hl _ (List.getElem_mem hi);have c1:ck ((z:Int)+((ls[i].length:Nat):Int))=some (vi ((z+ls[i].length:Nat):Int)):=jG (by omega) (by omega);have hneg:¬((z+ls[i].length:Nat):Int) < 0:=by omega
  have:=ih (z+ls[i].length) (by omega);rw [jmK];simp only [jd,hlt,hix i hi,rp i hi,c1,hneg,hck,this]
def LN (l:jO):Prop:=l.length<=40/\ ∀x∈l,Bx x.2/\nodes x.2<=100
theorem LN.app {s:ju} (hs:jy s=true) {l:jO} (h:LN l):∀x∈l.map (λx=>(x.1,Go.Proofs.YtdbgbieenhcldaaGreatDoor.sub s x.2)),Bx x.2/\Tz x.2:=λx hx=>by
 obtain ⟨y,hy,rfl⟩:=List.mem_map.1 hx;have hb:=(h.2 y hy).1;exact ⟨hb.sub hs,qw.sub_tz hs hb.ax (by have:=(h.2 y hy).2;omega)⟩
theorem jfb {s:ju} {l c:jO} (h:JR s l=some c):CN c/\Asc cmpL c:=⟨(zP (Zg h).1).1,(Zg h).2⟩
theorem jpg (s:ju) (hs:jy s=true) (l:jO) (h:LN l):G 144 [sb s,.sl 3 (l.map jC)]=qy (JR s l):=by
 have hl:=h.1;have happ:=h.app hs;have e1:=jbH (l.map λx=>(x.1,sub s x.2)) (by rw [List.length_map];omega) (λx hx=>(happ x hx).1.rx) λx hx=>(happ x hx).2;have e2:=jiD (zo cmpL (l.map λx=>(x.1,sub s x.2))) (by have:=K0 cmpL (l.map λx=>(x.1,sub s x.2));rw [List.length_map] at this;omega) λx hx=>(happ x (JL.1 hx)).2;generalize hd:l.map (λx=>(x.1,sub s x.2))=d at *;have hdl:d.length=l.length:=by rw [<-hd,List.length_map]
 have key:=upto (P:=λi=>jgu (.sl 3 (l.map jC)) (vi (l.length:Nat)) (vi (i:Nat)) (qD s) ((d.take i).map jC) []=qy (if ((l.drop i).all λx=>jE (sub s x.2)) && zs (zo cmpL d) then some (zo cmpL d) else none)) (n:=l.length) ?_ ?_ 0 (Nat.zero_le _)
 ·simp only [Int.natCast_zero,List.take_zero,List.map_nil,List.drop_zero] at key;unfold JR;rw [hd,<-key,jzD];simp only [jd]
 ·rw [jqo,<-hdl,List.take_length,hdl,List.drop_length,List.all_nil,Bool.true_and];rw [<-hdl];cases hv:zs (zo cmpL d)<;>rw [hv] at e2
  ·rw [if_neg Bool.false_ne_true] at e2 ⊢;have e2:G 29 [cm (zo cmpL d)]=some (.tup [cz,vb false],[]):=e2;simp only [jd,e1,e2];rfl
  ·rw [if_pos rfl] at e2 ⊢;have e2:G 29 [cm (zo cmpL d)]=some (.tup [cm (zo cmpL d),vb true],[]):=e2;simp only [jd,e1,e2];rfl
 ·intro i hi ih;have hi2:i < d.length:=by omega
  have hlt:(i:Int) < ((l.length:Nat):Int):=by omega
  have h5:=jr hi (by show l.length<=9223372036854775807;omega)
  have hb:=h.2 _ (List.getElem_mem hi);have e3:=zI s hs l[i].2 hb.1.ax (by omega);have hdi:d[i]=(l[i].1,sub s l[i].2):=by simp only [<-hd,List.getElem_map]
  have ta:=K7 (f:=jC) hi2;have tl:=take_len (f:=jC) (Nat.le_of_lt hi2);have hf:jB (i+1) 48=true:=J0 (by omega);rw [hdi] at ta;rw [jqo,jo hi,List.all_cons];cases hsm:jE (sub s l[i].2)<;>rw [hsm] at e3
  ·rw [Bool.false_and,Bool.false_and,if_neg Bool.false_ne_true];have e3:G 139 [sb s,tm l[i].2]=some (.tup [.agg [sv [],.sl 2 []],vb false],[]):=e3;simp only [jd,hlt,ja hi,zN,e3];rfl
  ·rw [Bool.true_and];have e3:G 139 [sb s,tm l[i].2]=some (.tup [tm (sub s l[i].2),vb true],[]):=e3;generalize (d.take i).map jC=R at *;generalize sub s l[i].2=u at *;rw [<-ih];simp only [jd,hlt,ja hi,zN,e3,tl,hf,ta,h5]
theorem jph (s:ju) (hs:jy s=true) (l:jO) (h:LN l):G 153 [sb s,.sl 3 (l.map jC)]=qy (JR s l):=by
 have hl:=h.1;have happ:=h.app hs;have e1:=YQ (l.map λx=>(x.1,sub s x.2)) (by rw [List.length_map];omega) λx hx=>(happ x hx).2;have e2:=KY (zo cmpL (l.map λx=>(x.1,sub s x.2))) (by have:=K0 cmpL (l.map λx=>(x.1,sub s x.2));rw [List.length_map] at this;omega) λx hx=>(happ x (JL.1 hx)).2;generalize hd:l.map (λx=>(x.1,sub s x.2))=d at *;have hdl:d.length=l.length:=by rw [<-hd,List.length_map]
 have ld:∀l:Lt,kJ (.elt (jC l) 0)=some (vb l.1):=λl=>rfl;have ad:∀(l:Lt) (n:Nat),yJ (.elt (jC l) 0) n=some (.elt (jC l) n):=λl n=>by rw [yQ,Nat.zero_add]
 have ld2:∀l:Lt,jZ 2 (.elt (jC l) 1)=some (tm l.2):=λl=>rfl;have key:=upto (P:=λi=>jgx (.sl 3 (l.map jC)) (vi (i:Nat)) (qD s) ((d.take i).map jC) []=qy (if ((l.drop i).all λx=>jE (sub s x.2)) && zs (zo cmpL d) then some (zo cmpL d) else none)) (n:=l.length) ?_ ?_ 0 (Nat.zero_le _)
 ·simp only [Int.natCast_zero,List.take_zero,List.map_nil,List.drop_zero] at key;unfold JR;rw [hd,<-key,jzJ];simp only [jd]
 ·have hlt:¬((l.length:Nat):Int) < ((l.length:Nat):Int):=by omega
  rw [jqr,List.take_of_length_le (by omega),List.drop_length,List.all_nil,Bool.true_and];cases hv:zs (zo cmpL d)<;>rw [hv] at e2
  ·rw [if_neg Bool.false_ne_true];simp only [jd,e1,e2];rfl
  ·rw [if_pos rfl];simp only [jd,e1,e2];rfl
 ·intro i hi ih;have hi2:i < d.length:=by omega
  have hlt:(i:Int) < ((l.length:Nat):Int):=by omega
  have h5:=jr hi (by show l.length<=9223372036854775807;omega)
  have hb:=h.2 _ (List.getElem_mem hi);have tz:=hb.1.tz (by omega);have tz2:=qw.sub_tz hs hb.1.ax (by omega);have e3:=Zn s (zH hs).sz l[i].2 tz;have e4:=jfs (sub s l[i].2) tz2.wf tz2;rw [(hb.1.sub hs).atom] at e4;have hdi:d[i]=(l[i].1,sub s l[i].2):=by simp only [<-hd,List.getElem_map]
  have ta:=K7 (f:=jC) hi2;have tl:=take_len (f:=jC) (Nat.le_of_lt hi2);have hf:jB (i+1) 48=true:=J0 (by omega);rw [hdi] at ta;rw [jqr,jo hi,List.all_cons];cases hsm:jE (sub s l[i].2)<;>rw [hsm] at e4
  ·rw [Bool.false_and,Bool.false_and,if_neg Bool.false_ne_true];simp only [jd,hlt,ja hi,ad,ld2,e3,e4];rfl
  ·rw [Bool.true_and];generalize (d.take i).map jC=R at *;generalize sub s l[i].2=u at *;rw [<-ih];simp only [jd,hlt,ja hi,ad,ld,ld2,e3,e4,tl,hf,ta,h5]
theorem jbN (s:ju) (hs:jy s=true) (l:jO) (h:LN l):G 89 [sb s,.sl 3 (l.map jC)]=qy (Yp s l):=by
 have e1:=jpg s hs l h;unfold Yp;rw [g89];cases ha:JR s l with
 | none=>
  rw [ha] at e1;have e1:G 144 [sb s,.sl 3 (l.map jC)]=some (.tup [cz,vb false],[]):=e1;simp only [jd,e1];rfl
 | some c=>
  rw [ha] at e1;have e1:G 144 [sb s,.sl 3 (l.map jC)]=some (.tup [cm c,vb true],[]):=e1;have hc:=(jfb ha).1;have e2:=jhn c hc;have e3:=Kn (normC c) (by have:=hc.normC.1;omega) hc.normC.tz;rw [Option.bind_some];cases hn:kj (normC c)<;>rw [hn] at e3
  ·rw [if_neg Bool.false_ne_true];simp only [jd,e1,e2,e3];rfl
  ·rw [if_pos rfl];simp only [jd,e1,e2,e3];rfl
theorem jax (s:ju) (hs:jy s=true) (l:jO) (h:LN l):G 97 [sb s,.sl 3 (l.map jC)]=qy (Yp s l):=by
 have e1:=jph s hs l h;unfold Yp;rw [g97];cases ha:JR s l with
 | none=>
  rw [ha] at e1;have e1:G 153 [sb s,.sl 3 (l.map jC)]=some (.tup [cz,vb false],[]):=e1;simp only [jd,e1];rfl
 | some c=>
  rw [ha] at e1;have e1:G 153 [sb s,.sl 3 (l.map jC)]=some (.tup [cm c,vb true],[]):=e1;obtain ⟨hc,hasc⟩:=jfb ha;have e2:=jbR c hc hasc;have e3:=KG (normC c) hc.normC;rw [Option.bind_some];unfold kj;cases hv:zs (normC c)<;>rw [hv] at e2
  ·rw [Bool.false_and,if_neg Bool.false_ne_true];simp only [jd,e1,e2];rfl
  ·rw [Bool.true_and];cases hn:qm (normC c)<;>rw [hn] at e3
   ·rw [if_neg Bool.false_ne_true];simp only [jd,e1,e2,e3];rfl
   ·rw [if_pos rfl];simp only [jd,e1,e2,e3];rfl
theorem YS (r:Option jO):∃(c:jO) (b:Bool),qy r=some (.tup [cm c,vb b],[]):=by
 cases r with
 | none=>exact ⟨[],false,rfl⟩
 | some c=>exact ⟨c,true,rfl⟩
theorem jfB (r:Option ju):∃(u:ju) (b:Bool),kY r=some (.tup [sb u,vb b],[])/\(b=true->r=some u)/\(b=false->r=none):=by
 cases r with
 | none=>exact ⟨[],false,rfl,(λh=>by cases h),λ_=>rfl⟩
 | some u=>exact ⟨u,true,rfl,(λ_=>rfl),λh=>by cases h⟩
def jBf (f g:FuncId) (args:List A):Prop:=∃r:Option jO,G f args=qy r/\G g args=qy r/\ ∀x,r=some x->kj x=true
def jcm (c:jO) (i:Int):Bool:=KD 0 (((c.length:Nat):Int) - 1) i
theorem YM {c:jO} {i:Int} (h:jcm c i=true):∃k:Nat,i=(k:Int)/\k < c.length:=by
 unfold jcm KD at h;rw [Bool.and_eq_true,decide_eq_true_eq,decide_eq_true_eq] at h;exact ⟨i.toNat,by omega,by omega⟩
theorem qT (c:jO) (hl:c.length<=1000) (i:Int):G 87 [cm c,vi i]=some (vb (jcm c i),[]):=by
 have c1:ck (((c.length:Nat):Int) - 1)=some (vi (((c.length:Nat):Int) - 1)):=jG (by omega) (by omega);have e:=Zc i 0 (((c.length:Nat):Int) - 1);rw [g87];simp only [jd,c1,e];rfl
theorem LN.erase {c:jO} (h:CN c) (i:Nat):LN (c.eraseIdx i):=⟨by have:=List.length_eraseIdx_le c i;have:=h.1;omega,λx hx=>by
 have:=h.2 x (List.mem_of_mem_eraseIdx hx);exact ⟨this.1,by omega⟩⟩
theorem LN.append {a b:jO} (ha:CN a) (hb:CN b) (i k:Nat):LN (a.eraseIdx i++b.eraseIdx k):=⟨by
 have:=List.length_eraseIdx_le a i;have:=List.length_eraseIdx_le b k;have:=ha.1;have:=hb.1;rw [List.length_append];omega,λx hx=>by
 rcases List.mem_append.1 hx with hx|hx
 ·exact (LN.erase ha i).2 x hx
 ·exact (LN.erase hb k).2 x hx⟩
theorem ldB (l:Lt):kJ (.elt (jC l) 0)=some (vb l.1):=rfl
theorem adL (l:Lt) (n:Nat):yJ (.elt (jC l) 0) n=some (.elt (jC l) n):=by rw [yQ,Nat.zero_add]
theorem ldT (l:Lt):jZ 2 (.elt (jC l) 1)=some (tm l.2):=rfl
theorem hRl (x:jO):hR 3 (A.top,[.sl 3 (x.map jC)]) 0=some (x.map jC):=rfl
theorem jnt (d:jO) (n:Nat) (h:n < (jW d).length) (h':n < d.length):(jW d)[n].1=d[n].1:=by simp only [jW,List.getElem_map]
noncomputable def rwL (rs:List T):jO->Option jO
 | []=>some []
 | x::r=>(match rwN rs false 51 0 x.2 with
  | none=>none
  | some q=>(rwL rs r).map ((x.1,q.1)::·))
noncomputable def jBm (rs:List T) (R:jO) (l:jO):Option jO:=(rwL rs l).bind λr=>Yp [] (R++r)
structure Mdl where
 M:List UInt8->List Int->Int
 Q:List UInt8->List Int->Bool
 good:Int->Prop
 ok:∀n vs,good (M n vs)
def yk (m:Mdl) (e:List UInt8->Int) (t:T):Bool:=if t.name = [61]/\t.args.length=2 then decide (val m.M e (jcs t)=val m.M e (jcu t)) else m.Q t.name (t.args.map (val m.M e))
def clV (m:Mdl) (e:List UInt8->Int) (c:jO):Prop:=∃l∈c,yk m e l.2=l.1
def jlP (m:Mdl) (e:List UInt8->Int):Prop:=∀x,m.good (e x)
def trM (m:Mdl) (c:jO):Prop:=∀e,jlP m e->clV m e c
def Sd (ps:List jO) (x:jO):Prop:=∀m:Mdl,(∀c∈ps,trM m c)->trM m x
theorem jgS {t:T} (h:t.args.length=2):t.args = [jcs t,jcu t]:=by
 obtain ⟨n,us⟩:=t
 match us,h with
 | [a,b],_=>rfl
theorem Z1 {m:Mdl} {e e':List UInt8->Int} {a b:T} (hn:a.name=b.name) (hv:a.args.map (val m.M e)=b.args.map (val m.M e')):yk m e a=yk m e' b:=by
 have hl:a.args.length=b.args.length:=by have:=congrArg List.length hv;simpa using this
 unfold yk;rw [hn,hl];by_cases c:b.name = [61]/\b.args.length=2
 ·rw [if_pos c,if_pos c];have ha:=jgS (t:=a) (by rw [hl];exact c.2);have hb:=jgS c.2;rw [ha,hb] at hv;simp only [List.map_cons,List.map_nil,List.cons.injEq] at hv;rw [hv.1,hv.2.1]
 ·rw [if_neg c,if_neg c,hv]
section
variable (m:Mdl)
theorem jpW (u:ju) (e:List UInt8->Int) {t:T} (h:Bx t):yk m e (sub u t)=yk m (λx=>val m.M e (Ji u x)) t:=by
 have hv:=h.nv;refine Z1 (Yw hv) ?_;rw [K6 hv,List.map_map];exact List.map_congr_left λa ha=>jhL u e a (h.args a ha)
theorem jdw {e:List UInt8->Int} (he:jlP m e) (u:ju):jlP m (λx=>val m.M e (Ji u x)):=λ_=>jeK m.ok he _
theorem jvX {u:ju} {e:List UInt8->Int} {l:jO} (hb:∀y∈l,Bx y.2) (h:clV m (λx=>val m.M e (Ji u x)) l):clV m e (l.map λx=>(x.1,sub u x.2)):=by
 obtain ⟨x,hx,hh⟩:=h;exact ⟨(x.1,sub u x.2),List.mem_map.2 ⟨x,hx,rfl⟩,by show yk m e (sub u x.2)=x.1;rw [jpW m u e (hb x hx)];exact hh⟩
theorem jt1 {f:List UInt8->List UInt8} (hf:∀n,jk n=true->jk (f n)=true) (e:List UInt8->Int):∀t:T,z6 t=true->val m.M e (kg f t)=val m.M (λx=>e (f x)) t:=by
 refine T.ind λt ih=> ?_;intro ht;rw [Kv];cases hv:jk t.name with
 | true=>
  rw [if_pos rfl,Y1 (t:=t) ht hv,jby];show (if ([]:List T).isEmpty && upN (f t.name) then e (f t.name) else _)=_;rw [jcR (hf _ hv)];rfl
 | false=>
  have hs:=ZC (jbi ht hv);rw [if_neg Bool.false_ne_true,Ky (t:= .mk t.name (t.args.map (kg f))) hs,Ky (t:=t) hs];show m.M t.name ((t.args.map (kg f)).map (val m.M e))=_;rw [List.map_map];exact congrArg _ (List.map_congr_left λa ha=>ih a ha (zE ht a ha))
theorem jpV {f:List UInt8->List UInt8} (hf:∀n,jk n=true->jk (f n)=true) (e:List UInt8->Int) {t:T} (h:Bx t):yk m e (kg f t)=yk m (λx=>e (f x)) t:=by
 have hv:=h.nv;refine Z1 (Yo hv) ?_;rw [K3 hv,List.map_map];exact List.map_congr_left λa ha=>jt1 m hf e a (h.args a ha)
variable {m}
theorem jrO {f:List UInt8->List UInt8} (hf:∀n,jk n=true->jk (f n)=true) {c:jO} (hb:∀y∈c,Bx y.2) (h:trM m c):trM m (c.map λl=>(l.1,kg f l.2)):=by
 intro e he;obtain ⟨x,hx,hh⟩:=h (λx=>e (f x)) λx=>he _;exact ⟨(x.1,kg f x.2),List.mem_map.2 ⟨x,hx,rfl⟩,by show yk m e (kg f x.2)=x.1;rw [jpV m hf e (hb x hx)];exact hh⟩
theorem jnb {l:jO} (h:trM m l):trM m (zo cmpL l):=λe he=>by
 obtain ⟨x,hx,hh⟩:=h e he;exact ⟨x,JL.2 hx,hh⟩
theorem jii {p:UInt8} (hp:upc p=true) {c:jO} (hc:CN c):∀n,jk n=true->jk (ku p (j8 c) n)=true:=λn hn=>ja8 hp (by have:=yl hc;omega) hn
theorem jtY {p:UInt8} (hp:upc p=true) {c:jO} (hc:CN c) (h:trM m c):trM m (renC p c):=jnb (jrO (jii hp hc) (λy hy=>(hc.2 y hy).1) h)
theorem jjU:∀(k:Nat) {c:jO},CN c->trM m c->trM m (normF k c)
 | 0,_,_,h=>h
 | k+1,c,hc,h=>by
  rw [normF];split
  ·exact h
  ·exact jjU k (hc.renC (by decide)) (jtY (by decide) hc h)
theorem jrN {d:jO} (hd:kj d=true) (h:trM m d):trM m (jW d):=jrO (jii (by decide) (kM hd).1) (λy hy=>((kM hd).1.2 y hy).1) h
theorem jm1 {u:ju} {l x:jO} (hx:Yp u l=some x) (hb:∀y∈l,Bx y.2) (hl:∀e,jlP m e->clV m (λx=>val m.M e (Ji u x)) l):trM m x:=by
 unfold Yp at hx;rw [Option.bind_eq_some_iff] at hx;obtain ⟨d,hd,hx⟩:=hx;have hv:=(Zg hd).1;split at hx
 ·cases hx;refine jjU 10 (zP hv).1 ?_;unfold JR at hd;split at hd
  ·cases hd;exact jnb λe he=>jvX m hb (hl e he)
  ·cases hd
 ·cases hx
end
def jgQ (M:List UInt8->List Int->Int) (e:List UInt8->Int) (s:ju):Prop:=∀q∈s,e q.1=val M e q.2
section
variable {M:List UInt8->List Int->Int} {e:List UInt8->Int}
theorem jry {s:ju} (h:jgQ M e s) {n:List UInt8} (hn:jk n=true):val M e (Ji s n)=e n:=by
 rw [Ji];cases hl:look s n with
 | some r=>exact (h _ (Kq hl)).symm
 | none=>
  show val M e (.mk n [])=e n;rw [jby];show (if ([]:List T).isEmpty && upN n then e n else _)=_;rw [jcR hn];rfl
theorem jhA {s:ju} (h:jgQ M e s) {t:T} (ht:z6 t=true):val M e (sub s t)=val M e t:=by
 rw [jhL s e t ht];exact jf6 t ht λx hx=>jry h (jkb t hx)
theorem jrV {a b:T} (ha:z6 a=true) (hb:z6 b=true) (va:jk a.name=false) (vb:jk b.name=false) (hn:a.name=b.name) (hv:a.args.map (val M e)=b.args.map (val M e)):val M e a=val M e b:=by
 rw [Ky (t:=a) (ZC (jbi ha va)),Ky (t:=b) (ZC (jbi hb vb)),hn,hv]
theorem jhN:∀ {us bs:List T},us.length=bs.length->(∀p∈us.zip bs,val M e p.1=val M e p.2)->us.map (val M e)=bs.map (val M e)
 | [],[],_,_=>rfl
 | a::us,b::bs,hl,h=>by
  rw [List.map_cons,List.map_cons,h (a,b) (by simp),jhN (by simpa using hl) λp hp=>h p (by simp [hp])]
 | [],b::bs,hl,_=>by cases hl
 | a::us,[],hl,_=>by cases hl
theorem jrS:∀(k:Nat) (s:ju) (es:yv) {u:ju},qZ s es->(∀p∈es,z6 p.1=true/\z6 p.2=true)->km k s es=some (some u)->jgQ M e u->jgQ M e s/\ ∀p∈es,val M e p.1=val M e p.2:=by
 intro k;induction k with
 | zero=>
  intro s es u h ho hu hs;cases es with
  | nil=>simp only [km,Option.some.injEq] at hu;rw [hu];exact ⟨hs,λp hp=>by cases hp⟩
  | cons p es=>simp [km] at hu
 | succ k ih=>
  intro s es u h ho hu hs;cases es with
  | nil=>simp only [km,Option.some.injEq] at hu;rw [hu];exact ⟨hs,λp hp=>by cases hp⟩
  | cons p es=>
   obtain ⟨l,r⟩:=p;rw [km] at hu;cases hst:kX s l r es with
   | none=>
    have hst:kX s (l,r).1 (l,r).2 es=none:=hst;rw [hst] at hu;simp at hu
   | some q=>
    have hst':kX s (l,r).1 (l,r).2 es=some q:=hst;rw [hst'] at hu;obtain ⟨s',es'⟩:=q;have hu:km k s' es'=some (some u):=hu;have hinv:=(j5 h hst).1;obtain ⟨ol,or'⟩:=ho (l,r) (List.mem_cons_self ..);have ores:∀p∈es,z6 p.1=true/\z6 p.2=true:=λp hp=>ho p (List.mem_cons_of_mem _ hp);obtain ⟨hv,hi,he⟩:=h;have hk:=qf hv;have kl:=Yx hk l ol;have kr:=Yx hk r or';have fin:∀ {es0:yv},jgQ M e s->val M e (sub s l)=val M e (sub s r)->(∀p∈es,val M e p.1=val M e p.2)->jgQ M e s/\ ∀p∈(l,r)::es,val M e p.1=val M e p.2:=by
     intro _ h1 h2 h3;refine ⟨h1,λp hp=> ?_⟩;rcases List.mem_cons.1 hp with rfl|hp
     ·rw [jhA h1 ol,jhA h1 or'] at h2;exact h2
     ·exact h3 p hp
    unfold kX at hst;split at hst
    ·cases hst
    split at hst
    ·rename_i heq;cases hst;obtain ⟨h1,h2⟩:=ih s es hinv ores hu hs;exact fin (es0:=[]) h1 (by rw [qk.1 heq]) h2
    split at hst
    ·rename_i hvar;split at hst
     ·cases hst
     rename_i hno;cases hst;obtain ⟨h1,h2⟩:=ih _ es hinv ores hu hs;have c1:(jg (sub s l) (sub s r)).1 ∉ jS (jg (sub s l) (sub s r)).2:=λh=>hno (Or.inl h);have c3:jy [jg (sub s l) (sub s r)]=true:=by
      cases h:jy [jg (sub s l) (sub s r)] with
      | true=>rfl
      | false=>exact absurd (Or.inr (Or.inl h)) hno
     obtain ⟨_,_,h4⟩:=jF c3;obtain ⟨k1,_,k3⟩:=h4 _ (List.mem_singleton_self _);have hb:look s (jg (sub s l) (sub s r)).1=none/\(∀x∈jS (jg (sub s l) (sub s r)).2,look s x=none)/\(e (jg (sub s l) (sub s r)).1=val M e (jg (sub s l) (sub s r)).2->val M e (sub s l)=val M e (sub s r)):=by
      unfold jg;split
      ·rename_i hc;have hy:jk (sub s r).name=true:=by
        rcases hc with hc|hc
        ·rcases hvar with h|h
         ·rw [hc] at h;cases h
         ·exact h
        ·exact hc.1
       exact ⟨Ka hi r (by rw [vsv hy];simp),λx hx=>Ka hi l hx,λh=>by rw [Y1 kr hy];exact h.symm⟩
      ·rename_i hc;have hx:jk (sub s l).name=true:=by
        cases h:jk (sub s l).name with
        | true=>rfl
        | false=>exact absurd (Or.inl h) hc
       exact ⟨Ka hi l (by rw [vsv hx];simp),λx hx=>Ka hi r hx,λh=>by rw [Y1 kl hx];exact h⟩
     generalize jg (sub s l) (sub s r)=b at *;obtain ⟨n,t⟩:=b;obtain ⟨_,_,c5,_⟩:=jdl hv hi k1 hb.1 hb.2.1 c1 k3;have hb1:e n=val M e t:=h1 (n,t) ((c5 _).2 (Or.inr rfl));have hsb:jgQ M e [(n,t)]:=λq hq=>by rw [List.mem_singleton.1 hq];exact hb1
     have hss:jgQ M e s:=λq hq=>by
      have:=h1 _ ((c5 _).2 (Or.inl ⟨q,hq,rfl⟩));have h6:val M e (sub [(n,t)] q.2)=val M e q.2:=jhA hsb (hk q hq);rw [<-h6];exact this
     exact fin (es0:=[]) hss (hb.2.2 hb1) h2
    ·rename_i hnv;split at hst
     ·rename_i hnm;cases hst;have v1:jk (sub s l).name=false:=by
       cases h:jk (sub s l).name with
       | false=>rfl
       | true=>exact absurd (Or.inl h) hnv
      have v2:jk (sub s r).name=false:=by
       cases h:jk (sub s r).name with
       | false=>rfl
       | true=>exact absurd (Or.inr h) hnv
      obtain ⟨h1,h2⟩:=ih s _ hinv (λp hp=>by
       rcases List.mem_append.1 hp with hp|hp
       ·have hm:=List.of_mem_zip (a:=p.1) (b:=p.2) hp;exact ⟨zE kl _ hm.1,zE kr _ hm.2⟩
       ·exact ores p hp) hu hs
      exact fin (es0:=[]) h1 (jrV kl kr v1 v2 hnm.1 (jhN hnm.2 λp hp=>h2 p (List.mem_append_left _ hp))) λp hp=>h2 p (List.mem_append_right _ hp)
     ·cases hst
theorem jdZ:∀ {u:ju} {q:List UInt8 × T},(u.map Prod.fst).Nodup->q∈u->look u q.1=some q.2
 | p::u,q,hn,hq=>by
  rw [look];rcases List.mem_cons.1 hq with rfl|hq
  ·rw [if_pos rfl]
  ·rw [List.map_cons,List.nodup_cons] at hn;rw [if_neg (λe=>hn.1 (by rw [e];exact List.mem_map.2 ⟨q,hq,rfl⟩))];exact jdZ hn.2 hq
theorem jwC {u:ju} (hv:jy u=true) (hi:IdS u):jgQ M (λx=>val M e (Ji u x)) u:=by
 intro q hq;have hk:=qf hv;have hl:=jdZ (Yb hv) hq;show val M e (Ji u q.1)=val M (λx=>val M e (Ji u x)) q.2;rw [<-jhL u e q.2 (hk q hq),jbw q.2 (hk q hq) λx hx=>hi q hq x hx,Ji,hl];rfl
theorem jeI {a b:T} (ha:Bx a) (hb:Bx b) (na:nodes a<=31) (nb:nodes b<=31) {u:ju} (hu:J9 a b=some u):a.name=b.name/\a.args.map (val M λx=>val M e (Ji u x))=b.args.map (val M λx=>val M e (Ji u x)):=by
 obtain ⟨k,hk⟩:=Kx (ha.exx na) (hb.exx nb);rw [hu] at hk;have hinv:=jj0 (ha.exx na) (hb.exx nb);obtain ⟨hv,hi⟩:=jj1 k _ _ hinv hk;have hs:=jwC (M:=M) (e:=e) hv hi;cases k with
 | zero=>simp [km] at hk
 | succ k=>
  rw [km] at hk;have v1:=ha.nv;have v2:=hb.nv;have i1:∀t∈a.args,sub [] t=t:=λt ht=>jbw t (ha.args t ht) λx _=>rfl;have i2:∀t∈b.args,sub [] t=t:=λt ht=>jbw t (hb.args t ht) λx _=>rfl;have e1:sub [] a=a:=by rw [yB v1,List.map_congr_left i1,List.map_id',T.eta]
  have e2:sub [] b=b:=by rw [yB v2,List.map_congr_left i2,List.map_id',T.eta]
  cases hst:kX [] a b [] with
  | none=>
   have hst:kX [] (a,b).1 (a,b).2 []=none:=hst;rw [hst] at hk;simp at hk
  | some q=>
   have hst':kX [] (a,b).1 (a,b).2 []=some q:=hst;rw [hst'] at hk;obtain ⟨s',es'⟩:=q;have hk:km k s' es'=some (some u):=hk;have hinv2:=(j5 hinv hst).1;unfold kX at hst;rw [e1,e2] at hst;split at hst
   ·cases hst
   split at hst
   ·rename_i heq;rw [qk.1 heq];exact ⟨rfl,rfl⟩
   split at hst
   ·rename_i hvar;rw [v1,v2] at hvar;rcases hvar with h|h<;>cases h
   ·split at hst
    ·rename_i hnm;cases hst;rw [List.append_nil] at hk hinv2;obtain ⟨_,h2⟩:=jrS k _ _ hinv2 (λp hp=>by
      have hm:=List.of_mem_zip (a:=p.1) (b:=p.2) hp;exact ⟨ha.args _ hm.1,hb.args _ hm.2⟩) hk hs
     exact ⟨hnm.1,jhN hnm.2 h2⟩
    ·cases hst
end
theorem jbe {α:Type} {c:List α} {m:Nat} (h:m < c.length) {l:α} (hl:l∈c):l=c[m]\/l∈c.eraseIdx m:=by
 obtain ⟨i,hi,rfl⟩:=List.getElem_of_mem hl;by_cases e:i=m
 ·subst e;exact Or.inl rfl
 ·exact Or.inr (List.mem_eraseIdx_iff_getElem.2 ⟨i,hi,e,rfl⟩)
theorem jnC {α:Type} {c:List α} {m n:Nat} (h:m < c.length) (e:m≠n):c[m]∈c.eraseIdx n:=List.mem_eraseIdx_iff_getElem.2 ⟨m,h,e,rfl⟩
theorem jdk {c:jO} (h:CN c) (m:Nat):∀y∈c.eraseIdx m,Bx y.2:=λy hy=>(h.2 y (List.mem_of_mem_eraseIdx hy)).1
theorem jlw {c d:jO} (hc:CN c) (hd:kj d=true) {m n:Nat} (hm:m < c.length) (hn:n < (jW d).length) (hs:¬c[m].1=(jW d)[n].1) {u:ju} (hu:J9 c[m].2 (jW d)[n].2=some u) {x:jO} (hx:Yp u (c.eraseIdx m++(jW d).eraseIdx n)=some x):Sd [c,d] x:=by
 intro M hM;have tc:=hM c (by simp);have td:=jrN hd (hM d (by simp));have ce:=jib hd;refine jm1 hx (λy hy=>(List.mem_append.1 hy).elim (jdk hc m y) (jdk ce n y)) λe he=> ?_;obtain ⟨l,hl,h1⟩:=tc _ (jdw M he u);obtain ⟨l',hl',h2⟩:=td _ (jdw M he u);rcases jbe hm hl with h|h
 ·rcases jbe hn hl' with h'|h'
  ·exfalso;have b1:=hc.2 _ (List.getElem_mem hm);have b2:=ce.2 _ (List.getElem_mem hn);obtain ⟨e1,e2⟩:=jeI (M:=M.M) (e:=e) b1.1 b2.1 (by omega) (by omega) hu;have:=Z1 (m:=M) e1 e2;rw [h] at h1;rw [h'] at h2;exact hs (by rw [<-h1,<-h2,this])
  ·exact ⟨l',List.mem_append_right _ h',h2⟩
 ·exact ⟨l,List.mem_append_left _ h,h1⟩
theorem jos {c:jO} (hc:CN c) {m n:Nat} (hm:m < c.length) (hn:n < c.length) (hmn:m≠n) (hs:c[m].1=c[n].1) {u:ju} (hu:J9 c[m].2 c[n].2=some u) {x:jO} (hx:Yp u (c.eraseIdx n)=some x):Sd [c] x:=by
 intro M hM;have tc:=hM c (by simp);refine jm1 hx (jdk hc n) λe he=> ?_;obtain ⟨l,hl,h1⟩:=tc _ (jdw M he u);rcases jbe hn hl with h|h
 ·have b1:=hc.2 _ (List.getElem_mem hm);have b2:=hc.2 _ (List.getElem_mem hn);obtain ⟨e1,e2⟩:=jeI (M:=M.M) (e:=e) b1.1 b2.1 (by omega) (by omega) hu;have:=Z1 (m:=M) e1 e2;rw [h] at h1;exact ⟨c[m],jnC hm hmn,by rw [this,h1,hs]⟩
 ·exact ⟨l,h,h1⟩
def jAP (ps:List jO) (f g:FuncId) (args:List A):Prop:=∃r:Option jO,G f args=qy r/\G g args=qy r/\ ∀x,r=some x->kj x=true/\Sd ps x
theorem jmB (c d:jO) (hc:kj c=true) (hd:kj d=true) (i k:Int):∃r:Option jO,G 41 [cm c,vi i,cm d,vi k]=qy r/\G 69 [cm c,vi i,cm d,vi k]=qy r/\ ∀x,r=some x->(kj x=true/\Sd [c,d] x)/\ ∃(u:ju) (m n:Nat),i=(m:Nat)/\m < c.length/\n < d.length/\Yp u (c.eraseIdx m++(jW d).eraseIdx n)=some x:=by
 obtain ⟨cc,_,_,_⟩:=kM hc;obtain ⟨cd,_,_,_⟩:=kM hd;have lc:=cc.1;have ld:=cd.1;have ce:=jib hd;have le:=jnu d;have a1:=jnq d hd;have a2:=jnr d hd;have p1:=qT c (by omega) i;have p2:=qT d (by omega) k;have c1:ck (((c.length:Nat):Int) - 1)=some (vi (((c.length:Nat):Int) - 1)):=jG (by omega) (by omega);have c2:ck ((((jW d).length:Nat):Int) - 1)=some (vi ((((jW d).length:Nat):Int) - 1)):=jG (by omega) (by omega);have q1:=Ko i 0 (((c.length:Nat):Int) - 1);have q2:=Ko k 0 ((((jW d).length:Nat):Int) - 1);have hi':KD 0 (((c.length:Nat):Int) - 1) i=jcm c i:=rfl;have hk':KD 0 ((((jW d).length:Nat):Int) - 1) k=jcm d k:=by rw [le];rfl
 rw [hi'] at q1;rw [hk'] at q2;rw [g41,g69];cases hi:jcm c i<;>rw [hi] at p1 q1
 ·exact ⟨none,by simp only [jd,p1];rfl,by simp only [jd,a2,c1,q1];rfl,λx h=>by cases h⟩
 cases hk:jcm d k<;>rw [hk] at p2 q2
 ·exact ⟨none,by simp only [jd,p1,p2];rfl,by simp only [jd,a2,c1,q1,c2,q2];rfl,λx h=>by cases h⟩
 obtain ⟨m,rfl,hm⟩:=YM hi;obtain ⟨n,rfl,hn⟩:=YM hk;have hn2:n < (jW d).length:=by omega
 have sg:(jW d)[n].1=d[n].1:=jnt d n hn2 hn;have x1:=ja (k:=3) (f:=jC) hm;have x2:=ja (k:=3) (f:=jC) hn;have x3:=ja (k:=3) (f:=jC) hn2;have hb1:=cc.2 _ (List.getElem_mem hm);have hb2:=ce.2 _ (List.getElem_mem hn2);have u1:=jj2 c[m].2 (jW d)[n].2 (hb1.1.exx (by omega)) (hb2.1.exx (by omega));have u2:=jdQ c[m].2 (jW d)[n].2 (hb1.1.exx (by omega)) (hb2.1.exx (by omega));have hval:∀s,J9 c[m].2 (jW d)[n].2=some s->jy s=true:=λs hs=>jaQ (hb1.1.exx (by omega)) (hb2.1.exx (by omega)) hs;by_cases hs:c[m].1=d[n].1
 ·have hs2:c[m].1=(jW d)[n].1:=by rw [sg];exact hs
  exact ⟨none,by simp only [jd,p1,p2,x1,x2,adL,ldB,hs];rfl,by simp only [jd,a2,c1,q1,c2,q2,x1,x3,adL,ldB,hs2];rfl,λx h=>by cases h⟩
 have hs1:=decide_eq_false hs;have hs2:decide (c[m].1=(jW d)[n].1)=false:=by rw [sg];exact hs1
 obtain ⟨u,b,hu,hut,huf⟩:=jfB (J9 c[m].2 (jW d)[n].2);rw [hu] at u1 u2;cases b
 ·exact ⟨none,by simp only [jd,p1,p2,x1,x2,x3,adL,ldB,ldT,hs1,a1,u1];rfl,by simp only [jd,a2,c1,q1,c2,q2,x1,x3,adL,ldB,ldT,hs2,u2];rfl,λx h=>by cases h⟩
 have hv:=hval u (hut rfl);have hln:=LN.append cc ce m n;have w1:=QS c (by omega) m hm;have w2:=QS (jW d) (by omega) n hn2;have w3:=YB c (by omega) m hm;have w4:=YB (jW d) (by omega) n hn2;have cat:=jnx [c.eraseIdx m,(jW d).eraseIdx n] (by simp) (λx hx=>by
  simp only [List.mem_cons,List.not_mem_nil,or_false] at hx;rcases hx with rfl|rfl
  ·have:=(LN.erase cc m).1;omega
  ·have:=(LN.erase ce n).1;omega)
 have hfl: [c.eraseIdx m,(jW d).eraseIdx n].flatten=c.eraseIdx m++(jW d).eraseIdx n:=by simp
 rw [hfl] at cat;have cat:jlO [[.sl 3 ((c.eraseIdx m).map jC)],[.sl 3 (((jW d).eraseIdx n).map jC)]]=some (.top,[.sl 3 ((c.eraseIdx m++(jW d).eraseIdx n).map jC)]):=cat;have e1:=jbN u hv _ hln;have e2:=jax u hv _ hln;have hf:jB ((c.eraseIdx m).length+((jW d).eraseIdx n).length) 48=true:=J0 (by have:=(LN.erase cc m).1;have:=(LN.erase ce n).1;omega);have ha:jL ((c.eraseIdx m).map jC) (((jW d).eraseIdx n).map jC)=(c.eraseIdx m++(jW d).eraseIdx n).map jC:=by rw [List.map_append];rfl
 refine ⟨Yp u (c.eraseIdx m++(jW d).eraseIdx n),?_,?_,λx hx=>⟨⟨jb5 hx,jlw cc hd hm hn2 (by rw [sg];exact hs) (hut rfl) hx⟩,u,m,n,rfl,hm,hn,hx⟩⟩
 ·obtain ⟨c',b',hr⟩:=YS (Yp u (c.eraseIdx m++(jW d).eraseIdx n));rw [hr] at e1 ⊢;generalize c.eraseIdx m++(jW d).eraseIdx n=L at *;simp only [jd,p1,p2,x1,x2,x3,adL,ldB,ldT,hs1,a1,u1,w1,w2,cat,hRl,e1]
 ·obtain ⟨c',b',hr⟩:=YS (Yp u (c.eraseIdx m++(jW d).eraseIdx n));rw [hr] at e2 ⊢;generalize c.eraseIdx m++(jW d).eraseIdx n=L at *;simp only [jd,a2,c1,q1,c2,q2,x1,x3,adL,ldB,ldT,hs2,u2,w3,w4,hRl,hf,ha,e2]
theorem jom (c d:jO) (hc:kj c=true) (hd:kj d=true) (i k:Int):∃r:Option jO,G 41 [cm c,vi i,cm d,vi k]=qy r/\G 69 [cm c,vi i,cm d,vi k]=qy r/\ ∀x,r=some x->kj x=true/\Sd [c,d] x:=by
 obtain ⟨r,h1,h2,h3⟩:=jmB c d hc hd i k;exact ⟨r,h1,h2,λx hx=>(h3 x hx).1⟩
theorem jpQ (c:jO) (hc:kj c=true) (i k:Int) (ib: -9223372036854775808<=i/\i<=9223372036854775807):∃r:Option jO,G 46 [cm c,vi i,vi k]=qy r/\G 47 [cm c,vi i,vi k]=qy r/\ ∀x,r=some x->kj x=true/\Sd [c] x:=by
 obtain ⟨cc,_,_,_⟩:=kM hc;have lc:=cc.1;have p1:=qT c (by omega) i;have p2:=qT c (by omega) k;have c1:ck (((c.length:Nat):Int) - 1)=some (vi (((c.length:Nat):Int) - 1)):=jG (by omega) (by omega);have q1:=Ko i 0 (((c.length:Nat):Int) - 1);have q2:=Ko k (i+1) (((c.length:Nat):Int) - 1);have hi':KD 0 (((c.length:Nat):Int) - 1) i=jcm c i:=rfl;rw [hi'] at q1;rw [g46,g47];cases hi:jcm c i<;>rw [hi] at p1 q1
 ·exact ⟨none,by simp only [jd,p1];rfl,by simp only [jd,c1,q1];rfl,λx h=>by cases h⟩
 obtain ⟨m,rfl,hm⟩:=YM hi;have cm1:ck ((m:Int)+1)=some (vi ((m:Int)+1)):=jG (by omega) (by omega);have hk':KD ((m:Int)+1) (((c.length:Nat):Int) - 1) k=(jcm c k && !decide (k<=(m:Int))):=by
  unfold jcm KD;by_cases h1:k<=(m:Int)
  ·rw [decide_eq_false (show ¬(m:Int)+1<=k by omega),decide_eq_true h1,Bool.false_and,Bool.not_true,Bool.and_false]
  ·rw [decide_eq_true (show (m:Int)+1<=k by omega),decide_eq_false h1,decide_eq_true (show (0:Int)<=k by omega),Bool.not_false,Bool.and_true]
 rw [hk'] at q2;cases hk:jcm c k<;>rw [hk] at p2 q2
 ·rw [Bool.false_and] at q2;exact ⟨none,by simp only [jd,p1,p2];rfl,by simp only [jd,c1,q1,cm1,q2];rfl,λx h=>by cases h⟩
 rw [Bool.true_and] at q2;by_cases hik:k<=(m:Int)
 ·rw [decide_eq_true hik] at q2;exact ⟨none,by simp only [jd,p1,p2,hik];rfl,by simp only [jd,c1,q1,cm1,q2];rfl,λx h=>by cases h⟩
 have hik':=decide_eq_false hik;rw [hik'] at q2;obtain ⟨n,rfl,hn⟩:=YM hk;have x1:=ja (k:=3) (f:=jC) hm;have x2:=ja (k:=3) (f:=jC) hn;have hb1:=cc.2 _ (List.getElem_mem hm);have hb2:=cc.2 _ (List.getElem_mem hn);have u1:=jj2 c[m].2 c[n].2 (hb1.1.exx (by omega)) (hb2.1.exx (by omega));have u2:=jdQ c[m].2 c[n].2 (hb1.1.exx (by omega)) (hb2.1.exx (by omega));by_cases hs:c[m].1=c[n].1;rotate_left
 ·have hs1:=decide_eq_false hs;exact ⟨none,by simp only [jd,p1,p2,hik',x1,x2,adL,ldB,hs1];rfl,by simp only [jd,c1,q1,cm1,q2,x1,x2,adL,ldB,hs1];rfl,λx h=>by cases h⟩
 have hs1:=decide_eq_true hs;obtain ⟨u,b,hu,hut,huf⟩:=jfB (J9 c[m].2 c[n].2);rw [hu] at u1 u2;cases b
 ·exact ⟨none,by simp only [jd,p1,p2,hik',x1,x2,adL,ldB,ldT,hs1,u1];rfl,by simp only [jd,c1,q1,cm1,q2,x1,x2,adL,ldB,ldT,hs1,u2];rfl,λx h=>by cases h⟩
 have hv:=jaQ (hb1.1.exx (by omega)) (hb2.1.exx (by omega)) (hut rfl);have hln:=LN.erase cc n;have w1:=QS c (by omega) n hn;have w3:=YB c (by omega) n hn;have e1:=jbN u hv _ hln;have e2:=jax u hv _ hln;refine ⟨Yp u (c.eraseIdx n),?_,?_,λx hx=>⟨jb5 hx,jos cc hm hn (by omega) hs (hut rfl) hx⟩⟩
 ·obtain ⟨c',b',hr⟩:=YS (Yp u (c.eraseIdx n));rw [hr] at e1 ⊢;simp only [jd,p1,p2,hik',x1,x2,adL,ldB,ldT,hs1,u1,w1,e1]
 ·obtain ⟨c',b',hr⟩:=YS (Yp u (c.eraseIdx n));rw [hr] at e2 ⊢;simp only [jd,c1,q1,cm1,q2,x1,x2,adL,ldB,ldT,hs1,u2,w3,hRl,e2]
def Cz (c:jO):Prop:=c.length<=1048576/\ ∀l∈c,Tz l.2
noncomputable def wfP (p:Prf):Bool:=decide (p.ax.length<=30) && p.ax.all kj && decide (p.st.length<=60)
noncomputable def jnJ (out:List jO) (r:jO):Bool:=out.any λx=>dq x r
noncomputable def ZQ (out:List jO) (r:jO):List jO:=if jnJ out r then out else out++[r]
noncomputable def ze:List jO->List jO->List jO
 | out,[]=>out
 | out,r::l=>ze (ZQ out r) l
theorem Q8 (out:List jO) (r:jO):(ZQ out r).length<=out.length+1:=by
 unfold ZQ;split
 ·omega
 ·rw [List.length_append,List.length_singleton];omega
theorem Q9 {out:List jO} {r x:jO} (h:x∈ZQ out r):x∈out\/x=r:=by
 unfold ZQ at h;split at h
 ·exact Or.inl h
 ·simpa using h
theorem K8:∀(out a b:List jO),ze out (a++b)=ze (ze out a) b
 | _,[],_=>rfl
 | out,r::a,b=>K8 (ZQ out r) a b
theorem K9:∀(out l:List jO),(ze out l).length<=out.length+l.length
 | _,[]=>Nat.le_refl _
 | out,r::l=>by
  have h1:=K9 (ZQ out r) l;have h2:=Q8 out r;rw [ze,List.length_cons];omega
theorem Za:∀ {out l:List jO} {x:jO},x∈ze out l->x∈out\/x∈l
 | _,[],_,h=>Or.inl h
 | out,r::l,x,h=>by
  rcases Za (out:=ZQ out r) h with h|h
  ·rcases Q9 h with h|h
   ·exact Or.inl h
   ·exact Or.inr (by simp [h])
  ·exact Or.inr (List.mem_cons_of_mem _ h)
def JG (R:Nat->Option jO):Nat->Nat->List jO
 | 0,_=>[]
 | j+1,k=>(R k).toList++JG R j (k+1)
def yS (R:Nat->Nat->Option jO) (m:Nat):Nat->Nat->List jO
 | 0,_=>[]
 | j+1,i=>JG (R i) m 0++yS R m j (i+1)
theorem K4 (R:Nat->Option jO):∀j k,(JG R j k).length<=j
 | 0,_=>Nat.le_refl _
 | j+1,k=>by
  have h:=K4 R j (k+1);rw [JG,List.length_append];have:(R k).toList.length<=1:=by cases R k<;>simp
  omega
theorem jbu (R:Nat->Nat->Option jO) (m:Nat):∀j i,(yS R m j i).length<=j * m
 | 0,_=>Nat.zero_le _
 | j+1,i=>by
  have h:=jbu R m j (i+1);have h2:=K4 (R i) m 0;rw [yS,List.length_append,Nat.add_mul,Nat.one_mul];omega
theorem J6 {R:Nat->Option jO} :∀ {j k:Nat} {x:jO},x∈JG R j k-> ∃n,k<=n/\n < k+j/\R n=some x
 | 0,_,_,h=>by cases h
 | j+1,k,x,h=>by
  rw [JG] at h;rcases List.mem_append.1 h with h|h
  ·exact ⟨k,Nat.le_refl _,by omega,by simpa using h⟩
  ·obtain ⟨n,h1,h2,h3⟩:=J6 h;exact ⟨n,by omega,by omega,h3⟩
theorem jfS {R:Nat->Nat->Option jO} {m:Nat} :∀ {j i:Nat} {x:jO},x∈yS R m j i-> ∃n k,R n k=some x
 | 0,_,_,h=>by cases h
 | j+1,i,x,h=>by
  rw [yS] at h;rcases List.mem_append.1 h with h|h
  ·obtain ⟨k,_,_,h3⟩:=J6 h;exact ⟨i,k,h3⟩
  ·exact jfS h
theorem qJ {c:jO} (h:kj c=true):CN c:=(kM h).1
theorem CN.cz {c:jO} (h:CN c):Cz c:=⟨by have:=h.1;omega,h.tz⟩
theorem ld1 (c:jO):jZ 1 (.elt (Jx c) 0)=some (cm c):=rfl
theorem jye {xs:List jO} {i:Nat} (h:i < xs.length):z7 (xs.map Jx) i 0 1=some (cm xs[i]):=jve h 1
theorem jde (out:List jO) (r:jO):jL (out.map Jx) [[.sl 3 (r.map jC)]]=(out++[r]).map Jx:=by rw [List.map_append];rfl
theorem jjb {n:Nat} (h:n<=1000000):jB n 24=true:=by
 unfold jB;exact decide_eq_true ⟨by omega,by omega⟩
theorem jap (l:List jO) (hl:l.length<=1048576) (hz:∀x∈l,Cz x) (c:jO) (hc:Cz c):G 42 [cls l,cm c]=some (vb (jnJ l c),[]):=by
 have key:=upto (n:=l.length) (P:=λi=>∃k:Int,jgm (cls l) (.fn 92 [.elt (Jx c) 0]) (vi (l.length:Nat)) (vi (i:Nat))=some (vi k,[])/\decide (0<=k)=(l.drop i).any λx=>dq x c) ?_ ?_ 0 (Nat.zero_le _)
 ·simp only [Int.natCast_zero,List.drop_zero] at key;obtain ⟨k,k1,k2⟩:=key;have e2:G 106 [cls l,.fn 92 [.elt (Jx c) 0]]=some (vi k,[]):=by
   rw [jze];simp only [jd,k1]
  have e3:G 55 [cls l,.fn 92 [.elt (Jx c) 0]]=some (vb (jnJ l c),[]):=by
   unfold jnJ;rw [g55,<-k2];simp only [jd,e2]
  rw [g42];simp only [jd,e3]
 ·refine ⟨-1,?_,?_⟩
  ·rw [jp9];simp only [jd]
  ·rw [List.drop_length];rfl
 ·intro i hi ⟨k,ih1,ih2⟩;have hlt:(i:Int) < ((l.length:Nat):Int):=by omega
  have h5:=jr hi (by show l.length<=9223372036854775807;omega)
  have x1:jq 1 (cls l) (vi (i:Nat))=some (.elt (Jx l[i]) 0):=ja hi;have hzi:=hz _ (List.getElem_mem hi);rw [jp9,jo hi,List.any_cons];generalize l[i]=y at *;have e:=je4 y c hzi.1 hzi.2 hc.2;have e1:G 92 [cm y,.elt (Jx c) 0]=some (vb (dq y c),[]):=by
   rw [g92];simp only [jd,ld1,e]
  have hp:K.pureF 92=true:=rfl;have cc:DX.run K (MM K) (.callc (.fn 92 [.elt (Jx c) 0]) [cm y] false)=some (vb (dq y c)):=by
   rw [yN hp];show (G 92 [cm y,.elt (Jx c) 0]).bind _=_;rw [e1];rfl
  cases hn:dq y c<;>rw [hn] at cc
  ·refine ⟨k,?_,?_⟩
   ·simp only [jd,hlt,x1,ld1,cc,h5,ih1]
   ·rw [ih2,Bool.false_or]
  ·refine ⟨(i:Nat),?_,?_⟩
   ·simp only [jd,hlt,x1,ld1,cc]
   ·rw [decide_eq_true (by omega)];rfl
theorem jbT (l:List jO) (hl:l.length<=900000) (hz:∀x∈l,Cz x):G 48 [cls l]=some (cls (ze [] l),[]):=by
 have key:=upto (n:=l.length) (P:=λi=>∀out:List jO,out.length<=i->(∀x∈out,Cz x)->jc8 (cls l) (vi (i:Nat)) (out.map Jx)=some (cls (ze out (l.drop i)),[])) ?_ ?_ 0 (Nat.zero_le _) [] (Nat.zero_le _) (λx h=>by cases h)
 ·simp only [Int.natCast_zero,List.drop_zero,List.map_nil] at key;rw [g48];exact key
 ·intro out _ _;have nlt:¬((l.length:Nat):Int) < ((l.length:Nat):Int):=by omega
  rw [juG,List.drop_length,show ze out []=out from rfl];simp only [jd,nlt]
 ·intro i hi ih out ho hzo;have hlt:(i:Int) < ((l.length:Nat):Int):=by omega
  have h5:=jr hi (by show l.length<=9223372036854775807;omega)
  have x1:jq 1 (cls l) (vi (i:Nat))=some (.elt (Jx l[i]) 0):=ja hi;have hzi:=hz _ (List.getElem_mem hi);rw [jo hi,show ze out (l[i]::l.drop (i+1))=ze (ZQ out l[i]) (l.drop (i+1)) from rfl,juG];have ih:=ih (ZQ out l[i]) (by have:=Q8 out l[i];omega) (λx hx=>by
   rcases Q9 hx with h|h
   ·exact hzo x h
   ·rw [h];exact hzi)
  generalize l[i]=y at *;have inner:=upto (n:=out.length) (P:=λk=>∀b:Bool,jh0 (cls l) (vi (i:Nat)) (vb b) (vi (k:Nat)) (out.map Jx)=jc8 (cls l) (vi ((i+1:Nat):Int)) ((if b || (out.drop k).any (λx=>dq x y) then out else out++[y]).map Jx)) ?_ ?_ 0 (Nat.zero_le _) false
  ·simp only [Int.natCast_zero,List.drop_zero,Bool.false_or] at inner;have inner:jh0 (cls l) (vi (i:Nat)) (vb false) (vi 0) (out.map Jx)=jc8 (cls l) (vi ((i+1:Nat):Int)) ((ZQ out y).map Jx):=inner;simp only [jd,hlt,inner,ih]
  ·intro b;have nlt:¬((out.length:Nat):Int) < ((out.length:Nat):Int):=by omega
   rw [juH,List.drop_length,List.any_nil,Bool.or_false];cases b with
   | true=>
    rw [if_pos rfl];simp only [jd,nlt,h5]
   | false=>
    have f1:jB (out.length+1) 24=true:=jjb (by omega);rw [if_neg Bool.false_ne_true,<-jde];simp only [jd,nlt,h5,x1,ld1,f1]
  ·intro k hk ihk b;have hlt2:(k:Int) < ((out.length:Nat):Int):=by omega
   have h6:=jr hk (by show out.length<=9223372036854775807;omega)
   have i1:Ke (jh (out.map Jx)) (vi (k:Nat))=some k:=joc hk;have r1:=jye hk;have hzk:=hzo _ (List.getElem_mem hk);have e:=jnQ out[k] y hzk.1 hzk.2 hzi.2;rw [juH,jo hk,List.any_cons];generalize out[k]=z at *;have rl:jh (out.map Jx)=out.length:=by unfold jh;exact List.length_map ..
   rw [rl] at i1;cases b with
   | true=>
    have:=ihk true;rw [Bool.true_or] at this ⊢;simp only [jd,hlt2,h6,x1,ld1,this,List.length_map]
   | false=>
    have:=ihk (dq z y);rw [Bool.false_or];generalize dq z y=d at *;simp only [jd,hlt2,i1,r1,x1,ld1,e,h6,this]
section
variable {c d:jO} {R:Nat->Nat->Option jO} (hR:∀i k:Nat,G 41 [cm c,vi (i:Nat),cm d,vi (k:Nat)]=qy (R i k)/\G 69 [cm c,vi (i:Nat),cm d,vi (k:Nat)]=qy (R i k)/\ ∀x,R i k=some x->Cz x)
include hR
theorem jlp (n i:Nat) (hi:i < n) (hn:n<=1000) (hdd:d.length<=1000):∀(j k:Nat),j+k=d.length-> ∀out:List jO,out.length+j<=100000->(∀x∈out,Cz x)->
  jhU (vi (i:Nat)) (vi (n:Nat)) (vi (i:Nat)) (vi (d.length:Nat)) (vi (k:Nat)) (.sl 3 (c.map jC)) (.sl 3 (d.map jC)) (out.map Jx)=jcZ (vi (n:Nat)) (vi ((i+1:Nat):Int)) (.sl 3 (c.map jC)) (.sl 3 (d.map jC)) ((ze out (JG (R i) j k)).map Jx):=by
 intro j;induction j with
 | zero=>
  intro k hk out _ _;have nlt:¬((k:Nat):Int) < ((d.length:Nat):Int):=by omega
  have h5:=jr hi (by show n<=9223372036854775807;omega)
  rw [juq,JG,ze];simp only [jd,nlt,h5]
 | succ j ih=>
  intro k hk out ho hz;have hlt:((k:Nat):Int) < ((d.length:Nat):Int):=by omega
  have h6:jp .add false (vi (k:Nat)) (vi 1)=some (vi ((k+1:Nat):Int)):=jr (n:=k+1) (by omega) (by omega);obtain ⟨e,_,hzr⟩:=hR i k;rw [JG,K8,juq];cases hr:R i k with
  | none=>
   rw [hr] at e;have e:G 41 [cm c,vi (i:Nat),cm d,vi (k:Nat)]=some (.tup [cz,vb false],[]):=e;have ih:=ih (k+1) (by omega) out (by omega) hz;show _=jcZ _ _ _ _ ((ze (ze out []) _).map Jx);rw [show ze out []=out from rfl,<-ih];simp only [jd,hlt,e,h6]
  | some r=>
   rw [hr] at e;have hzr:=hzr r hr;have e:G 41 [cm c,vi (i:Nat),cm d,vi (k:Nat)]=some (.tup [cm r,vb true],[]):=e;have eh:=jap out (by omega) hz r hzr;have al:=Q8 out r;have ih:=ih (k+1) (by omega) (ZQ out r) (by omega) (λx hx=>by
    rcases Q9 hx with h|h
    ·exact hz x h
    ·rw [h];exact hzr)
   show _=jcZ _ _ _ _ ((ze (ze out [r]) _).map Jx);rw [show ze out [r]=ZQ out r from rfl,<-ih];unfold ZQ;cases hh:jnJ out r<;>rw [hh] at eh
   ·have f1:jB (out.length+1) 24=true:=jjb (by omega);rw [if_neg Bool.false_ne_true,<-jde];simp only [jd,hlt,e,eh,h6,f1]
   ·rw [if_pos rfl];simp only [jd,hlt,e,eh,h6]
theorem jlq (hcl:c.length<=100) (hdl:d.length<=100):∀(j i:Nat),j+i=c.length-> ∀out:List jO,out.length+j * d.length<=90000->(∀x∈out,Cz x)->
  jcZ (vi (c.length:Nat)) (vi (i:Nat)) (.sl 3 (c.map jC)) (.sl 3 (d.map jC)) (out.map Jx)=some (.tup [cls (ze out (yS R d.length j i)),vb true],[]):=by
 intro j;induction j with
 | zero=>
  intro i hi out _ _;have nlt:¬((i:Nat):Int) < ((c.length:Nat):Int):=by omega
  rw [jup,yS,ze];simp only [jd,nlt]
 | succ j ih=>
  intro i hi out ho hz;have hlt:((i:Nat):Int) < ((c.length:Nat):Int):=by omega
  rw [Nat.add_mul,Nat.one_mul] at ho;have e:=jlp hR c.length i (by omega) (by omega) (by omega) d.length 0 (by omega) out (by omega) hz;simp only [Int.natCast_zero] at e;have l1:=K9 out (JG (R i) d.length 0);have l2:=K4 (R i) d.length 0;have ih:=ih (i+1) (by omega) (ze out (JG (R i) d.length 0)) (by omega) (λx hx=>by
   rcases Za hx with h|h
   ·exact hz x h
   ·obtain ⟨k,_,_,hk⟩:=J6 h;exact (hR i k).2.2 x hk)
  rw [yS,K8,<-ih,<-e,jup];simp only [jd,hlt]
theorem jlr (i:Nat) (hi:i<=1000) (hdd:d.length<=1000):∀(j k:Nat),j+k=d.length-> ∀out:List jO,out.length+j<=100000->
  jhZ (vi (i:Nat)) (vi (k:Nat)) (.sl 3 (c.map jC)) (.sl 3 (d.map jC)) (out.map Jx)=jc7 (vi ((i+1:Nat):Int)) (.sl 3 (c.map jC)) (.sl 3 (d.map jC)) ((out++JG (R i) j k).map Jx):=by
 intro j;induction j with
 | zero=>
  intro k hk out _;have nlt:¬((k:Nat):Int) < ((d.length:Nat):Int):=by omega
  have h5:jp .add false (vi (i:Nat)) (vi 1)=some (vi ((i+1:Nat):Int)):=jr (n:=i+1) (by omega) (by omega);rw [juF,JG,List.append_nil];simp only [jd,nlt,h5]
 | succ j ih=>
  intro k hk out ho;have hlt:((k:Nat):Int) < ((d.length:Nat):Int):=by omega
  have h6:jp .add false (vi (k:Nat)) (vi 1)=some (vi ((k+1:Nat):Int)):=jr (n:=k+1) (by omega) (by omega);obtain ⟨_,e,hzr⟩:=hR i k;rw [JG,juF];cases hr:R i k with
  | none=>
   rw [hr] at e;have e:G 69 [cm c,vi (i:Nat),cm d,vi (k:Nat)]=some (.tup [cz,vb false],[]):=e;have ih:=ih (k+1) (by omega) out (by omega);show _=jc7 _ _ _ ((out++([]++_)).map Jx);rw [List.nil_append,<-ih];simp only [jd,hlt,e,h6]
  | some r=>
   rw [hr] at e;have e:G 69 [cm c,vi (i:Nat),cm d,vi (k:Nat)]=some (.tup [cm r,vb true],[]):=e;have f1:jB (out.length+1) 24=true:=jjb (by omega);have ih:=ih (k+1) (by omega) (out++[r]) (by rw [List.length_append,List.length_singleton];omega);show _=jc7 _ _ _ ((out++([r]++_)).map Jx);rw [<-List.append_assoc,<-ih,<-jde];simp only [jd,hlt,e,h6,f1]
theorem jls (hcl:c.length<=100) (hdl:d.length<=100):∀(j i:Nat),j+i=c.length-> ∀out:List jO,out.length+j * d.length<=90000->(∀x∈out,Cz x)->
  jc7 (vi (i:Nat)) (.sl 3 (c.map jC)) (.sl 3 (d.map jC)) (out.map Jx)=some (cls (ze [] (out++yS R d.length j i)),[]):=by
 intro j;induction j with
 | zero=>
  intro i hi out ho hz;have nlt:¬((i:Nat):Int) < ((c.length:Nat):Int):=by omega
  have e:=jbT out (by omega) hz;rw [juE,yS,List.append_nil];simp only [jd,nlt,e]
 | succ j ih=>
  intro i hi out ho hz;have hlt:((i:Nat):Int) < ((c.length:Nat):Int):=by omega
  rw [Nat.add_mul,Nat.one_mul] at ho;have e:=jlr hR i (by omega) (by omega) d.length 0 (by omega) out (by omega);simp only [Int.natCast_zero] at e;have l2:=K4 (R i) d.length 0;have ih:=ih (i+1) (by omega) (out++JG (R i) d.length 0) (by rw [List.length_append];omega) (λx hx=>by
   rcases List.mem_append.1 hx with h|h
   ·exact hz x h
   ·obtain ⟨k,_,_,hk⟩:=J6 h;exact (hR i k).2.2 x hk)
  rw [yS,<-List.append_assoc,<-ih,<-e,juE];simp only [jd,hlt]
end
theorem je3 (c d:jO) (hc:Cz c) (hd:Cz d):∃(l:List jO) (b:Bool),G 16 [cm c,cm d]=some (.tup [cls l,vb b],[])/\G 17 [cm c,cm d]=some (.tup [cls l,vb b],[])/\l.length<=100/\ ∀x∈l,(CN c/\CN d)/\CN x/\Sd [c,d] x:=by
 have n1:=Kn c hc.1 hc.2;have n2:=Kn d hd.1 hd.2;have m1:=Z5 c hc.1 hc.2;have m2:=Z5 d hd.1 hd.2;cases h1:kj c<;>rw [h1] at n1 m1
 ·exact ⟨[],false,by rw [g16];simp only [jd,n1];rfl,by rw [g17];simp only [jd,m1];rfl,by decide,λx h=>by cases h⟩
 cases h2:kj d<;>rw [h2] at n2 m2
 ·exact ⟨[],false,by rw [g16];simp only [jd,n1,n2];rfl,by rw [g17];simp only [jd,m1,m2];rfl,by decide,λx h=>by cases h⟩
 have cc:=qJ h1;have cd:=qJ h2;have lc:=cc.1;have ld:=cd.1;have hx:∀i k:Nat,∃r:Option jO,G 41 [cm c,vi (i:Nat),cm d,vi (k:Nat)]=qy r/\G 69 [cm c,vi (i:Nat),cm d,vi (k:Nat)]=qy r/\ ∀x,r=some x->kj x=true/\Sd [c,d] x:=λi k=>jom c d h1 h2 (i:Nat) (k:Nat);have hR:∀i k:Nat,_:=λi k=>(hx i k).choose_spec;have hR':∀i k:Nat,G 41 [cm c,vi (i:Nat),cm d,vi (k:Nat)]=qy (hx i k).choose/\G 69 [cm c,vi (i:Nat),cm d,vi (k:Nat)]=qy (hx i k).choose/\ ∀x,(hx i k).choose=some x->Cz x:=λi k=>⟨(hR i k).1,(hR i k).2.1,λx h=>(qJ ((hR i k).2.2 x h).1).cz⟩;have hb:c.length * d.length<=64:=Nat.mul_le_mul lc ld;have e1:=jlq (R:=λi k=>(hx i k).choose) hR' (by omega) (by omega) c.length 0 (by omega) [] (by rw [List.length_nil];omega) (λx h=>by cases h);have e2:=jls (R:=λi k=>(hx i k).choose) hR' (by omega) (by omega) c.length 0 (by omega) [] (by rw [List.length_nil];omega) (λx h=>by cases h);simp only [Int.natCast_zero,List.map_nil,List.nil_append] at e1 e2;have l1:=K9 [] (yS (λi k=>(hx i k).choose) d.length c.length 0);have l2:=jbu (λi k=>(hx i k).choose) d.length c.length 0;rw [List.length_nil] at l1;refine ⟨ze [] (yS (λi k=>(hx i k).choose) d.length c.length 0),true,?_,?_,by omega,λx h=> ?_⟩
 ·rw [g16];simp only [jd,n1,n2,e1]
 ·have e3:G 44 [cm c,cm d]=some (cls (ze [] (yS (λi k=>(hx i k).choose) d.length c.length 0)),[]):=by
   rw [g44];simp only [jd,e2]
  rw [g17];simp only [jd,m1,m2,e3]
 ·rcases Za h with h|h
  ·cases h
  ·obtain ⟨n,k,hk⟩:=jfS h;have:=(hR n k).2.2 x hk;exact ⟨⟨cc,cd⟩,qJ this.1,this.2⟩
section
variable {c:jO} {R:Nat->Nat->Option jO} (hR:∀i k:Nat,i<=100->G 46 [cm c,vi (i:Nat),vi (k:Nat)]=qy (R i k)/\G 47 [cm c,vi (i:Nat),vi (k:Nat)]=qy (R i k)/\ ∀x,R i k=some x->Cz x)
include hR
theorem jkQ (i:Nat) (hi:i < c.length) (hcl:c.length<=100):∀(j k:Nat),j+k=c.length-> ∀out:List jO,out.length+j<=100000->(∀x∈out,Cz x)->
  jhV (vi (i:Nat)) (vi (c.length:Nat)) (vi (i:Nat)) (vi (c.length:Nat)) (vi (k:Nat)) (.sl 3 (c.map jC)) (out.map Jx)=jc1 (vi (c.length:Nat)) (vi ((i+1:Nat):Int)) (.sl 3 (c.map jC)) ((ze out (JG (R i) j k)).map Jx):=by
 intro j;induction j with
 | zero=>
  intro k hk out _ _;have nlt:¬((k:Nat):Int) < ((c.length:Nat):Int):=by omega
  have h5:=jr hi (by show c.length<=9223372036854775807;omega)
  rw [jus,JG,ze];simp only [jd,nlt,h5]
 | succ j ih=>
  intro k hk out ho hz;have hlt:((k:Nat):Int) < ((c.length:Nat):Int):=by omega
  have h6:jp .add false (vi (k:Nat)) (vi 1)=some (vi ((k+1:Nat):Int)):=jr (n:=k+1) (by omega) (by omega);obtain ⟨e,_,hzr⟩:=hR i k (by omega);rw [JG,K8,jus];cases hr:R i k with
  | none=>
   rw [hr] at e;have e:G 46 [cm c,vi (i:Nat),vi (k:Nat)]=some (.tup [cz,vb false],[]):=e;have ih:=ih (k+1) (by omega) out (by omega) hz;show _=jc1 _ _ _ ((ze (ze out []) _).map Jx);rw [show ze out []=out from rfl,<-ih];simp only [jd,hlt,e,h6]
  | some r=>
   rw [hr] at e;have hzr:=hzr r hr;have e:G 46 [cm c,vi (i:Nat),vi (k:Nat)]=some (.tup [cm r,vb true],[]):=e;have eh:=jap out (by omega) hz r hzr;have al:=Q8 out r;have ih:=ih (k+1) (by omega) (ZQ out r) (by omega) (λx hx=>by
    rcases Q9 hx with h|h
    ·exact hz x h
    ·rw [h];exact hzr)
   show _=jc1 _ _ _ ((ze (ze out [r]) _).map Jx);rw [show ze out [r]=ZQ out r from rfl,<-ih];unfold ZQ;cases hh:jnJ out r<;>rw [hh] at eh
   ·have f1:jB (out.length+1) 24=true:=jjb (by omega);rw [if_neg Bool.false_ne_true,<-jde];simp only [jd,hlt,e,eh,h6,f1]
   ·rw [if_pos rfl];simp only [jd,hlt,e,eh,h6]
theorem jkR (hcl:c.length<=100):∀(j i:Nat),j+i=c.length-> ∀out:List jO,out.length+j * c.length<=90000->(∀x∈out,Cz x)->
  jc1 (vi (c.length:Nat)) (vi (i:Nat)) (.sl 3 (c.map jC)) (out.map Jx)=some (.tup [cls (ze out (yS R c.length j i)),vb true],[]):=by
 intro j;induction j with
 | zero=>
  intro i hi out _ _;have nlt:¬((i:Nat):Int) < ((c.length:Nat):Int):=by omega
  rw [jur,yS,ze];simp only [jd,nlt]
 | succ j ih=>
  intro i hi out ho hz;have hlt:((i:Nat):Int) < ((c.length:Nat):Int):=by omega
  rw [Nat.add_mul,Nat.one_mul] at ho;have e:=jkQ hR i (by omega) hcl c.length 0 (by omega) out (by omega) hz;simp only [Int.natCast_zero] at e;have l1:=K9 out (JG (R i) c.length 0);have l2:=K4 (R i) c.length 0;have ih:=ih (i+1) (by omega) (ze out (JG (R i) c.length 0)) (by omega) (λx hx=>by
   rcases Za hx with h|h
   ·exact hz x h
   ·obtain ⟨k,_,_,hk⟩:=J6 h;exact (hR i k (by omega)).2.2 x hk)
  rw [yS,K8,<-ih,<-e,jur];simp only [jd,hlt]
theorem jkS (i:Nat) (hi:i<=100) (hcc:c.length<=1000):∀(j k:Nat),j+k=c.length-> ∀out:List jO,out.length+j<=100000->
  jhW (vi (i:Nat)) (vi (k:Nat)) (.sl 3 (c.map jC)) (out.map Jx)=jc2 (vi ((i+1:Nat):Int)) (.sl 3 (c.map jC)) ((out++JG (R i) j k).map Jx):=by
 intro j;induction j with
 | zero=>
  intro k hk out _;have nlt:¬((k:Nat):Int) < ((c.length:Nat):Int):=by omega
  have h5:jp .add false (vi (i:Nat)) (vi 1)=some (vi ((i+1:Nat):Int)):=jr (n:=i+1) (by omega) (by omega);rw [juu,JG,List.append_nil];simp only [jd,nlt,h5]
 | succ j ih=>
  intro k hk out ho;have hlt:((k:Nat):Int) < ((c.length:Nat):Int):=by omega
  have h6:jp .add false (vi (k:Nat)) (vi 1)=some (vi ((k+1:Nat):Int)):=jr (n:=k+1) (by omega) (by omega);obtain ⟨_,e,hzr⟩:=hR i k hi;rw [JG,juu];cases hr:R i k with
  | none=>
   rw [hr] at e;have e:G 47 [cm c,vi (i:Nat),vi (k:Nat)]=some (.tup [cz,vb false],[]):=e;have ih:=ih (k+1) (by omega) out (by omega);show _=jc2 _ _ ((out++([]++_)).map Jx);rw [List.nil_append,<-ih];simp only [jd,hlt,e,h6]
  | some r=>
   rw [hr] at e;have e:G 47 [cm c,vi (i:Nat),vi (k:Nat)]=some (.tup [cm r,vb true],[]):=e;have f1:jB (out.length+1) 24=true:=jjb (by omega);have ih:=ih (k+1) (by omega) (out++[r]) (by rw [List.length_append,List.length_singleton];omega);show _=jc2 _ _ ((out++([r]++_)).map Jx);rw [<-List.append_assoc,<-ih,<-jde];simp only [jd,hlt,e,h6,f1]
theorem jkT (hcl:c.length<=100):∀(j i:Nat),j+i=c.length-> ∀out:List jO,out.length+j * c.length<=90000->(∀x∈out,Cz x)->
  ∃l:List jO,jc2 (vi (i:Nat)) (.sl 3 (c.map jC)) (out.map Jx)=some (.tup [cls l,vb true],[]):=by
 intro j;induction j with
 | zero=>
  intro i hi out ho hz;have nlt:¬((i:Nat):Int) < ((c.length:Nat):Int):=by omega
  have e:=jbT out (by omega) hz;refine ⟨ze [] out,?_⟩;rw [jut];simp only [jd,nlt,e]
 | succ j ih=>
  intro i hi out ho hz;have hlt:((i:Nat):Int) < ((c.length:Nat):Int):=by omega
  rw [Nat.add_mul,Nat.one_mul] at ho;have h5:=jr (n:=c.length) (i:=i) (by omega) (by omega);have e:=jkS hR i (by omega) (by omega) (c.length - (i+1)) (i+1) (by omega) out (by omega);have l2:=K4 (R i) (c.length - (i+1)) (i+1);obtain ⟨l,ih⟩:=ih (i+1) (by omega) (out++JG (R i) (c.length - (i+1)) (i+1)) (by rw [List.length_append];omega) (λx hx=>by
   rcases List.mem_append.1 hx with h|h
   ·exact hz x h
   ·obtain ⟨k,_,_,hk⟩:=J6 h;exact (hR i k (by omega)).2.2 x hk)
  refine ⟨l,?_⟩;rw [<-ih,<-e,jut];simp only [jd,hlt,h5]
end
theorem jkU (c:jO) (hc:Cz c):∃(l l':List jO) (b:Bool),G 19 [cm c]=some (.tup [cls l,vb b],[])/\G 20 [cm c]=some (.tup [cls l',vb b],[])/\l.length<=100/\ ∀x∈l,CN c/\CN x/\Sd [c] x:=by
 have n1:=Kn c hc.1 hc.2;have m1:=Z5 c hc.1 hc.2;cases h1:kj c<;>rw [h1] at n1 m1
 ·exact ⟨[],[],false,by rw [g19];simp only [jd,n1];rfl,by rw [g20];simp only [jd,m1];rfl,by decide,λx h=>by cases h⟩
 have cc:=qJ h1;have lc:=cc.1;have hx:∀i k:Nat,∃r:Option jO,i<=100->G 46 [cm c,vi (i:Nat),vi (k:Nat)]=qy r/\G 47 [cm c,vi (i:Nat),vi (k:Nat)]=qy r/\ ∀x,r=some x->kj x=true/\Sd [c] x:=λi k=>by
  by_cases hi:i<=100
  ·obtain ⟨r,h⟩:=jpQ c h1 (i:Nat) (k:Nat) (by omega);exact ⟨r,λ_=>h⟩
  ·exact ⟨none,λh=>absurd h hi⟩
 have hR:∀i k:Nat,_:=λi k=>(hx i k).choose_spec;have hR':∀i k:Nat,i<=100->G 46 [cm c,vi (i:Nat),vi (k:Nat)]=qy (hx i k).choose/\G 47 [cm c,vi (i:Nat),vi (k:Nat)]=qy (hx i k).choose/\ ∀x,(hx i k).choose=some x->Cz x:=λi k hi=>⟨(hR i k hi).1,(hR i k hi).2.1,λx h=>(qJ ((hR i k hi).2.2 x h).1).cz⟩;have hb:c.length * c.length<=64:=Nat.mul_le_mul lc lc;have e1:=jkR (R:=λi k=>(hx i k).choose) hR' (by omega) c.length 0 (by omega) [] (by rw [List.length_nil];omega) (λx h=>by cases h);obtain ⟨l',e2⟩:=jkT (R:=λi k=>(hx i k).choose) hR' (by omega) c.length 0 (by omega) [] (by rw [List.length_nil];omega) (λx h=>by cases h);simp only [Int.natCast_zero,List.map_nil] at e1 e2;have l1:=K9 [] (yS (λi k=>(hx i k).choose) c.length c.length 0);have l2:=jbu (λi k=>(hx i k).choose) c.length c.length 0;rw [List.length_nil] at l1;refine ⟨ze [] (yS (λi k=>(hx i k).choose) c.length c.length 0),l',true,?_,?_,by omega,λx h=> ?_⟩
 ·rw [g19];simp only [jd,n1,e1]
 ·rw [g20];simp only [jd,m1,e2]
 ·rcases Za h with h|h
  ·cases h
  ·obtain ⟨n,k,hn,hk⟩:∃n k,n<=100/\(hx n k).choose=some x:=by
    have:∀(j i:Nat),j+i<=100-> ∀ {x:jO},x∈yS (λi k=>(hx i k).choose) c.length j i-> ∃n k,n<=100/\(hx n k).choose=some x:=by
     intro j;induction j with
     | zero=>intro i _ x h;cases h
     | succ j ih=>
      intro i hi x h;rw [yS] at h;rcases List.mem_append.1 h with h|h
      ·obtain ⟨k,_,_,h3⟩:=J6 h;exact ⟨i,k,by omega,h3⟩
      ·exact ih (i+1) (by omega) h
    exact this c.length 0 (by omega) h
   have:=(hR n k hn).2.2 x hk;exact ⟨cc,qJ this.1,this.2⟩
abbrev cy (n:Int):List A:=[vy n]
abbrev kG (l:List Int):A:= .sl 1 (l.map cy)
abbrev vu (n:Int):A:= .val (.int .u64 n)
def By (l:List Int):Prop:=(∀n∈l,0<=n/\n<=255)/\l.length<=65536
theorem yx (a x0 x1 x2 x3:A) (us:List T) (l:List A):hR 2 (a,x0::x1::x2::x3::jY us::l) 4=some (us.map jz):=by simp [hR,jY]
set_option maxRecDepth 100000 in
theorem jr1:∀n:Fin 256,IntKind.u64.wrap ((n.val:Nat):Int)=((n.val:Nat):Int):=by decide
theorem jrl (x y:Int):jp .mul false (vu x) (vu y)=some (vu (IntKind.u64.wrap (x * y))):=rfl
theorem jrk (x y:Int):jp .add false (vu x) (vu y)=some (vu (IntKind.u64.wrap (x+y))):=rfl
theorem jwz (x:Int):jp .shr false (vu x) (vu 40)=some (vu (KQ .shr .u64 x 40)):=by
 show (if (0:Int)<=40 then some (vu (KQ .shr .u64 x 40)) else none)=_;rw [if_pos (by decide)]
theorem jwy (x:Int):jp .and false (vu x) (vu 255)=some (vu (KQ .and .u64 x 255)):=rfl
theorem jnp (x:Int):0<=KQ .and .u64 x 255/\KQ .and .u64 x 255<=255:=by
 have h:(BitVec.ofInt 64 x &&& BitVec.ofInt 64 255).toNat<=255:=by
  rw [BitVec.toNat_and];have h2:(BitVec.ofInt 64 255).toNat=255:=by decide
  rw [h2];exact Nat.and_le_right
 show 0<=IntKind.u64.wrap (((BitVec.ofInt 64 x &&& BitVec.ofInt 64 255).toNat:Nat):Int)/\IntKind.u64.wrap (((BitVec.ofInt 64 x &&& BitVec.ofInt 64 255).toNat:Nat):Int)<=255;generalize (BitVec.ofInt 64 x &&& BitVec.ofInt 64 255).toNat=m at *;have:=jr1 ⟨m,by omega⟩;simp only at this;rw [this];omega
theorem jra (k:IntKind) (a:Int):Js .u64 (.val (.int k a))=some (vu (IntKind.u64.wrap a)):=rfl
theorem jld (k:IntKind) (a:Int):Js .i64 (.val (.int k a))=ck a:=rfl
theorem jqY (n:Int):jK (vu n)=true:=rfl
section
variable {code:List Int} (hb:By code)
include hb
theorem jtt (a s:Int) (h0:0<=a) (h1:a<=1000000000):∃s' x,0<=x/\x<=255/\jge (kG code) (vi a) (vu s)=some (.top,[kG code,vi (a+1),vu s',vi x]):=by
 obtain ⟨k,rfl⟩:∃k:Nat,a=(k:Nat):=⟨a.toNat,by omega⟩;have c1:ck (((k:Nat):Int)+1)=some (vi (((k:Nat):Int)+1)):=jG (by omega) (by omega);have hcl:=hb.2;rw [jvE];by_cases hk:k < code.length
 ·have hlt:((k:Nat):Int) < ((code.length:Nat):Int):=by omega
  have hle:((k:Nat):Int)+1<=((code.length:Nat):Int):=by omega
  have hv:=hb.1 code[k] (List.getElem_mem hk);have c2:ck code[k]=some (vi code[k]):=jG (by omega) (by omega);exact ⟨_,code[k],hv.1,hv.2,by simp only [jd,hlt,ja hk,jld,c2,c1,jrl,jra,jrk,jqY,hle];rfl⟩
 ·have hlt:¬((k:Nat):Int) < ((code.length:Nat):Int):=by omega
  have hle:¬((k:Nat):Int)+1<=((code.length:Nat):Int):=by omega
  generalize hz:IntKind.u64.wrap (IntKind.u64.wrap (IntKind.u64.wrap (s * 6364136223846793005)+IntKind.u64.wrap 0)+892892)=z;have hbd:=jnp (KQ .shr .u64 z 40);have c2:ck (KQ .and .u64 (KQ .shr .u64 z 40) 255)=some (vi (KQ .and .u64 (KQ .shr .u64 z 40) 255)):=jG (by omega) (by omega);exact ⟨z,_,hbd.1,hbd.2,by simp only [jd,hlt,c1,jrl,jra,jrk,hz,jqY,hle,jwz,jwy,jld,c2]⟩
omit hb in
theorem jhu {x n:Int} (h0:0<=x) (hn:1<=n):jp .rem false (vi x) (vi n)=some (vi (x % n)):=by
 show (if n=0 then none else some (vi (x.tmod n)))=_;rw [if_neg (by omega),Int.tmod_eq_emod_of_nonneg h0]
theorem zO (n:Int) (hn:1<=n) (hn':n<=200) (a s:Int) (h0:0<=a) (h1:a<=1000000000):∃a' s' x,a<=a'/\a'<=a+1/\0<=x/\x < n/\qh (vi n) (kG code) (vi a) (vu s)=some (.top,[kG code,vi a',vu s',vi x]):=by
 rw [jxm];by_cases h:n<=1
 ·exact ⟨a,s,0,by omega,by omega,by omega,by omega,by simp only [jd,h]⟩
 ·obtain ⟨s',x,x0,x1,e⟩:=jtt hb a s h0 h1;have e2:=jhu x0 hn;have hg:¬(200:Int) < n:=by omega
  refine ⟨a+1,s',x % n,by omega,by omega,Int.emod_nonneg _ (by omega),Int.emod_lt_of_pos _ (by omega),?_⟩;simp only [jd,h,e,List.getElem?_cons_zero,List.getElem?_cons_succ,hg,e2,yx]
theorem qp (n:Int) (hn:1<=n) (hn':n<=200) (a s:Int) (h0:0<=a) (h1:a<=1000000000):∃a' s' b,a<=a'/\a'<=a+1/\KM (vi n) (kG code) (vi a) (vu s)=some (.top,[kG code,vi a',vu s',vb b]):=by
 obtain ⟨a',s',x,q1,q2,_,_,e⟩:=zO hb n hn hn' a s h0 h1;refine ⟨a',s',decide (x=0),q1,q2,?_⟩;rw [jxi];simp only [jd,e,List.getElem?_cons_zero,List.getElem?_cons_succ,yx]
theorem jmP (l:List (List UInt8)) (hn:1<=l.length) (hn':l.length<=200) (a s:Int) (h0:0<=a) (h1:a<=1000000000):∃a' s' w,w∈l/\a<=a'/\a'<=a+1/\yV (kG code) (vi a) (vu s) (l.map cs)=some (.top,[kG code,vi a',vu s',sv w]):=by
 obtain ⟨a',s',x,q1,q2,x0,x1,e⟩:=zO hb ((l.length:Nat):Int) (by omega) (by omega) a s h0 h1;obtain ⟨i,rfl⟩:∃i:Nat,x=(i:Nat):=⟨x.toNat,by omega⟩;have hi:i < l.length:=by omega
 have e1:Ke l.length (vi ((i:Nat):Int))=some i:=zi hi;have e2:yE (l.map cs) i 0=some (sv l[i]):=by unfold yE;simp [hi]
 refine ⟨a',s',l[i],List.getElem_mem hi,q1,q2,?_⟩;rw [jvH];simp only [jd,e,List.getElem?_cons_zero,List.getElem?_cons_succ,e1,e2]
end
theorem jtX (t:T):jY [t] = .sl 2 [[sv t.name,.sl 2 (t.args.map jz)]]:=by
 show A.sl 2 [jz t]=_;rw [kK]
theorem jlE (t u:T):jY [t,u] = .sl 2 [[sv t.name,.sl 2 (t.args.map jz)],[sv u.name,.sl 2 (u.args.map jz)]]:=by
 show A.sl 2 [jz t,jz u]=_;rw [kK,kK]
def TD (code:List Int) (z q:Nat) (a:Int) (o:Option Out):Prop:=∃a' s' t,a<=a'/\a'<=a+(q:Nat)/\tsz t<=z/\o=some (.top,[kG code,vi a',vu s',sv (T.name t),jY (T.args t)])
section
variable {code:List Int} (hb:By code)
include hb
theorem jcG (l:List (List UInt8)) (hn:1<=l.length) (hn':l.length<=200) (hl:∀w∈l,w.length<=1) (a s:Int) (h0:0<=a) (h1:a<=1000000000) :
  ∃a' s' w,w.length<=1/\a<=a'/\a'<=a+1/\yV (kG code) (vi a) (vu s) (l.map cs)=some (.top,[kG code,vi a',vu s',sv w]):=by
 obtain ⟨a',s',w,hw,q1,q2,e⟩:=jmP hb l hn hn' a s h0 h1;exact ⟨a',s',w,hl w hw,q1,q2,e⟩
theorem jpU:∀(d:Nat),d<=100-> ∀(yI:Int),yI<=(d:Nat)-> -1000<=yI-> ∀(a s:Int),0<=a->a+((3 * 4 ^ d:Nat):Int)<=1000000000->TD code (3 * 4 ^ d) (3 * 4 ^ d) a (yG (vi yI) (kG code) (vi a) (vu s)):=by
 have base:∀(d:Nat) (yI:Int),yI<=1-> ∀(a s:Int),0<=a->a+((3 * 4 ^ d:Nat):Int)<=1000000000->TD code (3 * 4 ^ d) (3 * 4 ^ d) a (yG (vi yI) (kG code) (vi a) (vu s)):=by
  intro d yI hd a s h0 h1;have hp:1<=4 ^ d:=Nat.pos_of_ne_zero (by simp);obtain ⟨a1,s1,w,hw,q1,q2,e⟩:=jcG hb [[88],[89],[90],[97],[98],[88],[97]] (by decide) (by decide) (by decide) a s h0 (by omega);have e:yV (kG code) (vi a) (vu s) [[sv [88]],[sv [89]],[sv [90]],[sv [97]],[sv [98]],[sv [88]],[sv [97]]]=some (.top,[kG code,vi a1,vu s1,sv w]):=e;refine ⟨a1,s1,.mk w [],q1,by omega,by rw [qt];simp [yf];omega,?_⟩;rw [JS];simp only [jd,hd,e,List.getElem?_cons_zero,List.getElem?_cons_succ,yx];rfl
 intro d;induction d with
 | zero=>intro _ yI hd _ a s h0 h1;exact base 0 yI (by omega) a s h0 h1
 | succ d ih=>
  intro hdd yI hd hd' a s h0 h1;by_cases hle:yI<=1
  ·exact base (d+1) yI hle a s h0 h1
  have hp:1<=4 ^ d:=Nat.pos_of_ne_zero (by simp);rw [Nat.pow_succ] at h1 ⊢;generalize 4 ^ d=P at *;obtain ⟨a1,s1,b1,q1,q2,e1⟩:=qp hb 3 (by decide) (by decide) a s h0 (by omega);cases b1 with
  | true=>
   obtain ⟨a2,s2,w,hw,r1,r2,e⟩:=jcG hb [[88],[89],[90],[97],[98],[88],[97]] (by decide) (by decide) (by decide) a1 s1 (by omega) (by omega);have e:yV (kG code) (vi a1) (vu s1) [[sv [88]],[sv [89]],[sv [90]],[sv [97]],[sv [98]],[sv [88]],[sv [97]]]=some (.top,[kG code,vi a2,vu s2,sv w]):=e;refine ⟨a2,s2,.mk w [],by omega,by omega,by rw [qt];simp [yf];omega,?_⟩;rw [JS];simp only [jd,hle,e1,e,List.getElem?_cons_zero,List.getElem?_cons_succ,yx];rfl
  | false=>
   obtain ⟨a2,s2,b2,r1,r2,e2⟩:=qp hb 2 (by decide) (by decide) a1 s1 (by omega) (by omega);have c1:ck (yI - 1)=some (vi (yI - 1)):=jG (by omega) (by omega);obtain ⟨a3,s3,t3,u1,u2,u3,e3⟩:=ih (by omega) (yI - 1) (by omega) (by omega) a2 s2 (by omega) (by omega);cases b2 with
   | true=>
    refine ⟨a3,s3,.mk [102] [t3],by omega,by omega,by rw [qt];simp [yf];omega,?_⟩
    rw [JS];simp only [jd,hle,e1,e2,c1,e3,List.getElem?_cons_zero,List.getElem?_cons_succ,yx];rw [<-jtX];rfl
   | false=>
    obtain ⟨a4,s4,t4,v1,v2,v3,e4⟩:=ih (by omega) (yI - 1) (by omega) (by omega) a3 s3 (by omega) (by omega);refine ⟨a4,s4,.mk [103] [t3,t4],by omega,by omega,by rw [qt];simp [yf];omega,?_⟩;rw [JS];simp only [jd,hle,e1,e2,c1,e3,e4,List.getElem?_cons_zero,List.getElem?_cons_succ,yx];rw [<-jlE];rfl
theorem YZ (a s:Int) (h0:0<=a) (h1:a<=999999000):TD code 192 193 a (JP (kG code) (vi a) (vu s)):=by
 obtain ⟨a1,s1,x,q1,q2,x0,x1,e1⟩:=zO hb 3 (by decide) (by decide) a s h0 (by omega);have c1:ck (1+x)=some (vi (1+x)):=jG (by omega) (by omega);obtain ⟨a2,s2,t,r1,r2,r3,e2⟩:=jpU hb 3 (by decide) (1+x) (by omega) (by omega) a1 s1 (by omega) (by omega);refine ⟨a2,s2,t,by omega,by omega,r3,?_⟩;rw [jpm];simp only [jd,e1,c1,e2,List.getElem?_cons_zero,List.getElem?_cons_succ,yx]
theorem jrM (d:Nat) (hd:d<=20) (a s:Int) (h0:0<=a) (h1:a<=999990000):TD code 60 1 a (jkp (vi (d:Nat)) (kG code) (vi a) (vu s)):=by
 obtain ⟨a1,s1,w,hw,q1,q2,e⟩:=jcG hb [[88],[97]] (by decide) (by decide) (by decide) a s h0 (by omega);have e:yV (kG code) (vi a) (vu s) [[sv [88]],[sv [97]]]=some (.top,[kG code,vi a1,vu s1,sv w]):=e;have loop:∀(k:Nat) (t:T) (x1:A) (r0:List (List A)),k<=20-> ∃u,tsz u<=tsz t+2 * k/\KN (vi (k:Nat)) x1 (sv t.name) (kG code) (vi a1) (vu s1) r0 (t.args.map jz)=some (.top,[kG code,vi a1,vu s1,sv (T.name u),jY (T.args u)]):=by
  intro k;induction k with
  | zero=>
   intro t x1 r0 _;refine ⟨t,by omega,?_⟩;have h:¬(1:Int) < ((0:Nat):Int):=by omega
   rw [jdL];simp only [jd,h]
  | succ k ih=>
   intro t x1 r0 hk;by_cases h:(1:Int) < ((k+1:Nat):Int)
   ·obtain ⟨u,hu,eu⟩:=ih (.mk [102] [t]) x1 r0 (by omega);rw [qt] at hu;simp only [List.length_cons,List.length_nil,yf] at hu;refine ⟨u,by omega,?_⟩;have c1:ck (((k+1:Nat):Int) - 1)=some (vi (k:Nat)):=by rw [show ((k+1:Nat):Int) - 1=(k:Nat) by omega];exact jG (by omega) (by omega)
    have eu:KN (vi (k:Nat)) x1 (sv [102]) (kG code) (vi a1) (vu s1) r0 [jz t]=_:=eu;rw [kK] at eu;rw [jdL];simp only [jd,h,c1,eu]
   ·refine ⟨t,by omega,?_⟩;rw [jdL];simp only [jd,h]
 obtain ⟨u,hu,eu⟩:=loop d (.mk w []) (sv []) [] hd;rw [qt] at hu;simp only [List.length_nil,yf] at hu;refine ⟨a1,s1,u,q1,q2,by omega,?_⟩;have eu:KN (vi (d:Nat)) (sv []) (sv w) (kG code) (vi a1) (vu s1) [] []=_:=eu;rw [jvS];simp only [jd,e,List.getElem?_cons_zero,List.getElem?_cons_succ,eu,yx]
end
theorem jwq {n:Nat} (h:n<=4194304):jB n 16=true:=by
 unfold jB;exact decide_eq_true ⟨by omega,by omega⟩
theorem jty {n:Nat} (h:n<=4194304):jB n 8=true:=by
 unfold jB;exact decide_eq_true ⟨by omega,by omega⟩
abbrev nbs (vs:List Int):A:= .sl 1 (vs.map ci)
theorem jAA {x n:Int} (h0:0<=x) (hn:2<=n) (hx:x<=9223372036854775807):jp .quo false (vi x) (vi n)=some (vi (x / n)):=by
 show (if n=0 then none else ck (x.tdiv n))=_;rw [if_neg (by omega),Int.tdiv_eq_ediv_of_nonneg h0,jG]
 ·have:=Int.ediv_nonneg h0 (show (0:Int)<=n by omega);omega
 ·have:=Int.ediv_le_self n h0;omega
theorem jrb (x:Int) (h0:0<=x) (h1:x<=255):Js .i64 (vy x)=some (vi x):=by
 rw [jld,jG (by omega) (by omega)]
theorem jjd {l:List (List UInt8)} {i:Nat} (h:i < l.length):yE (l.map cs) i 0=some (sv l[i]):=by
 unfold yE;simp [h]
section
variable {code:List Int} (hb:By code)
include hb
theorem jrT (i:Int) (h0:0<=i) (h1:i<=1000):∃x,0<=x/\x<=255/\G 177 [kG code,vi i]=some (vi x,[]):=by
 obtain ⟨k,rfl⟩:∃k:Nat,i=(k:Nat):=⟨i.toNat,by omega⟩;have hl:=hb.2;rw [jzY];by_cases hk:k < code.length
 ·have hlt:((k:Nat):Int) < ((code.length:Nat):Int):=by omega
  have hv:=hb.1 code[k] (List.getElem_mem hk);have c:=jrb code[k] hv.1 hv.2;exact ⟨code[k],hv.1,hv.2,by simp only [jd,hlt,ja hk,c]⟩
 ·have hlt:¬((k:Nat):Int) < ((code.length:Nat):Int):=by omega
  have c1:ck (((k:Nat):Int) * 7)=some (vi (((k:Nat):Int) * 7)):=jG (by omega) (by omega);have c2:ck (((k:Nat):Int) * 7+((code.length:Nat):Int))=some (vi (((k:Nat):Int) * 7+((code.length:Nat):Int))):=jG (by omega) (by omega);have c3:=jhu (x:=((k:Nat):Int) * 7+((code.length:Nat):Int)) (n:=256) (by omega) (by decide);exact ⟨(((k:Nat):Int) * 7+((code.length:Nat):Int)) % 256,Int.emod_nonneg _ (by decide),by have:=Int.emod_lt_of_pos (((k:Nat):Int) * 7+((code.length:Nat):Int)) (show (0:Int) < 256 by decide);omega,by simp only [jd,hlt,c1,c2,c3]⟩
theorem jrU (vs:List Int) (hvs:∀v∈vs,0<=v/\v<=10) (hl:vs.length<=4000000):∀i,i<=vs.length-> ∀h:Int,0<=h->h < 65521-> ∃x,0<=x/\jgt (kG code) (nbs vs) (vi h) (vi (i:Nat))=some (vi x,[]):=by
 refine upto ?_ ?_
 ·intro h h0 h1;obtain ⟨a,a0,a1,ea⟩:=jrT hb (h % 53) (Int.emod_nonneg _ (by decide)) (by have:=Int.emod_lt_of_pos h (show (0:Int) < 53 by decide);omega);obtain ⟨b,b0,b1,eb⟩:=jrT hb (h % 89) (Int.emod_nonneg _ (by decide)) (by have:=Int.emod_lt_of_pos h (show (0:Int) < 89 by decide);omega);have r1:=jhu (x:=h) (n:=53) h0 (by decide);have r2:=jhu (x:=h) (n:=89) h0 (by decide);have c1:ck (13 * a)=some (vi (13 * a)):=jG (by omega) (by omega);have c2:ck (h+13 * a)=some (vi (h+13 * a)):=jG (by omega) (by omega);have c3:ck (h+13 * a+b)=some (vi (h+13 * a+b)):=jG (by omega) (by omega);have q:=jAA (x:=h+13 * a+b) (n:=3) (by omega) (by decide) (by omega);refine ⟨(h+13 * a+b) / 3,Int.ediv_nonneg (by omega) (by decide),?_⟩;rw [jql];simp only [jd,r1,r2,ea,eb,c1,c2,c3,q]
 ·intro i hi ih h h0 h1;have hlt:(i:Int) < ((vs.length:Nat):Int):=by omega
  have h5:=jr hi (by show vs.length<=9223372036854775807;omega)
  have hv:=hvs vs[i] (List.getElem_mem hi);have c1:ck (37 * h)=some (vi (37 * h)):=jG (by omega) (by omega);have c2:ck (37 * h+vs[i])=some (vi (37 * h+vs[i])):=jG (by omega) (by omega);have c3:ck (37 * h+vs[i]+1)=some (vi (37 * h+vs[i]+1)):=jG (by omega) (by omega);have r:=jhu (x:=37 * h+vs[i]+1) (n:=65521) (by omega) (by decide);obtain ⟨x,x0,e⟩:=ih ((37 * h+vs[i]+1) % 65521) (Int.emod_nonneg _ (by decide)) (Int.emod_lt_of_pos _ (by decide));refine ⟨x,x0,?_⟩;rw [jql];simp only [jd,hlt,ja hi,c1,c2,c3,r,h5,e]
theorem jtZ (n:List UInt8) (hn:n.length<=4000000) (vs:List Int) (hvs:∀v∈vs,0<=v/\v<=10) (hl:vs.length<=4000000):∃x,0<=x/\G 137 [kG code,sv n,nbs vs]=some (vi x,[]):=by
 have key:∀i,i<=n.length-> ∀h:Int,0<=h->h < 65521-> ∃x,0<=x/\jgs (kG code) (sv n) (nbs vs) (vi h) (vi (i:Nat))=some (vi x,[]):=by
  refine upto ?_ ?_
  ·intro h h0 h1;obtain ⟨x,x0,e⟩:=jrU hb vs hvs hl 0 (Nat.zero_le _) h h0 h1;refine ⟨x,x0,?_⟩;rw [jqk];simp only [Int.natCast_zero] at e;simp only [jd,e]
  ·intro i hi ih h h0 h1;have hlt:(i:Int) < ((n.length:Nat):Int):=by omega
   have h5:=jr hi (by show n.length<=9223372036854775807;omega)
   have hx:=qL hi;have hc:n[i].toNat<=255:=by have:=n[i].toNat_lt;omega
   generalize n[i].toNat=c at *;have c0:=jrb ((c:Nat):Int) (by omega) (by omega);have c1:ck (31 * h)=some (vi (31 * h)):=jG (by omega) (by omega);have c2:ck (31 * h+((c:Nat):Int))=some (vi (31 * h+((c:Nat):Int))):=jG (by omega) (by omega);have r:=jhu (x:=31 * h+((c:Nat):Int)) (n:=65521) (by omega) (by decide);obtain ⟨x,x0,e⟩:=ih ((31 * h+((c:Nat):Int)) % 65521) (Int.emod_nonneg _ (by decide)) (Int.emod_lt_of_pos _ (by decide));refine ⟨x,x0,?_⟩;rw [jqk];simp only [jd,hlt,hx,c0,c1,c2,r,h5,e]
 obtain ⟨x,x0,e⟩:=key 0 (Nat.zero_le _) 17 (by decide) (by decide);refine ⟨x,x0,?_⟩;rw [jzx];simp only [Int.natCast_zero] at e;exact e
end
noncomputable def jd1 (code:List Int) (n:List UInt8) (vs:List Int):Int:=match G 137 [kG code,sv n,nbs vs] with|some (.val (.int _ x),_)=>x|_=>0
theorem jmN {code:List Int} (hb:By code) (n:List UInt8) (hn:n.length<=4000000) (vs:List Int) (hvs:∀v∈vs,0<=v/\v<=10) (hl:vs.length<=4000000):0<=jd1 code n vs/\G 137 [kG code,sv n,nbs vs]=some (vi (jd1 code n vs),[]):=by
 obtain ⟨x,x0,e⟩:=jtZ hb n hn vs hvs hl;have:jd1 code n vs=x:=by unfold jd1;rw [e]
 rw [this];exact ⟨x0,e⟩
noncomputable abbrev zM (code:List Int) (s:Int):List UInt8->List Int->Int:=λn vs=>jd1 code n vs % s
abbrev Env:=List (List UInt8 × Int)
abbrev ev (E:Env):A:= .agg [.sl 1 (E.map λp=>cs p.1),.sl 1 (E.map λp=>ci p.2)]
def kL (E:Env) (n:List UInt8):Int:=E.foldl (λa p=>if p.1=n then p.2 else a) 0
theorem jnG (E:Env) (p:List UInt8 × Int) (n:List UInt8):kL (E++[p]) n=if p.1=n then p.2 else kL E n:=by
 unfold kL;rw [List.foldl_append];rfl
theorem jtf (E:Env) (hl:E.length<=4000000) (n:List UInt8):G 176 [ev E,sv n]=some (vi (kL E n),[]):=by
 have key:∀k,k<=E.length->jgC (sv n) (vi ((k:Nat) - 1:Int)) (.sl 1 (E.map λp=>cs p.1)) (.sl 1 (E.map λp=>ci p.2))=some (vi (kL (E.take k) n),[]):=by
  intro k;induction k with
  | zero=>
   intro _;have h:¬(0:Int)<=((0:Nat):Int) - 1:=by omega
   rw [jqv];simp only [jd,h];rfl
  | succ k ih=>
   intro hk;have hk':k < E.length:=by omega
   have h:(0:Int)<=(k:Int):=by omega
   have e1:((k+1:Nat):Int) - 1=(k:Int):=by omega
   have c1:ck ((k:Int) - 1)=some (vi ((k:Int) - 1)):=jG (by omega) (by omega);have i1:=ja (k:=1) (f:=λp:List UInt8 × Int=>cs p.1) hk';have i2:=ja (k:=1) (f:=λp:List UInt8 × Int=>ci p.2) hk';rw [e1,jqv,List.take_succ_eq_append_getElem hk',jnG];by_cases hn:E[k].1=n
   ·rw [if_pos hn];simp only [jd,h,i1,i2,hn]
   ·rw [if_neg hn,<-ih (by omega)];simp only [jd,h,i1,i2,hn,c1]
 have:=key E.length (Nat.le_refl _);rw [List.take_length] at this;have c1:ck (((E.length:Nat):Int) - 1)=some (vi (((E.length:Nat):Int) - 1)):=jG (by omega) (by omega);rw [jzX];simp only [jd,c1,this]
theorem jbf {code:List Int} (s:Int) (hs:1<=s) (n:List UInt8) (vs:List Int):0<=zM code s n vs/\zM code s n vs < s:=⟨Int.emod_nonneg _ (by omega),Int.emod_lt_of_pos _ (by omega)⟩
theorem jfF {c:UInt8} {r:List UInt8} :kP (sv (c::r)) (vi 0)=some (vy (c.toNat:Int)):=zW
section
variable {code:List Int} (hb:By code)
include hb
theorem jj7 (s:Int) (hs:1<=s/\s<=10) (E:Env) (hE:∀x,0<=kL E x/\kL E x < s) (n:List UInt8) (hn:n.length<=1048576) (us:List T) (hl:us.length<=1048576) (ih:∀u∈us,G 136 [kG code,vi s,ev E,tm u]=some (vi (val (zM code s) (kL E) u),[])) :
  ja1 (kG code) (vi s) (vi 0) (.sl 1 (E.map λp=>cs p.1)) (.sl 1 (E.map λp=>ci p.2)) (sv n) (jY us) []=some (vi (zM code s n (us.map (val (zM code s) (kL E)))),[]):=by
 have key:=upto (P:=λi=>ja1 (kG code) (vi s) (vi (i:Nat)) (.sl 1 (E.map λp=>cs p.1)) (.sl 1 (E.map λp=>ci p.2)) (sv n) (jY us) (((us.take i).map (val (zM code s) (kL E))).map ci)=some (vi (zM code s n (us.map (val (zM code s) (kL E)))),[])) (n:=us.length) ?_ ?_ 0 (Nat.zero_le _)
 ·exact key
 ·have hv:∀v∈us.map (val (zM code s) (kL E)),0<=v/\v<=10:=by
   intro v hv;obtain ⟨u,_,rfl⟩:=List.mem_map.1 hv;have:=jeK (good:=λv=>0<=v/\v < s) (M:=zM code s) (jbf s hs.1) hE u;omega
  obtain ⟨m0,me⟩:=jmN hb n (by omega) _ hv (by rw [List.length_map];omega)
  have r:=jhu (x:=jd1 code n (us.map (val (zM code s) (kL E)))) (n:=s) m0 hs.1;rw [List.take_length,jqj];generalize us.map (val (zM code s) (kL E))=vs at *;show _=some (vi (jd1 code n vs % s),[]);simp only [jd,me,r]
 ·intro i hi ihi;have hlt:(i:Int) < ((us.length:Nat):Int):=by omega
  have h5:=jr hi (by show us.length<=9223372036854775807;omega)
  have e1:=ih us[i] (List.getElem_mem hi);have f:jB (i+1) 8=true:=jty (by omega);have hmin:min i us.length=i:=by omega
  rw [List.take_succ_eq_append_getElem hi,List.map_append,List.map_append,show ([us[i]].map (val (zM code s) (kL E))).map ci = [[vi (val (zM code s) (kL E) us[i])]] from rfl] at ihi;rw [jqj];generalize val (zM code s) (kL E) us[i]=v at *;have ihi:ja1 (kG code) (vi s) (vi ((i+1:Nat):Int)) (.sl 1 (E.map λp=>cs p.1)) (.sl 1 (E.map λp=>ci p.2)) (sv n) (jY us) (jL (((us.take i).map (val (zM code s) (kL E))).map ci) [[vi v]])=_:=ihi;have hlen:(((us.take i).map (val (zM code s) (kL E))).map ci).length=i:=by simp [hmin]
  generalize ((us.take i).map (val (zM code s) (kL E))).map ci=R at *;have f2:jB (R.length+1) 8=true:=by rw [hlen];exact f
  simp only [jd,hlt,ja hi,jl,e1,h5,f2,ihi]
theorem joM (s:Int) (hs:1<=s/\s<=10) (E:Env) (hEl:E.length<=4000000) (hE:∀x,0<=kL E x/\kL E x < s):∀t:T,Tz t->G 136 [kG code,vi s,ev E,tm t]=some (vi (val (zM code s) (kL E) t),[]):=by
 refine T.ind λt ih ht=> ?_;have hz:=ht;unfold Tz at hz;rw [kO] at hz;have e0:=jj7 hb s hs E hE t.name (by omega) t.args (by omega) λu hu=>ih u hu (ht.args u hu);have e1:=jtf E hEl t.name;rw [jzw,jby];cases ha:t.args with
 | cons u us=>
  rw [ha] at e0;have hne:¬(((u::us).length:Nat):Int)=0:=by rw [List.length_cons];omega
  rw [show (u::us).isEmpty=false from rfl,Bool.false_and,if_neg Bool.false_ne_true];generalize u::us=vs at *;simp only [jd,ha,hne,e0]
 | nil=>
  rw [ha] at e0;rw [show ([]:List T).isEmpty=true from rfl,Bool.true_and];cases hn:t.name with
  | nil=>
   rw [hn] at e0;rw [show upN []=false from rfl,if_neg Bool.false_ne_true];have z1:(((([]:List T).length:Nat):Int)=0):=rfl;have z2:¬(0:Int) < ((0:Nat):Int):=by decide
   generalize hE0:([]:List T)=vs at *;simp only [jd,ha,hn,z1,z2,e0]
  | cons c r=>
   rw [hn] at e0 e1;have hpos:(0:Int) < (((c::r).length:Nat):Int):=Int.natCast_pos.2 (Nat.succ_pos _);have hx:=jfF (c:=c) (r:=r);have hu:upN (c::r)=(decide ((65:Int)<=(c.toNat:Int)) && decide ((c.toNat:Int)<=90)):=rfl;rw [hu];have z1:(((([]:List T).length:Nat):Int)=0):=rfl;generalize hE0:([]:List T)=vs at *;generalize c::r=nm at *;by_cases h1:(65:Int)<=(c.toNat:Int)
   ·by_cases h2:(c.toNat:Int)<=90
    ·rw [decide_eq_true h1,decide_eq_true h2,Bool.and_self,if_pos rfl];simp only [jd,ha,hn,z1,hpos,hx,h1,h2,e1]
    ·rw [decide_eq_true h1,decide_eq_false h2,Bool.and_false,if_neg Bool.false_ne_true];simp only [jd,ha,hn,z1,hpos,hx,h1,h2,e0]
   ·rw [decide_eq_false h1,Bool.false_and,if_neg Bool.false_ne_true];simp only [jd,ha,hn,z1,hpos,hx,h1,e0]
end
theorem jt2 (l:List (List UInt8)) (n:List UInt8):(vnA l n).length<=l.length+1:=by
 unfold vnA;split
 ·omega
 ·simp
theorem jhM:∀(t:T) (l:List (List UInt8)),(vn l t).length<=l.length+nodes t:=by
 refine T.ind λt ih l=> ?_;have hn:=jP t;rw [jnk];split
 ·have:=jt2 l t.name;omega
 ·have key:∀us:List T,(∀u∈us,u∈t.args)-> ∀l:List (List UInt8),(vnL l us).length<=l.length+jD us:=by
   intro us;induction us with
   | nil=>intro _ l;simp [vnL,jD]
   | cons u us ih2=>
    intro hu l;have h1:=ih u (hu u (by simp)) l;have h2:=ih2 (λv hv=>hu v (by simp [hv])) (vn l u);rw [vnL,jD];omega
  have:=key t.args (λ_ h=>h) l;omega
theorem jlK (n:List UInt8) (x:A) (hx:n.length<=1048576) (l:List (List UInt8)) (hl:l.length<=4000000):YE (vi 0) (sv n) x (l.map cs)=some (.top,[.sl 1 ((vnA l n).map cs)]):=by
 have key:=upto (P:=λi=>YE (vi (i:Nat)) (sv n) x (l.map cs)=some (.top,[.sl 1 ((if (l.drop i).contains n then l else l++[n]).map cs)])) (n:=l.length) ?_ ?_ 0 (Nat.zero_le _)
 ·exact key
 ·have f:jB (l.length+1) 16=true:=jwq (by omega);rw [jmF,List.drop_length,show ([]:List (List UInt8)).contains n=false from rfl,if_neg Bool.false_ne_true,List.map_append];simp only [jd,f];rfl
 ·intro i hi ih;have hlt:(i:Int) < ((l.length:Nat):Int):=by omega
  have h5:=jr hi (by show l.length<=9223372036854775807;omega)
  have x1:Ke l.length (vi ((i:Nat):Int))=some i:=zi hi;have x2:=jjd hi;rw [jmF,jo hi,List.contains_cons];by_cases he:l[i]=n
  ·rw [<-he,beq_self_eq_true,Bool.true_or,if_pos rfl];rw [he] at x2 ⊢;simp only [jd,hlt,x1,x2]
  ·have hne:(n == l[i])=false:=by
    cases h:(n == l[i]) with
    | false=>rfl
    | true=>exact absurd (eq_of_beq h).symm he
   rw [hne,Bool.false_or,<-ih];simp only [jd,hlt,x1,x2,he,h5]
theorem jf1:∀t:T,Tz t-> ∀l:List (List UInt8),l.length+nodes t<=4000000->jhQ (tm t) (l.map cs)=some (.top,[.sl 1 ((vn l t).map cs)]):=by
 refine T.ind λt ih ht l hl=> ?_;have hz:=ht;unfold Tz at hz;rw [kO] at hz;have hn:=jP t;have e1:∀x,YE (vi 0) (sv t.name) x (l.map cs)=_:=λx=>jlK t.name x (by omega) l (by omega);have key:=upto (P:=λi=>∀l:List (List UInt8),l.length+jD (t.args.drop i)<=4000000->jcy (vi (i:Nat)) (sv t.name) (jY t.args) (l.map cs)=some (.top,[.sl 1 ((vnL l (t.args.drop i)).map cs)])) (n:=t.args.length) ?_ ?_ 0 (Nat.zero_le _);rotate_left
 ·intro l _;rw [jg8,List.drop_length];simp only [jd];rfl
 ·intro i hi ihi l hl;have hlt:(i:Int) < ((t.args.length:Nat):Int):=by omega
  have h5:=jr hi (by show t.args.length<=9223372036854775807;omega)
  rw [jo hi,jD] at hl;have q:=ih t.args[i] (List.getElem_mem hi) (ht.args _ (List.getElem_mem hi)) l (by omega);have hln:=jhM t.args[i] l;have q2:=ihi (vn l t.args[i]) (by omega);rw [jg8,jo hi,vnL];generalize vn l t.args[i]=l' at *;have hr:hR 1 (A.top,[.sl 1 (l'.map cs)]) 0=some (l'.map cs):=rfl;simp only [jd,hlt,ja hi,jl,q,hr,h5,q2]
 have e2:jcx (vi 0) (sv t.name) (jY t.args) (l.map cs)=some (.top,[.sl 1 ((vnL l t.args).map cs)]):=by
  have key:=key l (by rw [List.drop_zero];omega)
  rw [List.drop_zero] at key;have:jcx (vi 0) (sv t.name) (jY t.args) (l.map cs)=jcy (vi 0) (sv t.name) (jY t.args) (l.map cs):=by rw [jtl,jg8]
  rw [this];exact key
 rw [jxf,jnk];cases ha:t.args with
 | cons u us=>
  rw [ha] at e2;have hne:¬(((u::us).length:Nat):Int)=0:=by rw [List.length_cons];omega
  rw [show (u::us).isEmpty=false from rfl,Bool.false_and,if_neg Bool.false_ne_true];generalize u::us=vs at *;simp only [jd,ha,hne,e2]
 | nil=>
  rw [ha] at e2;rw [show ([]:List T).isEmpty=true from rfl,Bool.true_and];cases hnm:t.name with
  | nil=>
   rw [hnm] at e2;rw [show upN []=false from rfl,if_neg Bool.false_ne_true];have z1:(((([]:List T).length:Nat):Int)=0):=rfl;have z2:¬(0:Int) < ((0:Nat):Int):=by decide
   generalize hE0:([]:List T)=vs at *;simp only [jd,ha,hnm,z1,z2,e2]
  | cons c r=>
   rw [hnm] at e1 e2;have hpos:(0:Int) < (((c::r).length:Nat):Int):=Int.natCast_pos.2 (Nat.succ_pos _);have hx:=jfF (c:=c) (r:=r);have hu:upN (c::r)=(decide ((65:Int)<=(c.toNat:Int)) && decide ((c.toNat:Int)<=90)):=rfl;rw [hu];have z1:(((([]:List T).length:Nat):Int)=0):=rfl;generalize hE0:([]:List T)=vs at *;generalize c::r=nm at *;by_cases h1:(65:Int)<=(c.toNat:Int)
   ·by_cases h2:(c.toNat:Int)<=90
    ·rw [decide_eq_true h1,decide_eq_true h2,Bool.and_self,if_pos rfl];simp only [jd,ha,hnm,z1,hpos,hx,h1,h2,e1]
    ·rw [decide_eq_true h1,decide_eq_false h2,Bool.and_false,if_neg Bool.false_ne_true];simp only [jd,ha,hnm,z1,hpos,hx,h1,h2,e2]
   ·rw [decide_eq_false h1,Bool.false_and,if_neg Bool.false_ne_true];simp only [jd,ha,hnm,z1,hpos,hx,h1,e2]
theorem jx8 {x n:Int} (h0:0<=x) (hn:1<=n) (hx:x<=9223372036854775807):jp .quo false (vi x) (vi n)=some (vi (x / n)):=by
 show (if n=0 then none else ck (x.tdiv n))=_;rw [if_neg (by omega),Int.tdiv_eq_ediv_of_nonneg h0,jG]
 ·have:=Int.ediv_nonneg h0 (show (0:Int)<=n by omega);omega
 ·have:=Int.ediv_le_self n h0;omega
theorem jpy {n:Nat} (hn:1<=n):∀(l k:Nat),∀v∈dec n l k,v < n
 | 0,_,v,h=>by cases h
 | l+1,k,v,h=>by
  rw [dec] at h;rcases List.mem_cons.1 h with rfl|h
  ·exact Nat.mod_lt _ (by omega)
  ·exact jpy hn l _ v h
theorem jmo (n:Nat):∀l k:Nat,(dec n l k).length=l
 | 0,_=>rfl
 | l+1,k=>by rw [dec,List.length_cons,jmo n l]
theorem jnF {s:Int} (hs:1<=s) {E:Env} (h:∀p∈E,0<=p.2/\p.2 < s) (x:List UInt8):0<=kL E x/\kL E x < s:=by
 have key:∀(E:Env) (a:Int),(0<=a/\a < s)->(∀p∈E,0<=p.2/\p.2 < s)->0<=E.foldl (λa p=>if p.1=x then p.2 else a) a/\E.foldl (λa p=>if p.1=x then p.2 else a) a < s:=by
  intro E;induction E with
  | nil=>intro a ha _;exact ha
  | cons p E ih=>
   intro a ha h;rw [List.foldl_cons];refine ih _ ?_ λq hq=>h q (by simp [hq]);split
   ·exact h p (by simp)
   ·exact ha
 exact key E 0 ⟨by omega,by omega⟩ h
theorem jpS (f:List UInt8->Int) {l:List (List UInt8)} {x:List UInt8} (hx:x∈l):kL (l.map λn=>(n,f n)) x=f x:=by
 have key:∀(l:List (List UInt8)) (a:Int),(x∈l\/a=f x)->(l.map λn=>(n,f n)).foldl (λa (p:List UInt8 × Int)=>if p.1=x then p.2 else a) a=f x:=by
  intro l;induction l with
  | nil=>intro a h;exact h.elim (λh=>absurd h List.not_mem_nil) id
  | cons n l ih=>
   intro a h;rw [List.map_cons,List.foldl_cons];refine ih _ ?_;show x∈l\/(if n=x then f n else a)=f x;by_cases hn:n=x
   ·right;rw [if_pos hn,hn]
   ·rw [if_neg hn];rcases h with h|h
    ·rcases List.mem_cons.1 h with h|h
     ·exact absurd h.symm hn
     ·exact Or.inl h
    ·exact Or.inr h
 exact key l 0 (Or.inl hx)
theorem jaR {α β:Type} (f:α->β):∀l:List α,l.zip (l.map f)=l.map λx=>(x,f x)
 | []=>rfl
 | x::l=>by rw [List.map_cons,List.zip_cons_cons,jaR f l,List.map_cons]
def jbb (s:Nat) (names:List (List UInt8)) (k:Nat):Env:=names.zip ((dec s names.length k).map λv=>((v:Nat):Int))
theorem jfi {s:Nat} (hs:1<=s) (names:List (List UInt8)) (k:Nat) (x:List UInt8):0<=kL (jbb s names k) x/\kL (jbb s names k) x < (s:Int):=by
 refine jnF (by omega) (λp hp=> ?_) x;obtain ⟨v,hv,e⟩:=List.mem_map.1 (List.of_mem_zip hp).2;have:=jpy hs _ _ v hv;rw [<-e];omega
theorem jpL {s:Nat} (hs:1<=s) (names:List (List UInt8)) (e:List UInt8->Int) (he:∀x,0<=e x/\e x < (s:Int)):∃k,k < s ^ names.length/\ ∀x∈names,kL (jbb s names k) x=e x:=by
 have hv:∀v∈names.map (λx=>(e x).toNat),v < s:=by
  intro v hv;obtain ⟨x,_,rfl⟩:=List.mem_map.1 hv;have:=he x;omega
 refine ⟨enc s (names.map λx=>(e x).toNat),?_,λx hx=> ?_⟩
 ·have:=jpI hs _ hv;rwa [List.length_map] at this
 ·have h1:=jmn hs _ hv;rw [List.length_map] at h1;unfold jbb;rw [h1,List.map_map,jaR,jpS _ hx];have:=he x;show (((e x).toNat:Nat):Int)=e x;omega
theorem jpM (s:Nat) (names:List (List UInt8)) (k:Nat):(jbb s names k).length=names.length:=by
 unfold jbb;rw [List.length_zip,List.length_map,jmo,Nat.min_self]
section
variable {code:List Int} (hb:By code)
include hb
omit hb in
theorem jr0 (n:List UInt8) (v:Int) (E:Env) (hl:E.length<=1000000):jo2 (sv n) (vi v) (E.map λp=>cs p.1) (E.map λp=>ci p.2)=some (.top,[.sl 1 (E.map λp=>cs p.1),.sl 1 (E.map λp=>ci p.2),.sl 1 ((E++[(n,v)]).map λp=>cs p.1),.sl 1 ((E++[(n,v)]).map λp=>ci p.2)]):=by
 have f1:jB E.length 16=true:=jwq (by omega);have f2:jB E.length 8=true:=jty (by omega);have f3:jB (E.length+1) 16=true:=jwq (by omega);have f4:jB (E.length+1) 8=true:=jty (by omega);rw [jxp];simp only [jd,f1,f2,f3,f4,List.map_append];rfl
omit hb in
theorem jj4 (s:Nat) (hs:1<=s/\s<=3) (al k:A) (X:A) (names:List (List UInt8)) (hn:names.length<=1000):∀(m i rest:Nat) (E:Env),i+m=names.length->E.length=i->rest<=1000000000->
  jlY (kG code) (vi (s:Nat)) al k (vi (rest:Nat)) (vi (i:Nat)) X (names.map cs) (E.map λp=>cs p.1) (E.map λp=>ci p.2) =
  jhY (kG code) (vi (s:Nat)) al k (vb false) (vi 0) X (names.map cs) ((E++(names.drop i).zip ((dec s m rest).map λv=>((v:Nat):Int))).map λp=>cs p.1) ((E++(names.drop i).zip ((dec s m rest).map λv=>((v:Nat):Int))).map λp=>ci p.2):=by
 intro m;induction m with
 | zero=>
  intro i rest E hi hE hr;have hlt:¬(i:Int) < ((names.length:Nat):Int):=by omega
  rw [dec,List.map_nil,List.zip_nil_right,List.append_nil,juC];simp only [jd,hlt]
 | succ m ih=>
  intro i rest E hi hE hr;have hi':i < names.length:=by omega
  have hlt:(i:Int) < ((names.length:Nat):Int):=by omega
  have h5:=jr hi' (by show names.length<=9223372036854775807;omega)
  have x1:Ke names.length (vi ((i:Nat):Int))=some i:=zi hi';have x2:=jjd hi';have r1:=jhu (x:=((rest:Nat):Int)) (n:=((s:Nat):Int)) (by omega) (by omega);have r2:=jx8 (x:=((rest:Nat):Int)) (n:=((s:Nat):Int)) (by omega) (by omega) (by omega);rw [<-Int.natCast_emod] at r1;rw [<-Int.natCast_ediv] at r2;have w:=jr0 names[i] ((rest % s:Nat):Int) E (by omega);have hd:rest / s<=1000000000:=Nat.le_trans (Nat.div_le_self _ _) hr;have q:=ih (i+1) (rest / s) (E++[(names[i],((rest % s:Nat):Int))]) (by omega) (by rw [List.length_append,List.length_singleton,hE]) hd;rw [dec,jo hi',List.map_cons,List.zip_cons_cons,show E++(names[i],((rest % s:Nat):Int))::((names.drop (i+1)).zip ((dec s m (rest / s)).map λv=>((v:Nat):Int)))=(E++[(names[i],((rest % s:Nat):Int))])++(names.drop (i+1)).zip ((dec s m (rest / s)).map λv=>((v:Nat):Int)) by rw [List.append_assoc];rfl,<-q,juC];generalize hE':E++[(names[i],((rest % s:Nat):Int))]=E' at *;have hR:∀a b c d:List (List A),hR 1 (A.top,[.sl 1 a,.sl 1 b,.sl 1 c,.sl 1 d]) 0=some a/\hR 1 (A.top,[.sl 1 a,.sl 1 b,.sl 1 c,.sl 1 d]) 1=some b/\hR 1 (A.top,[.sl 1 a,.sl 1 b,.sl 1 c,.sl 1 d]) 2=some c/\hR 1 (A.top,[.sl 1 a,.sl 1 b,.sl 1 c,.sl 1 d]) 3=some d:=λ_ _ _ _=>⟨rfl,rfl,rfl,rfl⟩;obtain ⟨z0,z1,z2,z3⟩:=hR (E.map λp=>cs p.1) (E.map λp=>ci p.2) (E'.map λp=>cs p.1) (E'.map λp=>ci p.2);simp only [jd,hlt,x1,x2,r1,r2,h5,w,z0,z1,z2,z3]
end
def R3 (S:List (List UInt8)) (r:T):Prop:=r.name = [61]/\r.args.length=2/\Tz r/\(z6 (jcs r)=true/\VIn S (jcs r))/\z6 (jcu r)=true/\VIn S (jcu r)
def jAR (code:List Int) (s:Int) (r:T):Prop:=∀e:List UInt8->Int,(∀x,0<=e x/\e x < s)->val (zM code s) e (jcs r)=val (zM code s) e (jcu r)
section
variable {code:List Int} (hb:By code)
include hb
end
def MD (code:List Int) (z q:Nat) (a:Int) (o:Option Out):Prop:=∃a' s' t,a<=a'/\a'<=a+(q:Nat)/\tsz t<=z/\o=some (.top,[kG code,vi a',vu s',tm t])
def fT (n:List UInt8):T:= .mk [102] [.mk n []]
def hT:T:= .mk [104] [fT [97],fT [97],fT [97],fT [97]]
def gT (us:List T):T:= .mk [103] us
section
variable {code:List Int} (hb:By code)
include hb
theorem jt6 (a s:Int) (h0:0<=a) (h1:a<=999990000):MD code 200 2 a (jgj (kG code) (vi a) (vu s)):=by
 obtain ⟨a1,s1,b1,q1,q2,e1⟩:=qp hb 2 (by decide) (by decide) a s h0 (by omega);obtain ⟨a2,s2,b2,r1,r2,e2⟩:=qp hb 2 (by decide) (by decide) a1 s1 (by omega) (by omega);have inner:∀(x y:Int) (r1:List (List A)),x+1=y->0<=x->x < 4->r1.length<=10->Q3 (vi x) (vi 0) (kG code) (vi a) (vu s) (sv []) (sv [103]) (sv [104]) [] r1 []=ZM (vi y) (kG code) (vi a) (vu s) (sv []) (sv [103]) [] (r1++[jz hT]):=by
  intro x y r1 hxy hx hi hr;have hf:jB (r1.length+1) 40=true:=jlf (by omega);have c5:ck (x+1)=some (vi y):=by rw [hxy];exact jG (by omega) (by omega)
  have k1:ck ((0:Int)+1)=some (vi 1):=jG (by decide) (by decide);have k2:ck ((1:Int)+1)=some (vi 2):=jG (by decide) (by decide);have k3:ck ((2:Int)+1)=some (vi 3):=jG (by decide) (by decide);have k4:ck ((3:Int)+1)=some (vi 4):=jG (by decide) (by decide);have f1:jB (0+1) 40=true:=rfl;have f2:jB (1+1) 40=true:=rfl;have f3:jB (2+1) 40=true:=rfl;have f4:jB (3+1) 40=true:=rfl;have l0:((0:Int) < 4)=True:=by simp
  have l1:((1:Int) < 4)=True:=by simp
  have l2:((2:Int) < 4)=True:=by simp
  have l3:((3:Int) < 4)=True:=by simp
  rw [Z7];simp only [jd,l0,f1,k1];rw [Z7];simp only [jd,l1,f2,k2,jL];rw [Z7];simp only [jd,l2,f3,k3,jL];rw [Z7];simp only [jd,l3,f4,k4,jL];rw [Z7];simp only [jd,hf,c5,jL];rfl
 have l0:((0:Int) < 4)=True:=by simp
 have l1:((1:Int) < 4)=True:=by simp
 have l2:((2:Int) < 4)=True:=by simp
 have l3:((3:Int) < 4)=True:=by simp
 have head:jgj (kG code) (vi a) (vu s)=ZM (vi 4) (kG code) (vi a) (vu s) (sv []) (sv [103]) [] [jz hT,jz hT,jz hT,jz hT]:=by
  rw [jvT,Z6];simp only [jd,l0];rw [inner 0 1 [] (by decide) (by decide) (by decide) (by decide),Z6];simp only [jd,l1];rw [inner 1 2 _ (by decide) (by decide) (by decide) (by decide),Z6];simp only [jd,l2];rw [inner 2 3 _ (by decide) (by decide) (by decide) (by decide),Z6];simp only [jd,l3];rw [inner 3 4 _ (by decide) (by decide) (by decide) (by decide)];rfl
 rw [head,Z6];have n4:((4:Int) < 4)=False:=by simp
 cases b1 with
 | true=>
  cases b2 with
  | true=>
   refine ⟨a2,s2,gT [hT,hT,hT,fT [98]],by omega,by omega,by decide,?_⟩;simp only [jd,n4,e1,e2,List.getElem?_cons_zero,List.getElem?_cons_succ];rfl
  | false=>
   refine ⟨a2,s2,gT [hT,hT,hT],by omega,by omega,by decide,?_⟩;simp only [jd,n4,e1,e2,List.getElem?_cons_zero,List.getElem?_cons_succ];rfl
 | false=>
  refine ⟨a2,s2,gT [hT,hT,hT,hT],by omega,by omega,by decide,?_⟩;cases b2<;>simp only [jd,n4,e1,e2,List.getElem?_cons_zero,List.getElem?_cons_succ]<;>rfl
theorem jkx (a s:Int) (h0:0<=a) (h1:a<=999980000):MD code 1000 1200 a (jkl (kG code) (vi a) (vu s)):=by
 obtain ⟨a1,s1,t1,q1,q2,q3,e1⟩:=YZ hb a s h0 (by omega);obtain ⟨a2,s2,x,r1,r2,x0,x1,e2⟩:=zO hb 24 (by decide) (by decide) a1 s1 (by omega) (by omega);have hz:=kO t1;rw [jvO];by_cases y0:x=0
 ·subst y0;obtain ⟨a3,s3,w,hw,u1,u2,e⟩:=jmP hb [[],[116,114,117,101],[116,114,117,116,104],[105,102],[88,121,122,57],[88,121,122,57,57],[120,65],[97,95,98],[97,98,99,100,101,102],[97,98,99,100,101,102,103],[95,97],[57],[88,95],[61]] (by decide) (by decide) a2 s2 (by omega) (by omega);have hl:w.length<=7:=(show ∀w∈([[],[116,114,117,101],[116,114,117,116,104],[105,102],[88,121,122,57],[88,121,122,57,57],[120,65],[97,95,98],[97,98,99,100,101,102],[97,98,99,100,101,102,103],[95,97],[57],[88,95],[61]]:List (List UInt8)),w.length<=7 by decide) w hw;have e:yV (kG code) (vi a2) (vu s2) [[sv []],[sv [116,114,117,101]],[sv [116,114,117,116,104]],[sv [105,102]],[sv [88,121,122,57]],[sv [88,121,122,57,57]],[sv [120,65]],[sv [97,95,98]],[sv [97,98,99,100,101,102]],[sv [97,98,99,100,101,102,103]],[sv [95,97]],[sv [57]],[sv [88,95]],[sv [61]]]=some (.top,[kG code,vi a3,vu s3,sv w]):=e;refine ⟨a3,s3,.mk w t1.args,by omega,by omega,by rw [qt];omega,?_⟩;simp only [jd,e1,e2,e,List.getElem?_cons_zero,List.getElem?_cons_succ,yx];rfl
 by_cases y1:x=1
 ·subst y1;obtain ⟨a3,s3,y,u1,u2,u3,u4,e3⟩:=zO hb 3 (by decide) (by decide) a2 s2 (by omega) (by omega);obtain ⟨k,hk⟩:∃k:Nat,7+y=(k:Nat):=⟨(7+y).toNat,by omega⟩;have c1:ck (7+y)=some (vi (k:Nat)):=by rw [hk];exact jG (by omega) (by omega)
  obtain ⟨a4,s4,t4,v1,v2,v3,e4⟩:=jrM hb k (by omega) a3 s3 (by omega) (by omega);refine ⟨a4,s4,t4,by omega,by omega,by omega,?_⟩;simp only [jd,y0,e1,e2,e3,c1,e4,List.getElem?_cons_zero,List.getElem?_cons_succ,yx]
 by_cases y2:x=2
 ·subst y2;obtain ⟨a3,s3,t3,u1,u2,u3,e3⟩:=jt6 hb a2 s2 (by omega) (by omega);refine ⟨a3,s3,t3,by omega,by omega,by omega,?_⟩;simp only [jd,y0,y1,e1,e2,e3,List.getElem?_cons_zero,List.getElem?_cons_succ,yx]
 by_cases y3:x=3
 ·subst y3;obtain ⟨a3,s3,t3,u1,u2,u3,e3⟩:=YZ hb a2 s2 (by omega) (by omega);obtain ⟨a4,s4,t4,v1,v2,v3,e4⟩:=YZ hb a3 s3 (by omega) (by omega);obtain ⟨a5,s5,t5,w1,w2,w3,e5⟩:=YZ hb a4 s4 (by omega) (by omega);have hf:jB (t1.args.length+3) 40=true:=jlf (by omega);have hsz:∀us:List T,yf (us++[t3,t4,t5])=yf us+(tsz t3+(tsz t4+tsz t5)):=by
   intro us;induction us with
   | nil=>simp [yf]
   | cons u us ih=>simp only [List.cons_append,yf];omega
  refine ⟨a5,s5,.mk t1.name (t1.args++[t3,t4,t5]),by omega,by omega,by rw [qt,hsz,List.length_append,List.length_cons,List.length_cons,List.length_cons,List.length_nil];omega,?_⟩
  simp only [jd,y0,y1,y2,e1,e2,e3,e4,e5,hf,List.length_map,List.getElem?_cons_zero,List.getElem?_cons_succ,yx];show _=some (A.top,[kG code,vi a5,vu s5,A.agg [sv t1.name,.sl 2 ((t1.args++[t3,t4,t5]).map jz)]]);rw [List.map_append,List.map_cons,List.map_cons,List.map_cons,kK t3,kK t4,kK t5];rfl
 by_cases y4:x=4
 ·subst y4;cases ht:t1.args with
  | nil=>
   rw [ht] at e1;refine ⟨a2,s2,t1,by omega,by omega,by omega,?_⟩;simp only [jd,y0,y1,y2,y3,e1,e2,Int.natCast_zero,List.map_nil,List.getElem?_cons_zero,List.getElem?_cons_succ,yx];rw [show tm t1=A.agg [sv t1.name,.sl 2 (t1.args.map jz)] from rfl,ht];rfl
  | cons u us=>
   rw [ht] at e1 hz;obtain ⟨a3,s3,w,hw,u1,u2,e⟩:=jmP hb [[61],[],[81,49],[98,50]] (by decide) (by decide) a2 s2 (by omega) (by omega);have hl:w.length<=2:=(show ∀w∈([[61],[],[81,49],[98,50]]:List (List UInt8)),w.length<=2 by decide) w hw;have e:yV (kG code) (vi a2) (vu s2) [[sv [61]],[sv []],[sv [81,49]],[sv [98,50]]]=some (.top,[kG code,vi a3,vu s3,sv w]):=e;have hu:=kO u;simp only [yf,List.length_cons] at hz;refine ⟨a3,s3,.mk t1.name (.mk w u.args::us),by omega,by omega,by rw [qt];simp only [yf,List.length_cons,qt];omega,?_⟩;have x2:Ke (us.length+1) (vi 0)=some 0:=zi (i:=0) (by omega);have x3:yE (jz u::us.map jz) 0 1=some (jY u.args):=by rw [kK];rfl
   have x4:(0:Int) < ((us.length+1:Nat):Int):=by omega
   simp only [jd,y0,y1,y2,y3,e1,e2,e,List.map_cons,List.length_cons,List.length_map,x2,x3,x4,List.getElem?_cons_zero,List.getElem?_cons_succ,yx];generalize hB:j7 _ _ _=B;have hB':B=some (.agg [sv w,jY u.args]):=by rw [<-hB];kernel_rfl
   rw [hB'];simp only [jd,je2,J2,jah,List.getElem?_cons_zero,List.getElem?_cons_succ,yx];rw [kK];show some (A.top,[kG code,vi a3,vu s3,A.agg [sv t1.name,A.sl 2 (Kh [sv u.name,A.sl 2 (List.map jz u.args)] 0 [sv w,jY u.args]::List.map jz us)]])=some (A.top,[kG code,vi a3,vu s3,A.agg [sv t1.name,.sl 2 (jz (.mk w u.args)::us.map jz)]]);rw [jah,kK];rfl
 ·refine ⟨a2,s2,t1,by omega,by omega,by omega,?_⟩;simp only [jd,e1,e2,y0,y1,y2,y3,y4,List.getElem?_cons_zero,List.getElem?_cons_succ,yx]
end
theorem jju {α:Type} (f:α->List A) (l:List α):zx (l.map f)=l.length:=List.length_map ..
def OD (code:List Int) (q:Nat) (a:Int) (o:Option Out):Prop:=∃a' s' r,a<=a'/\a'<=a+(q:Nat)/\owf r/\o=some (.top,[kG code,vi a',vu s',od r])
section
variable {code:List Int} (hb:By code)
include hb
end
def PD (code:List Int) (z q:Nat) (a:Int) (o:Option Out):Prop:=∃a' s' t u,a<=a'/\a'<=a+(q:Nat)/\tsz t<=z/\tsz u<=z/\o=some (.top,[kG code,vi a',vu s',.tup [tm t,tm u]])
section
variable {code:List Int} (hb:By code)
include hb
end
section
variable {code:List Int} (hb:By code)
include hb
end
theorem jmW (u:List (List UInt8 × T)) (hl:u.length<=1000) (i:Nat) (hi:i<=u.length) :
  pB u.length u.length (some (vi (i:Nat)))=some i/\zC (u.map bc) 0 i=(u.take i).map bc/\jB (u.take i).length 56=true/\pB u.length u.length none=some u.length/\pB 0 u.length (some (vi (i:Nat)))=some i/\zC (u.map bc) i (u.length - i)=(u.drop i).map bc/\kZ (u.map bc) 0=u.length/\jB ((u.take i).length+1) 56=true/\jB ((u.take i).length+1+(u.drop i).length) 56=true:=by
 refine ⟨yg hi,by rw [zC,List.drop_zero,List.map_take],jlg (by rw [List.length_take];omega),zc (Nat.le_refl _),yg hi,?_,by rw [kZ,List.length_map];rfl,jlg (by rw [List.length_take];omega),jlg (by rw [List.length_take,List.length_drop];omega)⟩
 rw [zC,<-List.map_drop,List.take_of_length_le (by rw [List.length_map,List.length_drop];omega)]
theorem jmV (u v:List (List UInt8 × T)) (n:List UInt8) (t:T):jL (jL (u.map bc) [[sv n,sv t.name,jY t.args]]) (v.map bc)=(u++[(n,t)]++v).map bc:=by
 rw [List.map_append,List.map_append];rfl
theorem jmX (u:List (List UInt8 × T)) (n:List UInt8) (t:T):(jL (u.map bc) [[sv n,sv t.name,jY t.args]]).length=u.length+1:=by
 simp [jL]
theorem put_eq (u:List (List UInt8 × T)) (hl:u.length<=1000) (n:List UInt8) (t:T) (ht:tsz t<=1048576):∃u',u'.length<=u.length+1/\(∀p∈u',p∈u\/p=(n,t))/\jkg (sv n) (sv t.name) (u.map bc) (t.args.map jz)=some (.top,[qD u']):=by
 have e1:=QI t ht;have key:=upto (P:=λi=>∃j,j<=u.length/\ZK (sv n) (vi i) (sv t.name) (u.map bc) (t.args.map jz) []=some (.top,[qD (u.take j++[(n,t)]++u.drop j)])) (n:=u.length) ?_ ?_ 0 (Nat.zero_le _)
 ·rw [jvD];by_cases h:t.name=n
  ·refine ⟨u,by omega,λp hp=>Or.inl hp,?_⟩;simp only [jd,h]
  ·obtain ⟨j,hj,e⟩:=key;have e:ZK (sv n) (vi 0) (sv t.name) (u.map bc) (t.args.map jz) []=some (.top,[qD (u.take j++[(n,t)]++u.drop j)]):=e;refine ⟨u.take j++[(n,t)]++u.drop j,by rw [List.length_append,List.length_append,List.length_take,List.length_drop,List.length_singleton];omega,λp hp=> ?_,?_⟩
   ·rw [List.mem_append,List.mem_append,List.mem_singleton] at hp;rcases hp with (hp|hp)|hp
    ·exact Or.inl (List.mem_of_mem_take hp)
    ·exact Or.inr hp
    ·exact Or.inl (List.mem_of_mem_drop hp)
   ·simp only [jd,h,e]
 ·refine ⟨u.length,Nat.le_refl _,?_⟩;obtain ⟨k1,k2,k3,k4,k5,k6,k7,k8,k9⟩:=jmW u hl u.length (Nat.le_refl _);have m1:=jmV (u.take u.length) (u.drop u.length) n t;have m2:=jmX (u.take u.length) n t;rw [jdI];simp only [jd,jju,k1,k2,k3,k4,k5,k6,k7,ya,Nat.sub_zero,Nat.zero_add,e1];generalize hB:j7 _ _ _=B;have hB':B=some (.agg [sv n,sv t.name,jY t.args]):=by rw [<-hB];kernel_rfl
  rw [hB'];simp only [jd,k3,k8,k9,m1,m2]
 ·intro i hi ih;have hlt:(i:Int) < ((u.length:Nat):Int):=by omega
  have h5:=jr hi (by show u.length<=9223372036854775807;omega)
  have x1:Ke u.length (vi ((i:Nat):Int))=some i:=zi hi;have x2:yE (u.map bc) i 0=some (sv u[i].1):=by unfold yE;simp [hi]
  cases hs:zF u[i].1 n
  ·refine ⟨i,by omega,?_⟩;obtain ⟨k1,k2,k3,k4,k5,k6,k7,k8,k9⟩:=jmW u hl i (by omega);have m1:=jmV (u.take i) (u.drop i) n t;have m2:=jmX (u.take i) n t;rw [jdI];simp only [jd,hlt,x1,x2,hs,jju,k1,k2,k3,k4,k5,k6,k7,ya,Nat.sub_zero,Nat.zero_add,e1];generalize hB:j7 _ _ _=B;have hB':B=some (.agg [sv n,sv t.name,jY t.args]):=by rw [<-hB];kernel_rfl
   rw [hB'];simp only [jd,k3,k8,k9,m1,m2]
  ·obtain ⟨j,hj,e⟩:=ih;refine ⟨j,hj,?_⟩;rw [jdI];simp only [jd,hlt,x1,x2,hs,h5,e]
section
variable {code:List Int} (hb:By code)
include hb
theorem ZG (a s:Int) (h0:0<=a) (h1:a<=999960000):∃a' s' u,a<=a'/\a'<=a+1000/\u.length<=4/\Sz 192 u/\jlM (kG code) (vi a) (vu s)=some (.top,[kG code,vi a',vu s',sb u]):=by
 have key:=upto (P:=λi=>∀(u:List (List UInt8 × T)) (a s:Int),0<=a->a<=999961000 - 200 * ((4:Int) - (i:Int))->u.length<=i->Sz 192 u-> ∃a' s' u',a<=a'/\a'<=a+200 * ((4:Int) - (i:Int))/\u'.length<=4/\Sz 192 u'/\Q4 (vi 4) (vi i) (kG code) (vi a) (vu s) ([[85],[88],[89],[90]].map cs) [] (u.map bc)=some (.top,[kG code,vi a',vu s',sb u'])) (n:=4) ?_ ?_ 0 (Nat.zero_le _)
 ·obtain ⟨a',s',u,q1,q2,q3,q4,e⟩:=key [] a s h0 (by omega) (by simp) ⟨by simp,by simp⟩;refine ⟨a',s',u,q1,by omega,q3,q4,?_⟩;rw [jxj];exact e
 ·intro u a s h0 h1 hl hu;refine ⟨a,s,u,by omega,by omega,hl,hu,?_⟩;have n4:((4:Nat):Int)=4:=rfl;rw [jmH];simp only [jd,n4]
 ·intro i hi ih u a s h0 h1 hl hu;have hlt:(i:Int) < 4:=by omega
  have h5:ck ((i:Int)+1)=some (vi ((i+1:Nat):Int)):=jG (by omega) (by omega);obtain ⟨a1,s1,b,q1,q2,e1⟩:=qp hb 2 (by decide) (by decide) a s h0 (by omega);have hi4:i < ([[85],[88],[89],[90]]:List (List UInt8)).length:=hi;have x1:Ke ([[85],[88],[89],[90]]:List (List UInt8)).length (vi ((i:Nat):Int))=some i:=zi hi4;obtain ⟨nm,hnm,x2⟩:∃nm:List UInt8,nm.length<=1/\yE (([[85],[88],[89],[90]]:List (List UInt8)).map cs) i 0=some (sv nm):=by
   match i,hi with
   | 0,_=>exact ⟨[85],by decide,rfl⟩
   | 1,_=>exact ⟨[88],by decide,rfl⟩
   | 2,_=>exact ⟨[89],by decide,rfl⟩
   | 3,_=>exact ⟨[90],by decide,rfl⟩
  rw [jmH];generalize ([[85],[88],[89],[90]]:List (List UInt8))=l at *;cases b with
  | true=>
   obtain ⟨a2,s2,t,r1,r2,r3,e2⟩:=YZ hb a1 s1 (by omega) (by omega);obtain ⟨u',v1,v2,e3⟩:=put_eq u (by omega) nm t (by omega);have hu':Sz 192 u':=⟨by omega,λp hp=>by
    rcases v2 p hp with h|h
    ·exact hu.2 p h
    ·rw [h];exact ⟨by show nm.length<=192;omega,r3⟩⟩
   obtain ⟨a3,s3,u3,w1,w2,w3,w4,e4⟩:=ih u' a2 s2 (by omega) (by omega) (by omega) hu';have x3:hR 3 (A.top,[qD u']) 0=some (u'.map bc):=by simp [hR]
   refine ⟨a3,s3,u3,by omega,by omega,w3,w4,?_⟩;simp only [jd,hlt,x1,x2,e1,e2,List.getElem?_cons_zero,List.getElem?_cons_succ,yx,e3,x3,h5,e4]
  | false=>
   obtain ⟨a3,s3,u3,w1,w2,w3,w4,e4⟩:=ih u a1 s1 (by omega) (by omega) (by omega) hu;refine ⟨a3,s3,u3,by omega,by omega,w3,w4,?_⟩;simp only [jd,hlt,x1,x2,e1,List.getElem?_cons_zero,List.getElem?_cons_succ,yx,h5,e4]
end
abbrev S3:List (List UInt8):=[[88],[89],[90]]
def GT (N:Nat) (t:T):Prop:=z6 t=true/\nodes t<=N/\VIn S3 t
theorem GT.valid {N:Nat} (hN:N<=8) {t:T} (h:GT N t):kW t=true/\tsz t<=80:=by
 have h1:=jbj t h.1;have h2:=jkI t;have h3:=h.2.1;refine ⟨?_,by omega⟩;unfold kW jE;rw [h.1,decide_eq_true (show nodes t<=30 by omega),decide_eq_true (show yI t<=8 by omega)];rfl
theorem GT.le {M N:Nat} (h:M<=N) {t:T} (ht:GT M t):GT N t:=⟨ht.1,Nat.le_trans ht.2.1 h,ht.2.2⟩
theorem GT.leaf {w:List UInt8} (h:w∈([[88],[89],[90],[97],[98]]:List (List UInt8))):GT 1 (.mk w []):=by
 simp only [List.mem_cons,List.not_mem_nil,or_false] at h;refine ⟨?_,Nat.le_refl _,?_⟩
 ·rcases h with rfl|rfl|rfl|rfl|rfl<;>decide
 ·intro x hx;rw [qu] at hx;rcases h with rfl|rfl|rfl|rfl|rfl<;>simp [jk,upc,KD,T.name,T.args,zf] at hx<;>simp [hx]
theorem GT.app {n:List UInt8} {us:List T} {N:Nat} (hv:jk n=false) (hs:ye n=true) (hl:us.length<=4) (h:∀u∈us,z6 u=true/\VIn S3 u) (hN:1+jD us<=N):GT N (.mk n us):=by
 refine ⟨?_,?_,?_⟩
 ·rw [yd];show (if jk n then _ else ye n && (decide (us.length<=4) && jea us))=true;rw [hv,if_neg Bool.false_ne_true,hs,decide_eq_true hl,Bool.true_and,Bool.true_and,qo,List.all_eq_true];exact λu hu=>(h u hu).1
 ·rw [jP];exact hN
 ·intro x hx;rw [qu] at hx;have hx:x∈(if jk n then [n] else zf us):=hx;rw [hv,if_neg Bool.false_ne_true] at hx;have:∀us:List T,(∀u∈us,VIn S3 u)->x∈zf us->x∈S3:=by
   intro us;induction us with
   | nil=>intro _ h;cases h
   | cons u us ih=>
    intro h hx;rw [zf] at hx;rcases List.mem_append.1 hx with hx|hx
    ·exact h u (by simp) x hx
    ·exact ih (λv hv=>h v (by simp [hv])) hx
  exact this us (λu hu=>(h u hu).2) hx
def GD (code:List Int) (N q:Nat) (a:Int) (o:Option Out):Prop:=∃a' s' t,a<=a'/\a'<=a+(q:Nat)/\GT N t/\o=some (.top,[kG code,vi a',vu s',sv (T.name t),jY (T.args t)])
section
variable {code:List Int} (hb:By code)
include hb
theorem jdT (a s:Int) (h0:0<=a) (h1:a<=1000000000):∃a' s' w,GT 1 (.mk w [])/\a<=a'/\a'<=a+1/\yV (kG code) (vi a) (vu s) [[sv [88]],[sv [89]],[sv [90]],[sv [97]],[sv [98]],[sv [88]],[sv [97]]]=some (.top,[kG code,vi a',vu s',sv w]):=by
 obtain ⟨a',s',w,hw,q1,q2,e⟩:=jmP hb [[88],[89],[90],[97],[98],[88],[97]] (by decide) (by decide) a s h0 h1;refine ⟨a',s',w,GT.leaf ?_,q1,q2,e⟩;simp only [List.mem_cons,List.not_mem_nil,or_false] at hw ⊢;rcases hw with h|h|h|h|h|h|h<;>simp [h]
theorem jfn (yI:Int) (hd:yI<=1) (a s:Int) (h0:0<=a) (h1:a<=999999000):GD code 1 1 a (yG (vi yI) (kG code) (vi a) (vu s)):=by
 obtain ⟨a1,s1,w,hw,q1,q2,e⟩:=jdT hb a s h0 (by omega);refine ⟨a1,s1,.mk w [],q1,by omega,hw,?_⟩;rw [JS];simp only [jd,hd,e,List.getElem?_cons_zero,List.getElem?_cons_succ,yx];rfl
theorem jnI (N q:Nat) (d:Nat) (h1d:1<=d) (hd:d<=10) (ih:∀a s:Int,0<=a->a<=999999000->GD code N q a (yG (vi (d:Nat)) (kG code) (vi a) (vu s))) (hq:q<=300) (a s:Int) (h0:0<=a) (h1:a<=999998000):GD code (2 * N+1) (2 * q+3) a (yG (vi ((d+1:Nat):Int)) (kG code) (vi a) (vu s)):=by
 have hle:¬((d+1:Nat):Int)<=1:=by omega
 obtain ⟨a1,s1,b1,q1,q2,e1⟩:=qp hb 3 (by decide) (by decide) a s h0 (by omega);cases b1 with
 | true=>
  obtain ⟨a2,s2,w,hw,r1,r2,e⟩:=jdT hb a1 s1 (by omega) (by omega);refine ⟨a2,s2,.mk w [],by omega,by omega,hw.le (by omega),?_⟩;rw [JS];simp only [jd,hle,e1,e,List.getElem?_cons_zero,List.getElem?_cons_succ,yx];rfl
 | false=>
  obtain ⟨a2,s2,b2,r1,r2,e2⟩:=qp hb 2 (by decide) (by decide) a1 s1 (by omega) (by omega);have c1:ck (((d+1:Nat):Int) - 1)=some (vi (d:Nat)):=by rw [show ((d+1:Nat):Int) - 1=(d:Nat) by omega];exact jG (by omega) (by omega)
  obtain ⟨a3,s3,t3,u1,u2,u3,e3⟩:=ih a2 s2 (by omega) (by omega);cases b2 with
  | true=>
   refine ⟨a3,s3,.mk [102] [t3],by omega,by omega,GT.app (by decide) (by decide) (by simp) (λu hu=> ?_) ?_,?_⟩
   ·simp only [List.mem_singleton] at hu;subst hu;exact ⟨u3.1,u3.2.2⟩
   ·have:=u3.2.1;simp only [jD];omega
   rw [JS];simp only [jd,hle,e1,e2,c1,e3,List.getElem?_cons_zero,List.getElem?_cons_succ,yx];rw [<-jtX];rfl
  | false=>
   obtain ⟨a4,s4,t4,v1,v2,v3,e4⟩:=ih a3 s3 (by omega) (by omega);refine ⟨a4,s4,.mk [103] [t3,t4],by omega,by omega,GT.app (by decide) (by decide) (by simp) (λu hu=> ?_) ?_,?_⟩
   ·simp only [List.mem_cons,List.not_mem_nil,or_false] at hu;rcases hu with rfl|rfl
    ·exact ⟨u3.1,u3.2.2⟩
    ·exact ⟨v3.1,v3.2.2⟩
   ·have:=u3.2.1;have:=v3.2.1;simp only [jD];omega
   rw [JS];simp only [jd,hle,e1,e2,c1,e3,e4,List.getElem?_cons_zero,List.getElem?_cons_succ,yx];rw [<-jlE];rfl
theorem KU (a s:Int) (h0:0<=a) (h1:a<=999998000):GD code 3 5 a (yG (vi 2) (kG code) (vi a) (vu s)):=
 jnI hb 1 1 1 (by decide) (by decide) (λa s h0 h1=>jfn hb 1 (by decide) a s h0 h1) (by decide) a s h0 h1
theorem jnH (a s:Int) (h0:0<=a) (h1:a<=999997000):GD code 7 13 a (yG (vi 3) (kG code) (vi a) (vu s)):=by
 obtain ⟨a1,s1,b1,q1,q2,e1⟩:=qp hb 3 (by decide) (by decide) a s h0 (by omega);have hle:¬(3:Int)<=1:=by decide
 cases b1 with
 | true=>
  obtain ⟨a2,s2,w,hw,r1,r2,e⟩:=jdT hb a1 s1 (by omega) (by omega);refine ⟨a2,s2,.mk w [],by omega,by omega,hw.le (by omega),?_⟩;rw [JS];simp only [jd,hle,e1,e,List.getElem?_cons_zero,List.getElem?_cons_succ,yx];rfl
 | false=>
  obtain ⟨a2,s2,b2,r1,r2,e2⟩:=qp hb 2 (by decide) (by decide) a1 s1 (by omega) (by omega);have c1:ck ((3:Int) - 1)=some (vi 2):=jG (n:=3 - 1) (by decide) (by decide);obtain ⟨a3,s3,t3,u1,u2,u3,e3⟩:=KU hb a2 s2 (by omega) (by omega);cases b2 with
  | true=>
   refine ⟨a3,s3,.mk [102] [t3],by omega,by omega,GT.app (by decide) (by decide) (by simp) (λu hu=> ?_) ?_,?_⟩
   ·simp only [List.mem_singleton] at hu;subst hu;exact ⟨u3.1,u3.2.2⟩
   ·have:=u3.2.1;simp only [jD];omega
   rw [JS];simp only [jd,hle,e1,e2,c1,e3,List.getElem?_cons_zero,List.getElem?_cons_succ,yx];rw [<-jtX];rfl
  | false=>
   obtain ⟨a4,s4,t4,v1,v2,v3,e4⟩:=KU hb a3 s3 (by omega) (by omega);refine ⟨a4,s4,.mk [103] [t3,t4],by omega,by omega,GT.app (by decide) (by decide) (by simp) (λu hu=> ?_) ?_,?_⟩
   ·simp only [List.mem_cons,List.not_mem_nil,or_false] at hu;rcases hu with rfl|rfl
    ·exact ⟨u3.1,u3.2.2⟩
    ·exact ⟨v3.1,v3.2.2⟩
   ·have:=u3.2.1;have:=v3.2.1;simp only [jD];omega
   rw [JS];simp only [jd,hle,e1,e2,c1,e3,e4,List.getElem?_cons_zero,List.getElem?_cons_succ,yx];rw [<-jlE];rfl
end
def ED (code:List Int) (q:Nat) (a:Int) (o:Option Out):Prop:=∃a' s' r,a<=a'/\a'<=a+(q:Nat)/\R3 S3 r/\tsz r<=400/\o=some (.top,[kG code,vi a',vu s',tm r])
section
variable {code:List Int} (hb:By code)
include hb
end
def RT:T:= .mk [61] [.mk [102] [.mk [88] []],.mk [88] []]
def LD (code:List Int) (q:Nat) (a:Int) (o:Option Out):Prop:=∃a' s' rs,a<=a'/\a'<=a+(q:Nat)/\rs.length<=14/\(∀r∈rs,R3 S3 r/\tsz r<=400)/\o=some (.top,[kG code,vi a',vu s',jY rs])
section
variable {code:List Int} (hb:By code)
include hb
end
theorem jth (a x0 x1 x2 x3 x4:A) (us:List T) (l:List A):hR 2 (a,x0::x1::x2::x3::x4::jY us::l) 5=some (us.map jz):=by simp [hR,jY]
def AD (code:List Int) (q:Nat) (a:Int) (o:Option Out):Prop:=∃a' s' t,a<=a'/\a'<=a+(q:Nat)/\(Bx t/\nodes t<=15)/\o=some (.top,[kG code,vi a',vu s',sv (T.name t),jY (T.args t)])
def LV (l:Lt):Prop:=Bx l.2/\nodes l.2<=15
def LtD (code:List Int) (q:Nat) (a:Int) (o:Option Out):Prop:=∃a' s' l,a<=a'/\a'<=a+(q:Nat)/\LV l/\o=some (.top,[kG code,vi a',vu s',vb (Prod.fst l),sv (T.name (Prod.snd l)),jY (T.args (Prod.snd l))])
theorem GT.two {n:List UInt8} (hn:n = [61]\/ye n=true) {u v:T} (hu:GT 7 u) (hv:GT 7 v):Bx (.mk n [u,v])/\nodes (.mk n [u,v])<=15:=by
 have h1:=hu.2.1;have h2:=hv.2.1;have hk:∀x ∈ [u,v],z6 x=true:=λx hx=>by
  simp only [List.mem_cons,List.not_mem_nil,or_false] at hx;rcases hx with rfl|rfl
  ·exact hu.1
  ·exact hv.1
 refine ⟨?_,by rw [jP];show 1+jD [u,v]<=15;simp only [jD];omega⟩
 rcases hn with hn|hn
 ·exact Or.inl ⟨hn,rfl,hk⟩
 ·refine Or.inr ⟨hn,?_⟩;have hn':jk n=false:=jlC hn;rw [yd];show (if jk n then _ else ye n && (decide ([u,v].length<=4) && jea [u,v]))=true;rw [hn',if_neg Bool.false_ne_true,hn,qo,List.all_eq_true.2 hk];rfl
theorem GT.one {n:List UInt8} (hn:ye n=true) {u:T} (hu:GT 7 u):Bx (.mk n [u])/\nodes (.mk n [u])<=15:=by
 have h1:=hu.2.1;have hk:∀x ∈ [u],z6 x=true:=λx hx=>by
  simp only [List.mem_cons,List.not_mem_nil,or_false] at hx;rw [hx];exact hu.1
 refine ⟨Or.inr ⟨hn,?_⟩,by rw [jP];show 1+jD [u]<=15;simp only [jD];omega⟩
 have hn':jk n=false:=jlC hn;rw [yd];show (if jk n then _ else ye n && (decide ([u].length<=4) && jea [u]))=true;rw [hn',if_neg Bool.false_ne_true,hn,qo,List.all_eq_true.2 hk];rfl
theorem LV.tsz {l:Lt} (h:LV l):tsz l.2<=150:=by have:=h.1.tsz;have:=h.2;omega
theorem LV.tz {l:Lt} (h:LV l):Tz l.2:=by have:=h.tsz;unfold Tz;omega
section
variable {code:List Int} (hb:By code)
include hb
theorem jjT (a s:Int) (h0:0<=a) (h1:a<=999996000):GD code 7 14 a (JP (kG code) (vi a) (vu s)):=by
 obtain ⟨a1,s1,x,q1,q2,x0,x1,e1⟩:=zO hb 3 (by decide) (by decide) a s h0 (by omega);have c1:ck (1+x)=some (vi (1+x)):=jG (by omega) (by omega);have key:GD code 7 13 a1 (yG (vi (1+x)) (kG code) (vi a1) (vu s1)):=by
  by_cases y0:x=0
  ·subst y0;obtain ⟨a2,s2,t,r1,r2,r3,e⟩:=jfn hb (1+0) (by decide) a1 s1 (by omega) (by omega);exact ⟨a2,s2,t,r1,by omega,r3.le (by decide),e⟩
  by_cases y1:x=1
  ·subst y1;obtain ⟨a2,s2,t,r1,r2,r3,e⟩:=KU hb a1 s1 (by omega) (by omega);exact ⟨a2,s2,t,r1,by omega,r3.le (by decide),e⟩
  ·have:x=2:=by omega
   subst this;exact jnH hb a1 s1 (by omega) (by omega)
 obtain ⟨a2,s2,t,r1,r2,r3,e2⟩:=key;refine ⟨a2,s2,t,by omega,by omega,r3,?_⟩;rw [jpm];simp only [jd,e1,c1,e2,List.getElem?_cons_zero,List.getElem?_cons_succ,yx]
theorem jpk (a s:Int) (h0:0<=a) (h1:a<=999990000):AD code 40 a (joZ (kG code) (vi a) (vu s)):=by
 obtain ⟨a1,s1,x,q1,q2,x0,x1,e1⟩:=zO hb 8 (by decide) (by decide) a s h0 (by omega);obtain ⟨a2,s2,t2,r1,r2,r3,e2⟩:=jjT hb a1 s1 (by omega) (by omega);obtain ⟨a3,s3,t3,u1,u2,u3,e3⟩:=jjT hb a2 s2 (by omega) (by omega);obtain ⟨a4,s4,t4,v1,v2,v3,e4⟩:=KU hb a1 s1 (by omega) (by omega);obtain ⟨a5,s5,t5,w1,w2,w3,e5⟩:=KU hb a4 s4 (by omega) (by omega);have v3:=v3.le (N:=7) (by decide);have w3:=w3.le (N:=7) (by decide);rw [jxk];by_cases y0:x=0
 ·subst y0;refine ⟨a3,s3,.mk [61] [t2,t3],by omega,by omega,GT.two (Or.inl rfl) r3 u3,?_⟩;simp only [jd,e1,e2,e3,List.getElem?_cons_zero,List.getElem?_cons_succ,yx];rw [<-jlE];rfl
 by_cases y1:x=1
 ·subst y1;refine ⟨a3,s3,.mk [61] [t2,t3],by omega,by omega,GT.two (Or.inl rfl) r3 u3,?_⟩;simp only [jd,e1,e2,e3,List.getElem?_cons_zero,List.getElem?_cons_succ,yx];rw [<-jlE];rfl
 by_cases y2:x=2
 ·subst y2;refine ⟨a1,s1,.mk [114] [],by omega,by omega,⟨Or.inr ⟨by decide,by decide⟩,by decide⟩,?_⟩;simp only [jd,e1,List.getElem?_cons_zero,List.getElem?_cons_succ,yx];rfl
 by_cases y3:x=3
 ·subst y3;refine ⟨a5,s5,.mk [113] [t4,t5],by omega,by omega,GT.two (Or.inr (by decide)) v3 w3,?_⟩;simp only [jd,e1,e4,e5,List.getElem?_cons_zero,List.getElem?_cons_succ,yx];rw [<-jlE];rfl
 by_cases y4:x=4
 ·subst y4;refine ⟨a5,s5,.mk [113] [t4,t5],by omega,by omega,GT.two (Or.inr (by decide)) v3 w3,?_⟩;simp only [jd,e1,e4,e5,List.getElem?_cons_zero,List.getElem?_cons_succ,yx];rw [<-jlE];rfl
 ·refine ⟨a4,s4,.mk [112] [t4],by omega,by omega,GT.one (by decide) v3,?_⟩;simp only [jd,e1,y0,y1,y2,y3,y4,e4,List.getElem?_cons_zero,List.getElem?_cons_succ,yx];rw [<-jtX];rfl
theorem jdU (a s:Int) (h0:0<=a) (h1:a<=999980000):LtD code 41 a (jlN (kG code) (vi a) (vu s)):=by
 obtain ⟨a1,s1,b,q1,q2,e1⟩:=qp hb 2 (by decide) (by decide) a s h0 (by omega);obtain ⟨a2,s2,t,r1,r2,r3,e2⟩:=jpk hb a1 s1 (by omega) (by omega);refine ⟨a2,s2,(b,t),by omega,by omega,r3,?_⟩;rw [jxn];simp only [jd,e1,e2,List.getElem?_cons_zero,List.getElem?_cons_succ,yx]
end
theorem Zf (ls:List Lt) (l:Lt):jL (ls.map jC) [jC l]=(ls++[l]).map jC:=by rw [List.map_append];rfl
def LsD (code:List Int) (m q:Nat) (a:Int) (o:Option Out):Prop:=∃a' s' ls,a<=a'/\a'<=a+(q:Nat)/\List.length ls<=m/\(∀l∈ls,LV l)/\o=some (.top,[kG code,vi a',vu s',.sl 3 (List.map jC ls)])
section
variable {code:List Int} (hb:By code)
include hb
theorem jnS:∀(k:Nat) (ls:List Lt),ls.length+k<=10->(∀l∈ls,LV l)-> ∀a s:Int,0<=a->a<=999970000 - 41 * (k:Nat)->LsD code (ls.length+k+1) (41 * k+2) a (YH (vi (k:Nat)) (kG code) (vi a) (vu s) (ls.map jC)):=by
 intro k;induction k with
 | zero=>
  intro ls hl hls a s h0 h1;have hgt:¬(0:Int) < ((0:Nat):Int):=by decide
  by_cases hp:0 < ls.length
  ·have hp':(0:Int) < ((ls.length:Nat):Int):=by omega
   obtain ⟨a1,s1,b,q1,q2,e1⟩:=qp hb 8 (by decide) (by decide) a s h0 (by omega);cases b with
   | false=>
    refine ⟨a1,s1,ls,q1,by omega,by omega,hls,?_⟩;rw [jcF];simp only [jd,hgt,hp',e1,List.getElem?_cons_zero,List.getElem?_cons_succ]
   | true=>
    obtain ⟨a2,s2,x,r1,r2,x0,x1,e2⟩:=zO hb ((ls.length:Nat):Int) (by omega) (by omega) a1 s1 (by omega) (by omega);obtain ⟨i,rfl⟩:∃i:Nat,x=(i:Nat):=⟨x.toNat,by omega⟩;have hi:i < ls.length:=by omega
    have i1:Ke ls.length (vi ((i:Nat):Int))=some i:=zi hi;have i2:=jaI hi;have hv:=hls _ (List.getElem_mem hi);generalize ls[i]=y at i2 hv;have o1:=QI y.2 (by have:=hv.tsz;omega);have o1:G 102 [.agg [sv y.2.name,jY y.2.args]]=some (.agg [sv y.2.name,jY y.2.args],[]):=o1;have f1:jB (ls.length+1) 48=true:=J0 (by omega);refine ⟨a2,s2,ls++[(!y.1,y.2)],by omega,by omega,by rw [List.length_append,List.length_singleton];omega,λl h=> ?_,?_⟩
    ·rcases List.mem_append.1 h with h|h
     ·exact hls l h
     ·rw [List.mem_singleton.1 h];exact hv
    rw [<-Zf];rw [jcF];have i2:z7 (ls.map jC) i 0 3=some (.agg [vb y.1,sv y.2.name,jY y.2.args]):=i2;have rl:jh (ls.map jC)=ls.length:=by unfold jh;exact List.length_map ..
    simp only [jd,hgt,hp',e1,e2,i1,i2,o1,List.getElem?_cons_zero,List.getElem?_cons_succ];generalize hB:j7 _ _ _=B;have hB':B=some (.agg [vb (!y.1),sv y.2.name,jY y.2.args]):=by rw [<-hB];kernel_rfl
    rw [hB'];simp only [jd,f1]
  ·have hp':¬(0:Int) < ((ls.length:Nat):Int):=by omega
   refine ⟨a,s,ls,by omega,by omega,by omega,hls,?_⟩;rw [jcF];simp only [jd,hgt,hp',List.getElem?_cons_zero,List.getElem?_cons_succ]
 | succ k ih=>
  intro ls hl hls a s h0 h1;have hgt:(0:Int) < ((k+1:Nat):Int):=by omega
  have c1:ck (((k+1:Nat):Int) - 1)=some (vi (k:Nat)):=by rw [show ((k+1:Nat):Int) - 1=(k:Nat) by omega];exact jG (by omega) (by omega)
  obtain ⟨a1,s1,l,q1,q2,hv,e1⟩:=jdU hb a s h0 (by omega);have f1:jB (ls.length+1) 48=true:=J0 (by omega);obtain ⟨a2,s2,us,r1,r2,r3,r4,e2⟩:=ih (ls++[l]) (by rw [List.length_append,List.length_singleton];omega) (λy h=>by
   rcases List.mem_append.1 h with h|h
   ·exact hls y h
   ·rw [List.mem_singleton.1 h];exact hv) a1 s1 (by omega) (by omega)
  rw [<-Zf] at e2;rw [List.length_append,List.length_singleton] at r3;refine ⟨a2,s2,us,by omega,by omega,by omega,r4,?_⟩;rw [jcF];have e2:YH (vi (k:Nat)) (kG code) (vi a1) (vu s1) (jL (ls.map jC) [[vb l.1,sv l.2.name,jY l.2.args]])=_:=e2;simp only [jd,hgt,e1,f1,c1,e2,List.getElem?_cons_zero,List.getElem?_cons_succ,jth]
theorem jbU (m:Nat) (hm:m<=9) (a s:Int) (h0:0<=a) (h1:a<=999960000):LsD code (m+1) 500 a (je5 (vi (m:Nat)) (kG code) (vi a) (vu s)):=by
 have c1:ck (((m:Nat):Int)+1)=some (vi ((m:Nat)+1)):=jG (by omega) (by omega);obtain ⟨a1,s1,x,q1,q2,x0,x1,e1⟩:=zO hb (((m:Nat):Int)+1) (by omega) (by omega) a s h0 (by omega);obtain ⟨k,rfl⟩:∃k:Nat,x=(k:Nat):=⟨x.toNat,by omega⟩;obtain ⟨a2,s2,ls,r1,r2,r3,r4,e2⟩:=jnS hb k [] (by rw [List.length_nil];omega) (λl h=>by cases h) a1 s1 (by omega) (by omega);rw [List.length_nil] at r3;refine ⟨a2,s2,ls,by omega,by omega,by omega,r4,?_⟩;have e2:YH (vi (k:Nat)) (kG code) (vi a1) (vu s1) []=_:=e2;rw [jxr];simp only [jd,c1,e1,e2,List.getElem?_cons_zero,List.getElem?_cons_succ]
end
end Go.Proofs.YtdbgbieenhcldaaGreatDoor
