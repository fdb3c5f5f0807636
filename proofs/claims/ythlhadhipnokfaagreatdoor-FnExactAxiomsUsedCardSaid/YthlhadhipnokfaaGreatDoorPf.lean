/- Pf -/
import Derived.Test.YthlhadhipnokfaaGreatDoorPe
import Derived.Test.YthlhadhipnokfaaGreatDoorPd
namespace Go.Proofs.YthlhadhipnokfaaGreatDoor
open Go Go.RowKit Go.Proofs.YthlhadhipnokfaaGreatDoor.Abs
set_option linter.unusedSimpArgs false
set_option linter.unusedVariables false
set_option maxHeartbeats 1000000
theorem jC9(s:jw)(W:Jy)(off:Nat)(hW:W.length<=1000)(x y:T)(hl:x.args.length=y.args.length)(h4:x.args.length<=4) :
  jm1 (nA off) (nA (W.length-off)) (vb true) (vi 0) (ZN s) (sv x.name) (jG x.args) (sv y.name) (jG y.args) (W.map ec) [] [] []=jfG (ZN s) ((x.args.zip y.args++W.drop off).map ec) [] []:=by
 have h1:zq (nA off)=off:=rfl;have h2:zq (nA (W.length-off))=W.length-off:=rfl;have hend:jM (((x.args.zip y.args).map ec).length+((W.drop off).map ec).length) 80=true:=by
  rw[List.length_map,List.length_map,List.length_zip,List.length_drop];exact jhf (by omega)
 have hzl:((x.args.zip y.args).map ec).length=x.args.length:=by rw[List.length_map,List.length_zip];omega
 have happ:jR ((x.args.zip y.args).map ec) ((W.drop off).map ec)=(x.args.zip y.args++W.drop off).map ec:=by rw[List.map_append];rfl
 have step:∀i,(hi:i<x.args.length)->(hi2:i<y.args.length)->jR (((x.args.zip y.args).take i).map ec) [[sv x.args[i].name,jG x.args[i].args,sv y.args[i].name,jG y.args[i].args]]=((x.args.zip y.args).take (i+1)).map ec:=λi hi hi2=>jfv hi hi2;have key:=upto (P:=λi=>jsw (nA off) (nA (W.length-off)) (vb true) (vi (i:Nat)) (ZN s) (sv x.name) (jG x.args) (sv y.name) (jG y.args) (W.map ec) (((x.args.zip y.args).take i).map ec) [] []=jfG (ZN s) ((x.args.zip y.args++W.drop off).map ec) [] []) (n:=x.args.length) ?_ ?_
 .have hend2:(x.args.zip y.args).take x.args.length=x.args.zip y.args:=yN (by rw[List.length_zip];omega)
  rw[jF9];by_cases h0:0<x.args.length
  .have hi:=h0;have hi2:0<y.args.length:=by omega
   have hlt:(0:Int)<((x.args.length:Nat):Int):=by omega
   have ix:=ja (k:=2) (f:=jm) hi;have ix2:=ja (k:=2) (f:=jm) hi2;have ta:=step 0 hi hi2;simp only[List.take_zero,List.map_nil,Int.natCast_zero,yd]at ta ix ix2;have hf:jM 1 80=true:=jhf (by omega);have hck:ck (0+1)=some (vi ((1:Nat):Int)):=jV (n:=0+1) (by omega) (by omega);have key:=key 1 (by omega);rw[<-key];simp only[je,hlt,ix,ix2,jd,hf,hck,h1,h2];generalize hB:zH _ _ _=B;have hB':B=some (.agg [sv x.args[0].name,jG x.args[0].args,sv y.args[0].name,jG y.args[0].args]):=by rw[<-hB];kernel_rfl
   rw[hB'];simp only[je,ta]
  .have hlt:¬(0:Int)<((x.args.length:Nat):Int):=by omega
   have he:x.args=[]:=jfw (by omega);have hz:x.args.zip y.args=[]:=by rw[he];rfl
   rw[hz]at hend happ⊢;have hend:jM ((W.drop off).map ec).length 80=true:=by simpa using hend
   have happ:jR [] ((W.drop off).map ec)=(W.drop off).map ec:=rfl;simp only[je,hlt,h1,h2,jck,yF];rw[List.length_map]at hend;simp only[je,hend,happ]
 .have hend2:(x.args.zip y.args).take x.args.length=x.args.zip y.args:=yN (by rw[List.length_zip];omega)
  rw[hend2,jzr];have hlt:¬((x.args.length:Nat):Int)<((x.args.length:Nat):Int):=by omega
  rw[hzl,List.length_map]at hend;simp only[je,hlt,h1,h2,jck,happ];rw[List.length_zip,Nat.min_eq_left (by omega)];simp only[je,hend]
 .intro i hi ih;have hi2:i<y.args.length:=by omega
  have hlt:((i:Nat):Int)<((x.args.length:Nat):Int):=by omega
  have ta:=step i hi hi2;have li:(((x.args.zip y.args).take i).map ec).length=i:=take_len (by rw[List.length_zip];omega);have hf:jM (i+1) 80=true:=jhf (by omega);have hck:ck ((i:Int)+1)=some (vi ((i+1:Nat):Int)):=jV (by omega) (by omega);generalize ((x.args.zip y.args).take i).map ec=R at *;rw[jzr,<-ih];simp only[je,hlt,ja hi,ja hi2,jd];generalize hB:zH _ _ _=B;have hB':B=some (.agg [sv x.args[i].name,jG x.args[i].args,sv y.args[i].name,jG y.args[i].args]):=by rw[<-hB];kernel_rfl
  rw[hB'];simp only[je,li,hf,ta,hck,h1,h2]
theorem jC8(W:Jy)(off:Nat)(hW:W.length<=1000)(x y:T)(hl:x.args.length=y.args.length)(h4:x.args.length<=4) :
  jm0 (nA off) (nA (W.length-off)) (vb true) (vi 0) (sv x.name) (jG x.args) (sv y.name) (jG y.args) (W.map ec) [] [] [] []=jdq ((x.args.zip y.args++W.drop off).map ec) [] [] []:=by
 have h1:zq (nA off)=off:=rfl;have h2:zq (nA (W.length-off))=W.length-off:=rfl;have hend:jM (((x.args.zip y.args).map ec).length+((W.drop off).map ec).length) 80=true:=by
  rw[List.length_map,List.length_map,List.length_zip,List.length_drop];exact jhf (by omega)
 have hzl:((x.args.zip y.args).map ec).length=x.args.length:=by rw[List.length_map,List.length_zip];omega
 have happ:jR ((x.args.zip y.args).map ec) ((W.drop off).map ec)=(x.args.zip y.args++W.drop off).map ec:=by rw[List.map_append];rfl
 have step:∀i,(hi:i<x.args.length)->(hi2:i<y.args.length)->jR (((x.args.zip y.args).take i).map ec) [[sv x.args[i].name,jG x.args[i].args,sv y.args[i].name,jG y.args[i].args]]=((x.args.zip y.args).take (i+1)).map ec:=λi hi hi2=>jfv hi hi2;have key:=upto (P:=λi=>jsv (nA off) (nA (W.length-off)) (vb true) (vi (i:Nat)) (sv x.name) (jG x.args) (sv y.name) (jG y.args) (W.map ec) (((x.args.zip y.args).take i).map ec) [] [] []=jdq ((x.args.zip y.args++W.drop off).map ec) [] [] []) (n:=x.args.length) ?_ ?_
 .have hend2:(x.args.zip y.args).take x.args.length=x.args.zip y.args:=yN (by rw[List.length_zip];omega)
  rw[jF8];by_cases h0:0<x.args.length
  .have hi:=h0;have hi2:0<y.args.length:=by omega
   have hlt:(0:Int)<((x.args.length:Nat):Int):=by omega
   have ix:=ja (k:=2) (f:=jm) hi;have ix2:=ja (k:=2) (f:=jm) hi2;have ta:=step 0 hi hi2;simp only[List.take_zero,List.map_nil,Int.natCast_zero,yd]at ta ix ix2;have hf:jM 1 80=true:=jhf (by omega);have hck:ck (0+1)=some (vi ((1:Nat):Int)):=jV (n:=0+1) (by omega) (by omega);have key:=key 1 (by omega);rw[<-key];simp only[je,hlt,ix,ix2,jd,hf,hck,h1,h2];generalize hB:zH _ _ _=B;have hB':B=some (.agg [sv x.args[0].name,jG x.args[0].args,sv y.args[0].name,jG y.args[0].args]):=by rw[<-hB];kernel_rfl
   rw[hB'];simp only[je,ta]
  .have hlt:¬(0:Int)<((x.args.length:Nat):Int):=by omega
   have he:x.args=[]:=jfw (by omega);have hz:x.args.zip y.args=[]:=by rw[he];rfl
   rw[hz]at hend happ⊢;have hend:jM ((W.drop off).map ec).length 80=true:=by simpa using hend
   have happ:jR [] ((W.drop off).map ec)=(W.drop off).map ec:=rfl;simp only[je,hlt,h1,h2,jck,yF];rw[List.length_map]at hend;simp only[je,hend,happ]
 .have hend2:(x.args.zip y.args).take x.args.length=x.args.zip y.args:=yN (by rw[List.length_zip];omega)
  rw[hend2,jzq];have hlt:¬((x.args.length:Nat):Int)<((x.args.length:Nat):Int):=by omega
  rw[hzl,List.length_map]at hend;simp only[je,hlt,h1,h2,jck,happ];rw[List.length_zip,Nat.min_eq_left (by omega)];simp only[je,hend]
 .intro i hi ih;have hi2:i<y.args.length:=by omega
  have hlt:((i:Nat):Int)<((x.args.length:Nat):Int):=by omega
  have ta:=step i hi hi2;have li:(((x.args.zip y.args).take i).map ec).length=i:=take_len (by rw[List.length_zip];omega);have hf:jM (i+1) 80=true:=jhf (by omega);have hck:ck ((i:Int)+1)=some (vi ((i+1:Nat):Int)):=jV (by omega) (by omega);generalize ((x.args.zip y.args).take i).map ec=R at *;rw[jzq,<-ih];simp only[je,hlt,ja hi,ja hi2,jd];generalize hB:zH _ _ _=B;have hB':B=some (.agg [sv x.args[i].name,jG x.args[i].args,sv y.args[i].name,jG y.args[i].args]):=by rw[<-hB];kernel_rfl
  rw[hB'];simp only[je,li,hf,ta,hck,h1,h2]
def USS(s:jw)(es:Jy)(o:Xe):Prop:=
 (∀(W:Jy)(off:Nat),W.drop off=es->off<=W.length->W.length<=1000->Q5 (nA off) (nA (W.length-off)) (ZN s) (W.map ec) [] []=o)/\jfG (ZN s) (es.map ec) [] []=o/\
 (s=[]->(∀(W:Jy)(off:Nat),W.drop off=es->off<=W.length->W.length<=1000->jh8 (nA off) (nA (W.length-off)) (W.map ec) [] [] []=o)/\jdq (es.map ec) [] [] []=o)
theorem jIJ(k:Nat)(ih:∀(s:jw)(es:Jy)(res:Option jw),K6 s es->Hgt s 126 es->zh k s es=some res->USS s es (qc res))(s:jw)(l r:T)(rest:Jy)(hi:K6 s ((l,r)::rest))(hg:Hgt s 126 ((l,r)::rest))(res:Option jw)(hu:zh (k+1) s ((l,r)::rest)=some res)(W:Jy)(off:Nat)(hW:W.drop off=(l,r)::rest)(hlen:W.length<=1000):Q5 (nA off) (nA (W.length-off)) (ZN s) (W.map ec) [] []=qc res:=by
 obtain⟨d1,d2,d3⟩:=Kh hW;obtain⟨r1,r2⟩:=jb5 d1;obtain⟨al,ar,nl,nr⟩:=jaL hi;have hv:=hi.1;have e1:=YZ s hv l al (by omega);have e2:=YZ s hv r ar (by omega);have w1:zq (nA off)=off:=rfl;have w2:zq (nA (W.length-off))=W.length-off:=rfl;have g1:jy .gtr false (nA (W.length-off)) (vi 0)=some (vb true):=by
  show some (vb (decide ((0:Int)<((W.length-off:Nat):Int))))=_;rw[decide_eq_true (by omega)]
 have g2:Zt (W.length-off) (vi 0)=some 0:=zg (i:=0) (by omega);have g3:pB (W.length-off) (zj (W.map ec) off) none=some (W.length-off):=by
  rw[show zj (W.map ec) off=W.length-off by rw[yu,List.length_map]];exact zn (j4 _)
 have g4:pB 0 (W.length-off) (some (vi 1))=some 1:=yW (n:=1) (by omega);have hn:kz (W.length-off) 1=W.length-(off+1):=by unfold kz;omega
 rw[js3];cases sl:jF (sub s l)<;>rw[sl]at e1
 .have e1:G 211 [sb s,tm l]=some (.tup [.agg [sv [],.sl 2 []],vb false],[]):=e1;have hr:res=none:=kN (by unfold yM;rw[jg (Or.inl sl)]) hu;subst hr;obtain⟨q,e2⟩:∃q:T×Bool,G 211 [sb s,tm r]=some (.tup [tm q.1,vb q.2],[]):=by
   cases h:jF (sub s r)<;>rw[h]at e2
   .exact ⟨(.mk [] [],false),e2⟩
   .exact ⟨(sub s r,true),e2⟩
  simp only[je,w1,w2,g1,g2,g3,g4,j6,r1,r2,e1,e2];rfl
 have e1:G 211 [sb s,tm l]=some (.tup [tm (sub s l),vb true],[]):=e1;cases sr:jF (sub s r)<;>rw[sr]at e2
 .have e2:G 211 [sb s,tm r]=some (.tup [.agg [sv [],.sl 2 []],vb false],[]):=e2;have hr:res=none:=kN (by unfold yM;rw[jg (Or.inr sr)]) hu;subst hr;simp only[je,w1,w2,g1,g2,g3,g4,j6,r1,r2,e1,e2];rfl
 have e2:G 211 [sb s,tm r]=some (.tup [tm (sub s r),vb true],[]):=e2;have xl:YY (sub s l):=YY.sub hv al;have xr:YY (sub s r):=YY.sub hv ar;have ml:=zM sl;have mr:=zM sr;have tl:=xl.tz (by omega);have tr:=xr.tz (by omega);have e3:=Kd (sub s l) tl.wf (sub s r) tr.wf;have ll:=(j5 hv).1;cases hd:dq (sub s l) (sub s r)<;>rw[hd]at e3
 rotate_left
 .have hst:=jcM (rest:=rest) sl sr hd;have hnext:=ih _ _ res (ym hi hst).1 (qO hi hg hst) (yC hst hu);have hnext:=hnext.1 W (off+1) d2 (by omega) hlen;simp only[je,w1,w2,g1,g2,g3,g4,j6,r1,r2,e1,e2,e3,hn];exact hnext
 have v1:=zL (sub s l).name ((kE _).1 tl.wf).1;have v2:=zL (sub s r).name ((kE _).1 tr.wf).1;have bindC:js (sub s l).name=true\/js (sub s r).name=true-> ∃q2:Bool,∃u:jw,G 212 [sb s,sv (jE (sub s l) (sub s r)).1,tm (jE (sub s l) (sub s r)).2]=some (.tup [sb u,vb q2],[])/\(q2=false->qc res=qc none)/\(q2=true->Q5 (nA (off+1)) (nA (W.length-(off+1))) (ZN u) (W.map ec) [] []=qc res):=by
  intro hvar;have hst:=jcK (rest:=rest) sl sr hd hvar;obtain⟨bv,hor⟩:=jiz hvar;have bz:Tz (jE (sub s l) (sub s r)).2:=hor.elim (λh=>by rw[h.2];exact tl) λh=>by rw[h.2];exact tr
  have bk:(jE (sub s l) (sub s r)).1∈kL (jE (sub s l) (sub s r)).2\/(jE (sub s l) (sub s r)).2.name≠(jE (sub s l) (sub s r)).1:=by
   by_cases hnm:(jE (sub s l) (sub s r)).2.name=(jE (sub s l) (sub s r)).1
   .left;rw[vsv (by rw[hnm];exact bv),hnm];simp
   .exact Or.inr hnm
  obtain⟨z,eb⟩:=jlC s hv _ _ bv bz bk;rw[<-Bool.and_assoc]at eb;cases hc:(!decide ((jE (sub s l) (sub s r)).1∈kL (jE (sub s l) (sub s r)).2) && jL [jE (sub s l) (sub s r)]) && jL (zz s [jE (sub s l) (sub s r)])
  .rw [hc,jh Bool.false_ne_true]at hst;have eb:=eb.trans (by rw[show((jE (sub s l) (sub s r)).1,(jE (sub s l) (sub s r)).2)=jE (sub s l) (sub s r) from rfl,hc,jh Bool.false_ne_true]);exact⟨false,z,eb,λ_=>by rw[kN hst hu],λh=>by cases h⟩
  .rw [hc,jg rfl]at hst;have eb:=eb.trans (by rw[show((jE (sub s l) (sub s r)).1,(jE (sub s l) (sub s r)).2)=jE (sub s l) (sub s r) from rfl,hc,jg rfl]);refine⟨true,_,eb,(λh=>by cases h),λ_=>?_⟩;have hnext:=ih _ _ res (ym hi hst).1 (qO hi hg hst) (yC hst hu);exact hnext.1 W (off+1) d2 (by omega) hlen
 cases vl:js (sub s l).name<;>rw[vl]at v1
 rotate_left
 .cases vr:js (sub s r).name<;>rw[vr]at v2
  .obtain ⟨q2,u,b1,b2,b3⟩:=bindC (Or.inl vl);have hbd:jE (sub s l) (sub s r)=((sub s l).name,sub s r):=jh (by rw[vl,vr];simp);rw[hbd]at b1;cases q2
   .rw [b2 rfl];simp only[je,w1,w2,g1,g2,g3,g4,j6,r1,r2,e1,e2,e3,v1,v2,b1];rfl
   .rw [<-b3 rfl];simp only[je,w1,w2,g1,g2,g3,g4,j6,r1,r2,e1,e2,e3,v1,v2,b1,hn]
  .cases hc:yK (sub s l).name (sub s r).name
   .obtain ⟨q2,u,b1,b2,b3⟩:=bindC (Or.inl vl);have hbd:jE (sub s l) (sub s r)=((sub s l).name,sub s r):=jh (by rw[vl,vr,hc];simp);rw[hbd]at b1;cases q2
    .rw [b2 rfl];simp only[je,w1,w2,g1,g2,g3,g4,j6,r1,r2,e1,e2,e3,v1,v2,hc,b1];rfl
    .rw [<-b3 rfl];simp only[je,w1,w2,g1,g2,g3,g4,j6,r1,r2,e1,e2,e3,v1,v2,hc,b1,hn]
   .obtain ⟨q2,u,b1,b2,b3⟩:=bindC (Or.inl vl);have hbd:jE (sub s l) (sub s r)=((sub s r).name,sub s l):=jg (Or.inr ⟨vr,hc⟩);rw[hbd]at b1;cases q2
    .rw [b2 rfl];simp only[je,w1,w2,g1,g2,g3,g4,j6,r1,r2,e1,e2,e3,v1,v2,hc,b1];rfl
    .rw [<-b3 rfl];simp only[je,w1,w2,g1,g2,g3,g4,j6,r1,r2,e1,e2,e3,v1,v2,hc,b1,hn]
 cases vr:js (sub s r).name<;>rw[vr]at v2
 rotate_left
 .obtain ⟨q2,u,b1,b2,b3⟩:=bindC (Or.inr vr);have hbd:jE (sub s l) (sub s r)=((sub s r).name,sub s l):=jg (Or.inl vl);rw[hbd]at b1;cases q2
  .rw [b2 rfl];simp only[je,w1,w2,g1,g2,g3,g4,j6,r1,r2,e1,e2,e3,v1,v2,b1];rfl
  .rw [<-b3 rfl];simp only[je,w1,w2,g1,g2,g3,g4,j6,r1,r2,e1,e2,e3,v1,v2,b1,hn]
 have hst:=jcL (rest:=rest) sl sr hd vl vr;by_cases hnm:(sub s l).name=(sub s r).name;rotate_left
 .rw [jh (λh=>hnm h.1)]at hst;have hnd:=decide_eq_false hnm;rw[kN hst hu];simp only[je,w1,w2,g1,g2,g3,g4,j6,r1,r2,e1,e2,e3,v1,v2,hnd];rfl
 have hnd:=decide_eq_true hnm;by_cases hal:(sub s l).args.length=(sub s r).args.length;rotate_left
 .rw [jh (λh=>hal h.2)]at hst;have hal':decide ((((sub s l).args.length:Nat):Int)=(((sub s r).args.length:Nat):Int))=false:=decide_eq_false (by omega);rw[kN hst hu];simp only[je,w1,w2,g1,g2,g3,g4,j6,r1,r2,e1,e2,e3,v1,v2,hnd,hal'];rfl
 rw[jg ⟨hnm,hal⟩]at hst;have hnext:=ih _ _ res (ym hi hst).1 (qO hi hg hst) (yC hst hu);have hnext:=hnext.2.1;have hin:=jC9 s W (off+1) hlen (sub s l) (sub s r) hal (jeY xl);rw[d2]at hin;rw[hnext]at hin;have hal':decide ((((sub s l).args.length:Nat):Int)=(((sub s r).args.length:Nat):Int))=true:=decide_eq_true (by omega);simp only[je,w1,w2,g1,g2,g3,g4,j6,r1,r2,e1,e2,e3,v1,v2,hnd,hal',hn];exact hin
theorem jL5(k:Nat)(ih:∀(s:jw)(es:Jy)(res:Option jw),K6 s es->Hgt s 126 es->zh k s es=some res->USS s es (qc res))(s:jw)(l r:T)(rest:Jy)(hi:K6 s ((l,r)::rest))(hg:Hgt s 126 ((l,r)::rest))(res:Option jw)(hu:zh (k+1) s ((l,r)::rest)=some res)(W:Jy)(hW:W=(l,r)::rest)(hlen:W.length<=1000):jfG (ZN s) (W.map ec) [] []=qc res:=by
 have hW0:W.drop 0=(l,r)::rest:=hW;rw[<-jIJ k ih s l r rest hi hg res hu W 0 hW0 hlen];obtain⟨d1,d2,d3⟩:=Kh hW0;obtain⟨r1,r2⟩:=jb5 d1;have w1:zq (nA 0)=0:=rfl;have w2:zq (nA W.length)=W.length:=rfl;have f1:jy .gtr false (nA W.length) (vi 0)=some (vb true):=by
  show some (vb (decide ((0:Int)<((W.length:Nat):Int))))=_;rw[decide_eq_true (by omega)]
 have f3:pB W.length (zj (W.map ec) 0) none=some W.length:=by
  rw[show zj (W.map ec) 0=W.length by rw[yu,List.length_map];rfl];exact zn (j4 _)
 have g2:Zt W.length (vi 0)=some 0:=zg (i:=0) (by omega);have g3:pB (zX (W.map ec)) (zj (W.map ec) 0) none=some W.length:=by
  rw[yf,f3]
 have g4:pB 0 W.length (some (vi 1))=some 1:=yW (n:=1) (by omega);have g0:(0:Int)<((W.length:Nat):Int):=by omega
 rw[jzs,js3,Nat.sub_zero];simp only[je,w1,w2,f1,f3,g0,g2,g3,g4,r1,r2]
theorem jII(k:Nat)(ih:∀(s:jw)(es:Jy)(res:Option jw),K6 s es->Hgt s 126 es->zh k s es=some res->USS s es (qc res))(l r:T)(rest:Jy)(hi:K6 [] ((l,r)::rest))(hg:Hgt [] 126 ((l,r)::rest))(res:Option jw)(hu:zh (k+1) [] ((l,r)::rest)=some res)(W:Jy)(off:Nat)(hW:W.drop off=(l,r)::rest)(hlen:W.length<=1000):jh8 (nA off) (nA (W.length-off)) (W.map ec) [] [] []=qc res:=by
 obtain⟨d1,d2,d3⟩:=Kh hW;obtain⟨r1,r2⟩:=jb5 d1;obtain⟨al,ar,nl,nr⟩:=jaL hi;have hv:=hi.1;have e1:=YZ [] hv l al (by omega);have e2:=YZ [] hv r ar (by omega);have w1:zq (nA off)=off:=rfl;have w2:zq (nA (W.length-off))=W.length-off:=rfl;have g1:jy .gtr false (nA (W.length-off)) (vi 0)=some (vb true):=by
  show some (vb (decide ((0:Int)<((W.length-off:Nat):Int))))=_;rw[decide_eq_true (by omega)]
 have g2:Zt (W.length-off) (vi 0)=some 0:=zg (i:=0) (by omega);have g3:pB (W.length-off) (zj (W.map ec) off) none=some (W.length-off):=by
  rw[show zj (W.map ec) off=W.length-off by rw[yu,List.length_map]];exact zn (j4 _)
 have g4:pB 0 (W.length-off) (some (vi 1))=some 1:=yW (n:=1) (by omega);have hn:kz (W.length-off) 1=W.length-(off+1):=by unfold kz;omega
 rw[js2];cases sl:jF (sub [] l)<;>rw[sl]at e1
 .have e1:G 211 [.agg [.sl 3 []],tm l]=some (.tup [.agg [sv [],.sl 2 []],vb false],[]):=e1;have hr:res=none:=kN (by unfold yM;rw[jg (Or.inl sl)]) hu;subst hr;obtain⟨q,e2⟩:∃q:T×Bool,G 211 [.agg [.sl 3 []],tm r]=some (.tup [tm q.1,vb q.2],[]):=by
   cases h:jF (sub [] r)<;>rw[h]at e2
   .exact ⟨(.mk [] [],false),e2⟩
   .exact ⟨(sub [] r,true),e2⟩
  simp only[je,w1,w2,g1,g2,g3,g4,j6,r1,r2,e1,e2];rfl
 have e1:G 211 [.agg [.sl 3 []],tm l]=some (.tup [tm (sub [] l),vb true],[]):=e1;cases sr:jF (sub [] r)<;>rw[sr]at e2
 .have e2:G 211 [.agg [.sl 3 []],tm r]=some (.tup [.agg [sv [],.sl 2 []],vb false],[]):=e2;have hr:res=none:=kN (by unfold yM;rw[jg (Or.inr sr)]) hu;subst hr;simp only[je,w1,w2,g1,g2,g3,g4,j6,r1,r2,e1,e2];rfl
 have e2:G 211 [.agg [.sl 3 []],tm r]=some (.tup [tm (sub [] r),vb true],[]):=e2;have xl:YY (sub [] l):=YY.sub hv al;have xr:YY (sub [] r):=YY.sub hv ar;have ml:=zM sl;have mr:=zM sr;have tl:=xl.tz (by omega);have tr:=xr.tz (by omega);have e3:=Kd (sub [] l) tl.wf (sub [] r) tr.wf;have ll:=(j5 hv).1;cases hd:dq (sub [] l) (sub [] r)<;>rw[hd]at e3
 rotate_left
 .have hst:=jcM (rest:=rest) sl sr hd;have hnext:=ih _ _ res (ym hi hst).1 (qO hi hg hst) (yC hst hu);have hnext:=(hnext.2.2 rfl).1 W (off+1) d2 (by omega) hlen;simp only[je,w1,w2,g1,g2,g3,g4,j6,r1,r2,e1,e2,e3,hn];exact hnext
 have v1:=zL (sub [] l).name ((kE _).1 tl.wf).1;have v2:=zL (sub [] r).name ((kE _).1 tr.wf).1;have bindC:js (sub [] l).name=true\/js (sub [] r).name=true-> ∃q2:Bool,∃u:jw,G 212 [.agg [.sl 3 []],sv (jE (sub [] l) (sub [] r)).1,tm (jE (sub [] l) (sub [] r)).2]=some (.tup [sb u,vb q2],[])/\(q2=false->qc res=qc none)/\(q2=true->Q5 (nA (off+1)) (nA (W.length-(off+1))) (ZN u) (W.map ec) [] []=qc res):=by
  intro hvar;have hst:=jcK (rest:=rest) sl sr hd hvar;obtain⟨bv,hor⟩:=jiz hvar;have bz:Tz (jE (sub [] l) (sub [] r)).2:=hor.elim (λh=>by rw[h.2];exact tl) λh=>by rw[h.2];exact tr
  have bk:(jE (sub [] l) (sub [] r)).1∈kL (jE (sub [] l) (sub [] r)).2\/(jE (sub [] l) (sub [] r)).2.name≠(jE (sub [] l) (sub [] r)).1:=by
   by_cases hnm:(jE (sub [] l) (sub [] r)).2.name=(jE (sub [] l) (sub [] r)).1
   .left;rw[vsv (by rw[hnm];exact bv),hnm];simp
   .exact Or.inr hnm
  obtain⟨z,eb⟩:=jlC [] hv _ _ bv bz bk;rw[<-Bool.and_assoc]at eb;cases hc:(!decide ((jE (sub [] l) (sub [] r)).1∈kL (jE (sub [] l) (sub [] r)).2) && jL [jE (sub [] l) (sub [] r)]) && jL (zz [] [jE (sub [] l) (sub [] r)])
  .rw [hc,jh Bool.false_ne_true]at hst;have eb:=eb.trans (by rw[show((jE (sub [] l) (sub [] r)).1,(jE (sub [] l) (sub [] r)).2)=jE (sub [] l) (sub [] r) from rfl,hc,jh Bool.false_ne_true]);exact⟨false,z,eb,λ_=>by rw[kN hst hu],λh=>by cases h⟩
  .rw [hc,jg rfl]at hst;have eb:=eb.trans (by rw[show((jE (sub [] l) (sub [] r)).1,(jE (sub [] l) (sub [] r)).2)=jE (sub [] l) (sub [] r) from rfl,hc,jg rfl]);refine⟨true,_,eb,(λh=>by cases h),λ_=>?_⟩;have hnext:=ih _ _ res (ym hi hst).1 (qO hi hg hst) (yC hst hu);exact hnext.1 W (off+1) d2 (by omega) hlen
 cases vl:js (sub [] l).name<;>rw[vl]at v1
 rotate_left
 .cases vr:js (sub [] r).name<;>rw[vr]at v2
  .obtain ⟨q2,u,b1,b2,b3⟩:=bindC (Or.inl vl);have hbd:jE (sub [] l) (sub [] r)=((sub [] l).name,sub [] r):=jh (by rw[vl,vr];simp);rw[hbd]at b1;cases q2
   .rw [b2 rfl];simp only[je,w1,w2,g1,g2,g3,g4,j6,r1,r2,e1,e2,e3,v1,v2,b1];rfl
   .rw [<-b3 rfl];simp only[je,w1,w2,g1,g2,g3,g4,j6,r1,r2,e1,e2,e3,v1,v2,b1,hn]
  .cases hc:yK (sub [] l).name (sub [] r).name
   .obtain ⟨q2,u,b1,b2,b3⟩:=bindC (Or.inl vl);have hbd:jE (sub [] l) (sub [] r)=((sub [] l).name,sub [] r):=jh (by rw[vl,vr,hc];simp);rw[hbd]at b1;cases q2
    .rw [b2 rfl];simp only[je,w1,w2,g1,g2,g3,g4,j6,r1,r2,e1,e2,e3,v1,v2,hc,b1];rfl
    .rw [<-b3 rfl];simp only[je,w1,w2,g1,g2,g3,g4,j6,r1,r2,e1,e2,e3,v1,v2,hc,b1,hn]
   .obtain ⟨q2,u,b1,b2,b3⟩:=bindC (Or.inl vl);have hbd:jE (sub [] l) (sub [] r)=((sub [] r).name,sub [] l):=jg (Or.inr ⟨vr,hc⟩);rw[hbd]at b1;cases q2
    .rw [b2 rfl];simp only[je,w1,w2,g1,g2,g3,g4,j6,r1,r2,e1,e2,e3,v1,v2,hc,b1];rfl
    .rw [<-b3 rfl];simp only[je,w1,w2,g1,g2,g3,g4,j6,r1,r2,e1,e2,e3,v1,v2,hc,b1,hn]
 cases vr:js (sub [] r).name<;>rw[vr]at v2
 rotate_left
 .obtain ⟨q2,u,b1,b2,b3⟩:=bindC (Or.inr vr);have hbd:jE (sub [] l) (sub [] r)=((sub [] r).name,sub [] l):=jg (Or.inl vl);rw[hbd]at b1;cases q2
  .rw [b2 rfl];simp only[je,w1,w2,g1,g2,g3,g4,j6,r1,r2,e1,e2,e3,v1,v2,b1];rfl
  .rw [<-b3 rfl];simp only[je,w1,w2,g1,g2,g3,g4,j6,r1,r2,e1,e2,e3,v1,v2,b1,hn]
 have hst:=jcL (rest:=rest) sl sr hd vl vr;by_cases hnm:(sub [] l).name=(sub [] r).name;rotate_left
 .rw [jh (λh=>hnm h.1)]at hst;have hnd:=decide_eq_false hnm;rw[kN hst hu];simp only[je,w1,w2,g1,g2,g3,g4,j6,r1,r2,e1,e2,e3,v1,v2,hnd];rfl
 have hnd:=decide_eq_true hnm;by_cases hal:(sub [] l).args.length=(sub [] r).args.length;rotate_left
 .rw [jh (λh=>hal h.2)]at hst;have hal':decide ((((sub [] l).args.length:Nat):Int)=(((sub [] r).args.length:Nat):Int))=false:=decide_eq_false (by omega);rw[kN hst hu];simp only[je,w1,w2,g1,g2,g3,g4,j6,r1,r2,e1,e2,e3,v1,v2,hnd,hal'];rfl
 rw[jg ⟨hnm,hal⟩]at hst;have hnext:=ih _ _ res (ym hi hst).1 (qO hi hg hst) (yC hst hu);have hnext:=(hnext.2.2 rfl).2;have hin:=jC8 W (off+1) hlen (sub [] l) (sub [] r) hal (jeY xl);rw[d2]at hin;rw[hnext]at hin;have hal':decide ((((sub [] l).args.length:Nat):Int)=(((sub [] r).args.length:Nat):Int))=true:=decide_eq_true (by omega);simp only[je,w1,w2,g1,g2,g3,g4,j6,r1,r2,e1,e2,e3,v1,v2,hnd,hal',hn];exact hin
theorem jL4(k:Nat)(ih:∀(s:jw)(es:Jy)(res:Option jw),K6 s es->Hgt s 126 es->zh k s es=some res->USS s es (qc res))(l r:T)(rest:Jy)(hi:K6 [] ((l,r)::rest))(hg:Hgt [] 126 ((l,r)::rest))(res:Option jw)(hu:zh (k+1) [] ((l,r)::rest)=some res)(W:Jy)(hW:W=(l,r)::rest)(hlen:W.length<=1000):jdq (W.map ec) [] [] []=qc res:=by
 have hW0:W.drop 0=(l,r)::rest:=hW;rw[<-jII k ih l r rest hi hg res hu W 0 hW0 hlen];obtain⟨d1,d2,d3⟩:=Kh hW0;obtain⟨r1,r2⟩:=jb5 d1;have w1:zq (nA 0)=0:=rfl;have w2:zq (nA W.length)=W.length:=rfl;have f1:jy .gtr false (nA W.length) (vi 0)=some (vb true):=by
  show some (vb (decide ((0:Int)<((W.length:Nat):Int))))=_;rw[decide_eq_true (by omega)]
 have f3:pB W.length (zj (W.map ec) 0) none=some W.length:=by
  rw[show zj (W.map ec) 0=W.length by rw[yu,List.length_map];rfl];exact zn (j4 _)
 have g2:Zt W.length (vi 0)=some 0:=zg (i:=0) (by omega);have g3:pB (zX (W.map ec)) (zj (W.map ec) 0) none=some W.length:=by
  rw[yf,f3]
 have g4:pB 0 W.length (some (vi 1))=some 1:=yW (n:=1) (by omega);have g0:(0:Int)<((W.length:Nat):Int):=by omega
 rw[js4,js2,Nat.sub_zero];simp only[je,w1,w2,f1,f3,g0,g2,g3,g4,r1,r2]
theorem jBL(s:jw):USS s [] (qc (some s)):=by
 refine⟨λW off hW h1 h2=>?_,?_,λhs=>?_⟩
 .have h3:=congrArg List.length hW;rw[List.length_drop,zO]at h3;have w2:zq (nA (W.length-off))=W.length-off:=rfl;have g1:jy .gtr false (nA (W.length-off)) (vi 0)=some (vb false):=by
   show some (vb (decide ((0:Int)<((W.length-off:Nat):Int))))=_;rw[decide_eq_false (by omega)]
  rw[js3];simp only[je,w2,g1];rfl
 .rw [jzs];have g1:jy .gtr false (yB (List.map ec [])) (vi 0)=some (vb false):=rfl;simp only[je];rfl
 .subst hs;refine⟨λW off hW h1 h2=>?_,?_⟩
  .have h3:=congrArg List.length hW;rw[List.length_drop,zO]at h3;have w2:zq (nA (W.length-off))=W.length-off:=rfl;have g1:jy .gtr false (nA (W.length-off)) (vi 0)=some (vb false):=by
    show some (vb (decide ((0:Int)<((W.length-off:Nat):Int))))=_;rw[decide_eq_false (by omega)]
   rw[js2];simp only[je,w2,g1];rfl
  .rw [js4];have g1:jy .gtr false (yB (List.map ec [])) (vi 0)=some (vb false):=rfl;simp only[je];rfl
theorem jGL:∀(k:Nat)(s:jw)(es:Jy)(res:Option jw),K6 s es->Hgt s 126 es->zh k s es=some res->USS s es (qc res):=by
 intro k;induction k with
 |zero=>
  intro s es res hi hg hu;cases es with
  |nil=>simp only[zh,zI]at hu;rw[<-hu];exact jBL s
  |cons p es=>simp[zh]at hu
 |succ k ih=>
  intro s es res hi hg hu;cases es with
  |nil=>simp only[zh,zI]at hu;rw[<-hu];exact jBL s
  |cons p rest=>
   obtain⟨l,r⟩:=p;have hl:=hg.len;refine⟨λW off hW _ hlen=>jIJ k ih s l r rest hi hg res hu W off hW hlen,jL5 k ih s l r rest hi hg res hu _ rfl (by omega),λhs=>?_⟩;subst hs;exact⟨λW off hW _ hlen=>jII k ih l r rest hi hg res hu W off hW hlen,jL4 k ih l r rest hi hg res hu _ rfl (by omega)⟩
theorem jIH(W:Jy):jsu (W.map ec) [] [] []=jdq (W.map ec) [] [] []:=by
 rw[jF7,js4]
theorem jat(a b:T)(ha:Exx a)(hb:Exx b):G 173 [tm a,tm b]=qc (Jw a b):=by
 obtain⟨k,hk⟩:=Zl ha hb;have h:=((jGL k [] [(a,b)] _ (jmr ha hb) (jH7 a b) hk).2.2 rfl).2;rw[<-jIH]at h;rw[jKe];simp only[je];exact h
theorem jk9(d:kj)(h:jJ d=true):G 191 [cm d]=some (cm (jD d),[]):=by
 obtain⟨hc,_,_,hnm⟩:=kg h;have hl:=Jp hc;have e1:=jlL d hc;have e2:=jdg 89 d hc (kV d) (λn=>jdL) (hc.ren_tz (by decide));have e2:G 227 [cm d,.mp ((KG 89 0 (kV d)).map kn)]=some (cm (jD d),[]):=by rw[e2,<-apart_eq h];rfl
 have hnd:=jaw d;have hnum:∀i (hi:i<(kV d).length),(kV d)[i]=JR 88 i:=λi hi=>by
  obtain⟨j,hj,e,e'⟩:=jdN hnm (jr hi);rw[jlf hnd hi]at e';rw[e,jAA e']
 generalize kV d=ns at *;have key:=upto (P:=λi=>∀m:Nm',(∀n∈ns.drop i,yq m n=none)->m++KG 89 i (ns.drop i)=KG 89 0 ns->jm5 (strs ns) (vi (ns.length:Nat)) (vi (i:Nat)) (.sl 3 (d.map jN)) (m.map kn) []=some (cm (jD d),[])) (n:=ns.length) ?_ ?_ 0 (Nat.zero_le _) [] (λn _=>rfl) (by rw[List.drop_zero];rfl)
 .simp only[Int.natCast_zero,List.map_nil]at key;rw[jKq];simp only[je,e1,key]
 .intro m _ hm;rw[List.drop_length,KG,zm]at hm;subst hm;rw[jzx];simp only[je,e2]
 .intro i hi ih m hm hp;have hlt:(i:Int)<((ns.length:Nat):Int):=by omega
  have h5:=jo hi (by show ns.length<=9223372036854775807;omega)
  have ld:j9 (.elt (cs ns[i]) 0)=some (sv ns[i]):=rfl;have hd:(ns.drop i).Nodup:=hnd.sublist (List.drop_sublist i ns);rw[ji hi]at hm hd hp;have pt:=jET (hm ns[i] (List.mem_cons_self ..)) (JR 89 i);have e3:Z1 (sv ns[i]) (some (vi 1)) none=some (sv (Lib.decDigits i)):=by
   rw[hnum i hi];have hlen:(JR 88 i).length=(Lib.decDigits i).length+1:=rfl;show(if(0:Int)<=1/\(1:Int)<=(((JR 88 i).length:Nat):Int)/\(((JR 88 i).length:Nat):Int)<=(((JR 88 i).length:Nat):Int)then some (sv (((JR 88 i).take ((((JR 88 i).length:Nat):Int).toNat)).drop 1))else none)=_;rw[jg ⟨by omega,by omega,by omega⟩,Int.toNat_natCast,List.take_length];rfl
  have e4:=jGm 89 i (by omega);have ih:=ih (m++[(ns[i],JR 89 i)]) (λn hn'=>by
   rw[jf4,hm n (List.mem_cons_of_mem _ hn')];show(if ns[i]=n then _ else none)=none;rw[jh];rintro e;exact(jdl.1 hd).1 (e ▸ hn')) (by rw[ze];exact hp)
  rw[jzx];simp only[je,hlt,ja hi,ld,e3,e4,pt,h5,ih]
theorem jfS(d:kj)(h:jJ d=true):G 172 [cm d]=some (cm (jD d),[]):=by
 obtain⟨hc,_,_,_⟩:=kg h;have e1:=jlM d hc;have e2:=jgN 89 (by decide) d hc;rw[apart_eq h]at e2;rw[jKd];simp only[je,e1,e2]
theorem jyk(c:kj)(hl:c.length<=1000):jsn (.sl 3 (c.map jN))=some (.top,[.sl 3 (c.map jN)]):=by
 have e1:jAX (.sl 3 (c.map jN))=some (c.map jN):=rfl;have f:jM c.length 48=true:=QO (by omega);rw[jFy];cases c with
 |nil=>
  have f0:jM 0 48=true:=QO (by omega);have hz:nz (zX [])=true:=rfl;have e1:jAX (.sl 3 [])=some []:=rfl;simp only[je,e1,hz,f0,List.map_nil,jx7]
 |cons l r=>
  have hz:nz (zX (List.map jN (l::r)))=false:=rfl;generalize l::r=x at *;simp only[je,e1,hz,f]
theorem jv1(c:kj)(hl:c.length<=1000)(i:Nat)(hi:i<c.length):jsm (vi (i:Nat)) (vi ((i+1:Nat):Int)) (c.map jN)=some (.top,[.sl 3 ((c.eraseIdx i).map jN)]):=by
 have e1:zX (c.map jN)=c.length:=yf jN c;have e2:zj (c.map jN) 0=c.length:=by rw[yu,List.length_map];rfl
 have hne:¬((i:Nat):Int)=((i+1:Nat):Int):=by omega
 have k1:pB 0 c.length (some (vi (c.length:Nat)))=some c.length:=yW (j4 _);have k2:pB 0 c.length (some (vi ((i+1:Nat):Int)))=some (i+1):=yW (by omega);have k3:pB 0 (i+1) (some (vi (i:Nat)))=some i:=yW (by omega);have k4:pB c.length c.length (some (vi (i:Nat)))=some i:=yW (by omega);have k5:pB c.length c.length none=some c.length:=zn (j4 _);have w1:yI (c.map jN) (0+(i+1)) (kz c.length (i+1))=(c.drop (i+1)).map jN:=by
  rw[Z2,yV,yd,<-List.map_drop,yN (by rw[List.length_map,List.length_drop];omega)]
 have w2:zX ((c.drop (i+1)).map jN)=c.length-(i+1):=by rw[yf,List.length_drop]
 have rm:jq2 0 (kz i 0) ((c.drop (i+1)).map jN) (c.map jN)=true:=by
  rw[jAV,yV];exact decide_eq_true (by rw[List.length_map,List.length_map,List.length_drop];omega)
 generalize hov:yt (c.map jN) (0+kz i 0) ((c.drop (i+1)).map jN)=O at *;have hO:O=(c.eraseIdx i).map jN++(c.map jN).drop (c.length-1):=by
  rw[<-hov,YE,yV,Nat.sub_zero,yd,List.eraseIdx_eq_take_drop_succ,List.map_append,List.map_take,List.length_map,List.length_drop];congr 2;omega
 have hOl:O.length=c.length:=by
  rw[hO,zv,List.length_map,List.length_eraseIdx_of_lt hi,List.length_drop,List.length_map];omega
 have k6:pB (kz i 0+(c.length-(i+1))) (zj O 0) (some (vi (c.length:Nat)))=some c.length:=by
  rw[yu,hOl];exact yW (by omega)
 have k7:pB 0 c.length (some (nA (kz i 0+(c.length-(i+1)))))=some (c.length-1):=by
  rw[yV,show i-0+(c.length-(i+1))=c.length-1 by omega];exact yW (by omega)
 have fin:List.take (kz i 0+(c.length-(i+1))) (yt O (0+(c.length-1)) (yH (kz c.length (c.length-1)) [vb false,sv [],.sl 2 []]))=(c.eraseIdx i).map jN:=by
  have hlen:((c.eraseIdx i).map jN).length=c.length-1:=by rw[List.length_map,List.length_eraseIdx_of_lt hi]
  rw[yV,show i-0+(c.length-(i+1))=c.length-1 by omega,YE,yd,ze,jfx (by rw[List.length_take,hOl];omega),List.take_take,Nat.min_self,hO,jfx (by omega),yN (by omega)]
 rw[jFx];simp only[cev];rw[e1,e2,je9,List.length_map,k1,Option.bind_some,k2,Option.bind_some,k3,Option.bind_some,jqX,decide_eq_false hne,Option.bind_some,Yu,Option.bind_some,Z9,k4,Option.bind_some,k5,Option.bind_some,k2,Option.bind_some,w1,rm,jiB,hov,w2,k6,Option.bind_some,k7,Option.bind_some,fin]
theorem K0(c:kj)(hl:c.length<=1000)(i:Nat)(hi:i<c.length):G 194 [cm c,vi (i:Nat)]=some (.sl 3 ((c.eraseIdx i).map jN),[]):=by
 have e1:=jyk c hl;have e2:=jv1 c hl i hi;have r1:∀x:kj,hR 3 (A.top,[.sl 3 (x.map jN)]) 0=some (x.map jN):=λx=>rfl;have h5:=jo hi (by show c.length<=9223372036854775807;omega);rw[jKs];simp only[je,e1,r1,h5,e2]
theorem Kk(c:kj)(hl:c.length<=1000)(i:Nat)(hi:i<c.length):jdo (.sl 3 (c.map jN)) (vi (i:Nat))=some (.top,[.sl 3 ((c.eraseIdx i).map jN)]):=by
 have s1:yb 3 (.sl 3 (c.map jN)) none (some (vi (i:Nat)))=some (.sl 3 ((c.map jN).take i)):=Kf (by rw[List.length_map];omega)
 have s2:yb 3 (.sl 3 (c.map jN)) (some (vi ((i+1:Nat):Int))) none=some (.sl 3 ((c.map jN).drop (i+1))):=qf (by rw[List.length_map];omega)
 have hck:ck ((i:Int)+1)=some (vi ((i+1:Nat):Int)):=jV (by omega) (by omega);have f1:jM ((c.map jN).take i).length 48=true:=QO (by rw[List.length_take,List.length_map];omega);have f2:jM (((c.map jN).take i).length+((c.map jN).drop (i+1)).length) 48=true:=QO (by rw[List.length_take,List.length_drop,List.length_map];omega);have fin:jR ((c.map jN).take i) ((c.map jN).drop (i+1))=(c.eraseIdx i).map jN:=by
  rw[List.eraseIdx_eq_take_drop_succ,List.map_append,List.map_take,List.map_drop];rfl
 rw[jFu];simp only[je,s1,s2,hck,f1,f2,fin]
theorem jC7(n:Nat)(hn:n<=1000):jsl (vi (n:Nat))=some (.top,[.sl 3 []]):=by
 have h0:¬((n:Nat):Int)<0:=by omega
 have c1:ck (0-0)=some (vi 0):=jV (n:=0-0) (by omega) (by omega);have c2:ck (((n:Nat):Int)-0)=some (vi (n:Nat)):=by rw[Int.sub_zero];exact jV (by omega) (by omega)
 rw[jFw];by_cases hz:n=0
 .have hz':¬(0:Int)<((n:Nat):Int):=by omega
  simp only[je,h0,c1,c2,hz']
 .have hz':(0:Int)<((n:Nat):Int):=by omega
  have k1:pB 0 0 (some (vi 0))=some 0:=rfl;have k2:=qV (b:=48) (n:=n) (by omega) (by omega);have k3:jM n 48=true:=QO (by omega);have k4:∀X:Xc,pB (zX X) (zj X 0) (some (vi 0))=some 0:=λX=>yW (n:=0) (Nat.zero_le _);simp only[je,h0,c1,c2,hz',k1,k2,k3,k4,yV];rfl
theorem jli(ls:List kj)(hn:ls.length<=10)(hl:∀c∈ls,c.length<=50):jfC (ls.map clc)=some (.top,[.sl 3 (ls.flatten.map jN)]):=by
 have r1:∀x:kj,hR 3 (A.top,[.sl 3 (x.map jN)]) 0=some (x.map jN):=λx=>rfl;have rp:∀i,(hi:i<ls.length)->ZK (ls.map clc) i 0=some (.sl 3 (ls[i].map jN)):=λi hi=>by unfold ZK;simp[hi]
 have hix:∀i,i<ls.length->Zt ls.length (vi (i:Nat))=some i:=λi hi=>zg hi;have hend:jbl (vi (ls.length:Nat)) (vi 0) [] (ls.map clc)=some (.top,[.sl 3 (ls.flatten.map jN)]):=by
  have key:=upto (P:=λi=>∀R:kj,R.length<=50*i->R++(ls.drop i).flatten=ls.flatten->jbl (vi (ls.length:Nat)) (vi (i:Nat)) (R.map jN) (ls.map clc)=some (.top,[.sl 3 (ls.flatten.map jN)])) (n:=ls.length) ?_ ?_ 0 (Nat.zero_le _) [] (Nat.zero_le _) (by rw[List.drop_zero];rfl)
  .exact key
  .intro R _ hR;rw[List.drop_length,List.flatten_nil,zm]at hR;rw[jqo,hR];simp only[je]
  .intro i hi ih R hRl hR;have hlt:(i:Int)<((ls.length:Nat):Int):=by omega
   have hck:ck ((i:Int)+1)=some (vi ((i+1:Nat):Int)):=jV (by omega) (by omega);have hc:=hl _ (jr hi);have hf:jM (R.length+ls[i].length) 48=true:=QO (by omega);have ha:jR (R.map jN) (ls[i].map jN)=(R++ls[i]).map jN:=by rw[List.map_append];rfl
   have:=ih (R++ls[i]) (by rw[zv];omega) (by rw[ze,<-qQ,<-ji hi];exact hR)
   rw[jqo];simp only[je,hlt,hix i hi,rp i hi,hf,ha,hck,this]
 have key:=upto (P:=λi=>∀z:Nat,z<=50*i->jeb (vi (z:Nat)) (vi (ls.length:Nat)) (vi (i:Nat)) (ls.map clc)=some (.top,[.sl 3 (ls.flatten.map jN)])) (n:=ls.length) ?_ ?_ 0 (Nat.zero_le _) 0 (Nat.zero_le _)
 .rw [jFv,je9,List.length_map];exact key
 .intro z hz;have e:=jC7 z (by omega);have r0:hR 3 (A.top,[.sl 3 []]) 0=some []:=rfl;rw[jqn];simp only[je,e,r0,hend]
 .intro i hi ih z hz;have hlt:(i:Int)<((ls.length:Nat):Int):=by omega
  have hck:ck ((i:Int)+1)=some (vi ((i+1:Nat):Int)):=jV (by omega) (by omega);have hc:=hl _ (jr hi);have c1:ck ((z:Int)+((ls[i].length:Nat):Int))=some (vi ((z+ls[i].length:Nat):Int)):=jV (by omega) (by omega);have hneg:¬((z+ls[i].length:Nat):Int)<0:=by omega
  have:=ih (z+ls[i].length) (by omega);rw[jqn];simp only[je,hlt,hix i hi,rp i hi,c1,hneg,hck,this]
def LN(l:kj):Prop:=l.length<=40/\ ∀x∈l,Bx x.2/\nodes x.2<=100
theorem LN.app{s:jw}(hs:jL s=true){l:kj}(h:LN l):∀x∈l.map (λx=>(x.1,Go.Proofs.YthlhadhipnokfaaGreatDoor.sub s x.2)),Bx x.2/\Tz x.2:=λx hx=>by
 obtain⟨y,hy,rfl⟩:=yn.1 hx;have hb:=(h.2 y hy).1;exact⟨hb.sub hs,YY.sub_tz hs hb.ax (by have:=(h.2 y hy).2;omega)⟩
theorem jla{s:jw}{l c:kj}(h:Yg s l=some c):CN c/\Asc cmpL c:=⟨(JF (jac h).1).1,(jac h).2⟩
theorem jx0(s:jw)(hs:jL s=true)(l:kj)(h:LN l):G 206 [sb s,.sl 3 (l.map jN)]=J6 (Yg s l):=by
 have hl:=h.1;have happ:=h.app hs;have e1:=jgC (l.map λx=>(x.1,sub s x.2)) (by rw[List.length_map];omega) (λx hx=>(happ x hx).1.rx) λx hx=>(happ x hx).2;have e2:=jp3 (yR cmpL (l.map λx=>(x.1,sub s x.2))) (by have:=jf5 cmpL (l.map λx=>(x.1,sub s x.2));rw[List.length_map]at this;omega) λx hx=>(happ x (jcy.1 hx)).2;generalize hd:l.map (λx=>(x.1,sub s x.2))=d at *;have hdl:d.length=l.length:=by rw[<-hd,List.length_map]
 have key:=upto (P:=λi=>jna (.sl 3 (l.map jN)) (vi (l.length:Nat)) (vi (i:Nat)) (ZN s) ((d.take i).map jN) []=J6 (if((l.drop i).all λx=>jF (sub s x.2)) && qp (yR cmpL d)then some (yR cmpL d)else none)) (n:=l.length) ?_ ?_ 0 (Nat.zero_le _)
 .simp only[Int.natCast_zero,List.take_zero,List.map_nil,List.drop_zero]at key;unfold Yg;rw[hd,<-key,jKB];simp only[je]
 .rw [jzE,<-hdl,List.take_length,hdl,List.drop_length,List.all_nil,Bool.true_and];rw[<-hdl];cases hv:qp (yR cmpL d)<;>rw[hv]at e2
  .rw [jh Bool.false_ne_true]at e2⊢;have e2:G 244 [cm (yR cmpL d)]=some (.tup [cz,vb false],[]):=e2;simp only[je,e1,e2];rfl
  .rw [jg rfl]at e2⊢;have e2:G 244 [cm (yR cmpL d)]=some (.tup [cm (yR cmpL d),vb true],[]):=e2;simp only[je,e1,e2];rfl
 .intro i hi ih;have hi2:i<d.length:=by omega
  have hlt:(i:Int)<((l.length:Nat):Int):=by omega
  have h5:=jo hi (by show l.length<=9223372036854775807;omega)
  have hb:=h.2 _ (jr hi);have e3:=Ji s hs l[i].2 hb.1.ax (by omega);have hdi:d[i]=(l[i].1,sub s l[i].2):=by simp only[<-hd,List.getElem_map]
  have ta:=QU (f:=jN) hi2;have tl:=take_len (f:=jN) (Nat.le_of_lt hi2);have hf:jM (i+1) 48=true:=QO (by omega);rw[hdi]at ta;rw[jzE,ji hi,zR];cases hsm:jF (sub s l[i].2)<;>rw[hsm]at e3
  .rw [Bool.false_and,Bool.false_and,jh Bool.false_ne_true];have e3:G 198 [sb s,tm l[i].2]=some (.tup [.agg [sv [],.sl 2 []],vb false],[]):=e3;simp only[je,hlt,ja hi,kR,e3];rfl
  .rw [Bool.true_and];have e3:G 198 [sb s,tm l[i].2]=some (.tup [tm (sub s l[i].2),vb true],[]):=e3;generalize (d.take i).map jN=R at *;generalize sub s l[i].2=u at *;rw[<-ih];simp only[je,hlt,ja hi,kR,e3,tl,hf,ta,h5]
theorem jx1(s:jw)(hs:jL s=true)(l:kj)(h:LN l):G 213 [sb s,.sl 3 (l.map jN)]=J6 (Yg s l):=by
 have hl:=h.1;have happ:=h.app hs;have e1:=jf3 (l.map λx=>(x.1,sub s x.2)) (by rw[List.length_map];omega) λx hx=>(happ x hx).2;have e2:=jcw (yR cmpL (l.map λx=>(x.1,sub s x.2))) (by have:=jf5 cmpL (l.map λx=>(x.1,sub s x.2));rw[List.length_map]at this;omega) λx hx=>(happ x (jcy.1 hx)).2;generalize hd:l.map (λx=>(x.1,sub s x.2))=d at *;have hdl:d.length=l.length:=by rw[<-hd,List.length_map]
 have ld:∀l:Lt,j9 (.elt (jN l) 0)=some (vb l.1):=λl=>rfl;have ad:∀(l:Lt)(n:Nat),qe (.elt (jN l) 0) n=some (.elt (jN l) n):=λl n=>by rw[qA,yd]
 have ld2:∀l:Lt,kC 2 (.elt (jN l) 1)=some (tm l.2):=λl=>rfl;have key:=upto (P:=λi=>jne (.sl 3 (l.map jN)) (vi (i:Nat)) (ZN s) ((d.take i).map jN) []=J6 (if((l.drop i).all λx=>jF (sub s x.2)) && qp (yR cmpL d)then some (yR cmpL d)else none)) (n:=l.length) ?_ ?_ 0 (Nat.zero_le _)
 .simp only[Int.natCast_zero,List.take_zero,List.map_nil,List.drop_zero]at key;unfold Yg;rw[hd,<-key,jKI];simp only[je]
 .have hlt:¬((l.length:Nat):Int)<((l.length:Nat):Int):=by omega
  rw[jzI,yN (by omega),List.drop_length,List.all_nil,Bool.true_and];cases hv:qp (yR cmpL d)<;>rw[hv]at e2
  .rw [jh Bool.false_ne_true];simp only[je,e1,e2];rfl
  .rw [jg rfl];simp only[je,e1,e2];rfl
 .intro i hi ih;have hi2:i<d.length:=by omega
  have hlt:(i:Int)<((l.length:Nat):Int):=by omega
  have h5:=jo hi (by show l.length<=9223372036854775807;omega)
  have hb:=h.2 _ (jr hi);have tz:=hb.1.tz (by omega);have tz2:=YY.sub_tz hs hb.1.ax (by omega);have e3:=KR s (yw hs).sz l[i].2 tz;have e4:=jly (sub s l[i].2) tz2.wf tz2;rw[(hb.1.sub hs).atom]at e4;have hdi:d[i]=(l[i].1,sub s l[i].2):=by simp only[<-hd,List.getElem_map]
  have ta:=QU (f:=jN) hi2;have tl:=take_len (f:=jN) (Nat.le_of_lt hi2);have hf:jM (i+1) 48=true:=QO (by omega);rw[hdi]at ta;rw[jzI,ji hi,zR];cases hsm:jF (sub s l[i].2)<;>rw[hsm]at e4
  .rw [Bool.false_and,Bool.false_and,jh Bool.false_ne_true];simp only[je,hlt,ja hi,ad,ld2,e3,e4];rfl
  .rw [Bool.true_and];generalize (d.take i).map jN=R at *;generalize sub s l[i].2=u at *;rw[<-ih];simp only[je,hlt,ja hi,ad,ld,ld2,e3,e4,tl,hf,ta,h5]
theorem Zd(s:jw)(hs:jL s=true)(l:kj)(h:LN l):G 163 [sb s,.sl 3 (l.map jN)]=J6 (qE s l):=by
 have e1:=jx0 s hs l h;unfold qE;rw[jJ5];cases ha:Yg s l with
 |none=>
  rw[ha]at e1;have e1:G 206 [sb s,.sl 3 (l.map jN)]=some (.tup [cz,vb false],[]):=e1;simp only[je,e1];rfl
 |some c=>
  rw[ha]at e1;have e1:G 206 [sb s,.sl 3 (l.map jN)]=some (.tup [cm c,vb true],[]):=e1;have hc:=(jla ha).1;have e2:=jov c hc;have e3:=yl (normC c) (by have:=hc.normC.1;omega) hc.normC.tz;rw[Option.bind_some];cases hn:jJ (normC c)<;>rw[hn]at e3
  .rw [jh Bool.false_ne_true];simp only[je,e1,e2,e3];rfl
  .rw [jg rfl];simp only[je,e1,e2,e3];rfl
theorem Kw(s:jw)(hs:jL s=true)(l:kj)(h:LN l):G 174 [sb s,.sl 3 (l.map jN)]=J6 (qE s l):=by
 have e1:=jx1 s hs l h;unfold qE;rw[jKf];cases ha:Yg s l with
 |none=>
  rw[ha]at e1;have e1:G 213 [sb s,.sl 3 (l.map jN)]=some (.tup [cz,vb false],[]):=e1;simp only[je,e1];rfl
 |some c=>
  rw[ha]at e1;have e1:G 213 [sb s,.sl 3 (l.map jN)]=some (.tup [cm c,vb true],[]):=e1;obtain⟨hc,hasc⟩:=jla ha;have e2:=jqD c hc hasc;have e3:=Qt (normC c) hc.normC;rw[Option.bind_some];unfold jJ;cases hv:qp (normC c)<;>rw[hv]at e2
  .rw [Bool.false_and,jh Bool.false_ne_true];simp only[je,e1,e2];rfl
  .rw [Bool.true_and];cases hn:Kv (normC c)<;>rw[hn]at e3
   .rw [jh Bool.false_ne_true];simp only[je,e1,e2,e3];rfl
   .rw [jg rfl];simp only[je,e1,e2,e3];rfl
theorem zw(r:Option kj):∃(c:kj)(b:Bool),J6 r=some (.tup [cm c,vb b],[]):=by
 cases r with
 |none=>exact⟨[],false,rfl⟩
 |some c=>exact⟨c,true,rfl⟩
theorem jcB(r:Option jw):∃(u:jw)(b:Bool),qc r=some (.tup [sb u,vb b],[])/\(b=true->r=some u)/\(b=false->r=none):=by
 cases r with
 |none=>exact⟨[],false,rfl,(λh=>by cases h),λ_=>rfl⟩
 |some u=>exact⟨u,true,rfl,(λ_=>rfl),λh=>by cases h⟩
def jMm(f g:FuncId)(args:Xd):Prop:=∃r:Option kj,G f args=J6 r/\G g args=J6 r/\ ∀x,r=some x->jJ x=true
def ZV(c:kj)(i:Int):Bool:=y8 0 (((c.length:Nat):Int)-1) i
theorem Kc{c:kj}{i:Int}(h:ZV c i=true):∃k:Nat,i=(k:Int)/\k<c.length:=by
 unfold ZV y8 at h;rw[jI,ky,ky]at h;exact⟨i.toNat,by omega,by omega⟩
theorem zC(c:kj)(hl:c.length<=1000)(i:Int):G 190 [cm c,vi i]=some (vb (ZV c i),[]):=by
 have c1:ck (((c.length:Nat):Int)-1)=some (vi (((c.length:Nat):Int)-1)):=jV (by omega) (by omega);have e:=yQ i 0 (((c.length:Nat):Int)-1);rw[jKp];simp only[je,c1,e];rfl
theorem LN.erase{c:kj}(h:CN c)(i:Nat):LN (c.eraseIdx i):=⟨by have:=List.length_eraseIdx_le c i;have:=h.1;omega,λx hx=>by
 have:=h.2 x (List.mem_of_mem_eraseIdx hx);exact⟨this.1,by omega⟩⟩
theorem LN.append{a b:kj}(ha:CN a)(hb:CN b)(i k:Nat):LN (a.eraseIdx i++b.eraseIdx k):=⟨by
 have:=List.length_eraseIdx_le a i;have:=List.length_eraseIdx_le b k;have:=ha.1;have:=hb.1;rw[zv];omega,λx hx=>by
 rcases kW.1 hx with hx|hx
 .exact (LN.erase ha i).2 x hx
 .exact (LN.erase hb k).2 x hx⟩
theorem ldB(l:Lt):j9 (.elt (jN l) 0)=some (vb l.1):=rfl
theorem adL(l:Lt)(n:Nat):qe (.elt (jN l) 0) n=some (.elt (jN l) n):=by rw[qA,yd]
theorem ldT(l:Lt):kC 2 (.elt (jN l) 1)=some (tm l.2):=rfl
theorem hRl(x:kj):hR 3 (A.top,[.sl 3 (x.map jN)]) 0=some (x.map jN):=rfl
theorem jvV(d:kj)(n:Nat)(h:n<(jD d).length)(h':n<d.length):(jD d)[n].1=d[n].1:=by simp only[jD,List.getElem_map]
theorem ldA(l:Lt):j9 (.elt (jN l) 2)=some (jG l.2.args):=rfl
theorem QA(l:Lt):qe (.elt (jN l) 1) 1=some (.elt (jN l) 2):=rfl
theorem jbC(l:Lt)(b:Bool):G 176 [ltm l,vb b]=some (vb (decide (l.1=b) && decide (l.2.name=[61])),[]):=by
 rw[jKg];by_cases h:l.1=b
 .rw [decide_eq_true h,Bool.true_and];simp only[je,h]
 .rw [decide_eq_false h,Bool.false_and];simp only[je,h]
theorem jpL{t:T}(hb:Bx t)(he:t.name=[61])(hn:nodes t<=30):t.args.length=2/\zy (Yh t)=true/\zy (Qp t)=true/\nodes (Yh t)<=30/\nodes (Qp t)<=30/\jk 2 (jG t.args) (vi 0)=some (.elt (jm (Yh t)) 0)/\jk 2 (jG t.args) (vi 1)=some (.elt (jm (Qp t)) 0):=by
 rcases hb with hb|hb
 rotate_left
 .rw [he]at hb;exact absurd hb.1 (by decide)
 obtain⟨f1,f2,f3,f4⟩:=KM hb.2.1;have g1:=qT f3;have g2:=qT f4;exact⟨hb.2.1,hb.2.2 _ f3,hb.2.2 _ f4,by omega,by omega,f1,f2⟩
theorem Yx(n:Int):j9 (.elt (ci n) 0)=some (vi n):=rfl
theorem jn4(n:Nat)(x:Int):y8 0 (((n:Nat):Int)-1) x=decide (0<=x/\x<(n:Int)):=by
 unfold y8;rw[<-Bool.decide_and];exact decide_eq_decide.2 ⟨λh=>⟨h.1,by omega⟩,λh=>⟨h.1,by omega⟩⟩
theorem jFj(t:T)(p:Xi)(ht:Tz t)(hl:p.length<=1048576):G 196 [tm t,ints p]=outT (atI p t):=by
 have key:=upto (P:=λi=>∀t:T,Tz t->jm8 (ints p) (vi (p.length:Nat)) (vi (i:Nat)) (sv t.name) (jG t.args) (sv []) []=outT (atI (p.drop i) t)) (n:=p.length) ?_ ?_ 0 (Nat.zero_le _) t ht
 .simp only[Int.natCast_zero,List.drop_zero]at key;rw[jKu];simp only[je,key]
 .intro t ht;rw[jzB,List.drop_length,atI];simp only[je];rfl
 .intro i hi ih t ht;have hz:=ht;unfold Tz at hz;rw[kH]at hz;have hlt:(i:Int)<((p.length:Nat):Int):=by omega
  have h5:=jo hi (by show p.length<=9223372036854775807;omega)
  have c1:ck (((t.args.length:Nat):Int)-1)=some (vi (((t.args.length:Nat):Int)-1)):=jV (by omega) (by omega);have e1:=yQ p[i] 0 (((t.args.length:Nat):Int)-1);rw[jn4]at e1;have ix:=JU hi;rw[jzB,ji hi,atI];by_cases hc:0<=p[i]/\p[i]<(t.args.length:Int)
  .rw [decide_eq_true hc]at e1;rw[jg hc];have hn:p[i].toNat<t.args.length:=by omega
   have ix2:=ja (k:=2) (f:=jm) hn;rw[show((p[i].toNat:Nat):Int)=p[i] by omega]at ix2;rw[yU hn];have:=ih t.args[p[i].toNat] (ht.args _ (jr hn));simp only[je,hlt,ix,c1,e1,ix2,jd,h5,this]
  .rw [decide_eq_false hc]at e1;rw[jh hc];simp only[je,hlt,ix,c1,e1];rfl
theorem jFk(t:T)(p:Xi)(ht:Tz t)(hl:p.length<=1048576):G 177 [tm t,ints p]=outT (atI p t):=by
 have key:=upto (P:=λi=>∀t:T,Tz t->jh9 (ints p) (vi (i:Nat)) (sv t.name) (jG t.args) (sv []) []=outT (atI (p.drop i) t)) (n:=p.length) ?_ ?_ 0 (Nat.zero_le _) t ht
 .simp only[Int.natCast_zero,List.drop_zero]at key;rw[jHO];simp only[je,key]
 .intro t ht;have e1:=jbW t ht;rw[joe,List.drop_length,atI];simp only[je,e1];rfl
 .intro i hi ih t ht;have hz:=ht;unfold Tz at hz;rw[kH]at hz;have hlt:(i:Int)<((p.length:Nat):Int):=by omega
  have h5:=jo hi (by show p.length<=9223372036854775807;omega)
  have c1:ck (((t.args.length:Nat):Int)-1)=some (vi (((t.args.length:Nat):Int)-1)):=jV (by omega) (by omega);have e1:=zW p[i] 0 (((t.args.length:Nat):Int)-1);rw[jn4]at e1;have ix:=JU hi;rw[joe,ji hi,atI];by_cases hc:0<=p[i]/\p[i]<(t.args.length:Int)
  .rw [decide_eq_true hc]at e1;rw[jg hc];have hn:p[i].toNat<t.args.length:=by omega
   have ix2:=ja (k:=2) (f:=jm) hn;rw[show((p[i].toNat:Nat):Int)=p[i] by omega]at ix2;rw[yU hn];have:=ih t.args[p[i].toNat] (ht.args _ (jr hn));simp only[je,hlt,ix,c1,e1,ix2,jd,h5,this]
  .rw [decide_eq_false hc]at e1;rw[jh hc];simp only[je,hlt,ix,c1,e1];rfl
theorem jyZ(q:Xf):ints (q.map λn:Nat=>(n:Int))=pln q:=by
 show A.sl 1 ((q.map _).map ci)=_;rw[YT];rfl
theorem jpC(t:T)(ht:Tz t):jfB (sv t.name) (jG t.args)=some (.top,[sv t.name,jG t.args]):=by
 have hz:=ht;unfold Tz at hz;rw[kH]at hz;have e1:=jal t.args (by omega) λu hu=>Jm u (ht.args u hu);have r1:hR 2 (A.top,[jG t.args]) 0=some (t.args.map jm):=rfl;rw[jx8];simp only[je,e1,r1]
theorem jg1(s:T)(hs:Tz s):∀(p:Xf)(t:T),Tz t->okP p t->p.length<=2000000->G 200 [tm t,pln p,tm s]=some (tm (kJ s p t),[])
 | [],t,_,_,_=>by
  have e1:=jpC s hs;have hz:(((0:Nat):Int)=0)=True:=by simp
  rw[jHS,kJ];simp only[je,hz,e1,List.map_nil,List.getElem?_cons_zero]
 |i::p,t,ht,hp,hl=>by
  obtain⟨h1,h2⟩:=hp;have e:t.args.getD i (.mk [] [])=t.args[i]:=yU h1;rw[e]at h2;have e1:=jpC t ht;have e2:=jg1 s hs p t.args[i] (ht.args _ (jr h1)) h2 (by rw[j8]at hl;omega);have hz:¬((p.length+1:Nat):Int)=0:=by omega
  have i0:jk 1 (pln (i::p)) (vi 0)=some (.elt [vi (i:Nat)] 0):=Yv (p:=i::p) (i:=0) (by simp);have sl:yb 1 (pln (i::p)) (some (vi 1)) none=some (pln p):=by
   have:=qf (k:=1) (xs:=(i::p).map λn:Nat=>[vi (n:Nat)]) (i:=1) (by simp);exact this
  have ix:Zt t.args.length (vi (i:Nat))=some i:=zg h1;have rg:YD (t.args.map jm) i=some (jm t.args[i]):=by unfold YD;simp[h1]
  have co:jS (jm t.args[i]) 0 [sv (kJ s p t.args[i]).name,jG (kJ s p t.args[i]).args]=jm (kJ s p t.args[i]):=by rw[kU,kU];rfl
  have rs:kX (t.args.map jm) i (jm (kJ s p t.args[i]))=(t.args.set i (kJ s p t.args[i])).map jm:=by unfold kX;rw[List.map_set]
  have ll:(kP (pln (i::p)))=some (vi ((p.length+1:Nat):Int)):=by rw[jq8];simp only[je]
  rw[jHS,kJ,e];simp only[je,ll,hz,e1,i0,ja h1,jd,sl,e2,ix,rg,co,rs,List.getElem?_cons_zero];rfl
theorem jdO{t:T}(hk:zy t=true)(hn:nodes t<=30):Tz t/\Exx t:=⟨YY.tz (Or.inl hk) (by omega),Or.inl hk,by omega⟩
theorem jcR{s:jw}(hs:jL s=true){t:T}(hk:zy t=true):kQ (sub s t)=jF (sub s t):=by
 unfold kQ;rw[YM (JG hs) t hk,Bool.and_true]
noncomputable def rwL(rs:Xg):kj->Option kj
 | []=>some []
 |x::r=>(match rwN rs false 51 0 x.2 with
  |none=>none
  |some q=>(rwL rs r).map ((x.1,q.1)::·))
theorem jrA{rs:Xg}{c:kj}{i:Nat}(h:i<c.length):rwL rs (c.drop i)=(match rwN rs false 51 0 c[i].2 with|none=>none|some q=>(rwL rs (c.drop (i+1))).map ((c[i].1,q.1)::·)):=by
 rw[ji h];rfl
noncomputable def jeD(rs:Xg)(R:kj)(l:kj):Option kj:=(rwL rs l).bind λr=>qE [] (R++r)
def Cz(c:kj):Prop:=c.length<=1048576/\ ∀l∈c,Tz l.2
noncomputable def wfP(p:Prf):Bool:=decide (p.ax.length<=30) && p.ax.all jJ && decide (p.st.length<=60)
theorem jkE(c:kj)(hc:Cz c):G 104 [cm c]=some (vb (!jJ c),[]):=by
 have e:=yl c hc.1 hc.2;rw[jJt];simp only[je,e]
theorem jp4(l:List kj)(hl:l.length<=1048576)(hz:∀c∈l,Cz c):∃k:Int,jh2 (cls l) (.fn 104 []) (vi (l.length:Nat)) (vi 0)=some (vi k,[])/\decide (k>=0)=l.any (λc=> !jJ c):=by
 have key:=upto (P:=λi=>∃k:Int,jh2 (cls l) (.fn 104 []) (vi (l.length:Nat)) (vi (i:Nat))=some (vi k,[])/\decide (k>=0)=(l.drop i).any (λc=> !jJ c)) (n:=l.length) ?_ ?_ 0 (Nat.zero_le _)
 .simpa only[Int.natCast_zero,List.drop_zero]using key
 .refine ⟨-1,?_,?_⟩
  .rw [jy9];simp only[je]
  .rw [List.drop_length];rfl
 .intro i hi ⟨k,ih1,ih2⟩;have hlt:(i:Int)<((l.length:Nat):Int):=by omega
  have h5:=jo hi (by show l.length<=9223372036854775807;omega)
  have e1:=jkE l[i] (hz _ (jr hi));have hp:K.pureF 104=true:=rfl;have cc:DX.run K (MM K) (.callc (.fn 104 []) [cm l[i]] false)=some (vb (!jJ l[i])):=by
   rw[qx hp,zm,e1];rfl
  rw[jy9,ji hi,List.any_cons];cases hn:jJ l[i]<;>rw[hn]at cc
  .refine ⟨i,?_,?_⟩
   .simp only[je,hlt,ja hi,JD,cc]
   .rw [decide_eq_true (by omega)];rfl
  .refine ⟨k,?_,?_⟩
   .simp only[je,hlt,ja hi,JD,cc,h5,ih1]
   .rw [ih2];rfl
theorem jnM(l:List kj)(hl:l.length<=1048576)(hz:∀c∈l,Cz c):G 85 [cls l]=some (vb (l.all jJ),[]):=by
 obtain⟨k,h1,h2⟩:=jp4 l hl hz;have e2:G 125 [cls l,.fn 104 []]=some (vi k,[]):=by
  rw[jJF];simp only[je,h1]
 have e3:G 103 [cls l,.fn 104 []]=some (vb (l.any (λc=> !jJ c)),[]):=by
  rw[jJs];simp only[je,e2,h2]
 have e4:(!l.any (λc=> !jJ c))=l.all jJ:=by rw[List.all_eq_not_any_not]
 rw[g85];simp only[je,e3,e4]
theorem jkZ(p:Prf)(ha:p.ax.length<=1048576)(hz:∀c∈p.ax,Cz c):G 57 [Qu p]=some (vb (wfP p),[]):=by
 have e:=jnM p.ax ha hz;unfold wfP;rw[g57];by_cases h1:((p.ax.length:Nat):Int)<=30
 .rw [decide_eq_true (p:=p.ax.length<=30) (by omega),Bool.true_and];cases h2:p.ax.all jJ<;>rw[h2]at e
  .rw [Bool.false_and];simp only[je,h1,e]
  .rw [Bool.true_and,show decide (p.st.length<=60)=decide (((p.st.length:Nat):Int)<=60) from decide_eq_decide.2 (by omega)];simp only[je,h1,e]
 .rw [decide_eq_false (p:=p.ax.length<=30) (by omega),Bool.false_and,Bool.false_and];simp only[je,h1]
theorem jqj(p:Prf)(ha:p.ax.length<=1048576)(hz:∀c∈p.ax,Cz c):G 43 [Qu p]=some (vb (wfP p),[]):=by
 have key:=upto (P:=λi=>juk (vi (i:Nat)) (cls p.ax) (yj p.st)=some (vb ((p.ax.drop i).all jJ),[])) (n:=p.ax.length) ?_ ?_ 0 (Nat.zero_le _)
 .simp only[Int.natCast_zero,List.drop_zero]at key;unfold wfP;rw[g43];by_cases h1:((p.ax.length:Nat):Int) > 30
  .rw [decide_eq_false (p:=p.ax.length<=30) (by omega),Bool.false_and,Bool.false_and];simp only[je,h1]
  .by_cases h2:((p.st.length:Nat):Int) > 60
   .rw [decide_eq_false (p:=p.st.length<=60) (by omega),Bool.and_false];simp only[je,h1,h2]
   .rw [decide_eq_true (p:=p.st.length<=60) (by omega),decide_eq_true (p:=p.ax.length<=30) (by omega),Bool.true_and,Bool.and_true];simp only[je,h1,h2,key]
 .rw [jED,List.drop_length];simp only[je]
 .intro i hi ih;have hlt:(i:Int)<((p.ax.length:Nat):Int):=by omega
  have h5:=jo hi (by show p.ax.length<=9223372036854775807;omega)
  have hc:=hz _ (jr hi);have e1:=qa p.ax[i] hc.1 hc.2;rw[jED,ji hi,zR];cases hn:jJ p.ax[i]<;>rw[hn]at e1
  .rw [Bool.false_and];simp only[je,hlt,ja hi,JD,e1]
  .rw [Bool.true_and,<-ih];simp only[je,hlt,ja hi,JD,e1,h5]
theorem Za(a:A):Zx a a=true:=by unfold Zx;exact @decide_eq_true _ (Classical.propDecidable _) rfl
def Pok(p:Prf)(s:Stp):Prop:=∀x∈s.par,0<=x/\x<((p.st.length:Nat):Int)
theorem adS(q:Stp):qe (.elt (stc q) 0) 3=some (.elt (stc q) 3):=by rw[qA,yd]
theorem ldC(q:Stp):kC 1 (.elt (stc q) 3)=some (cm q.cls):=rfl
theorem ixN{l:Xi}{j:Nat}(h:j<l.length){k:Int}(hk:k=(j:Int)):jk 1 (ints l) (vi k)=some (.elt (ci l[j]) 0):=by
 rw[hk];exact ja h
theorem qH{p:Prf}{l:Xi}(hr:∀x∈l,0<=x/\x<((p.st.length:Nat):Int))(j:Nat)(hj:j<l.length):∃q∈p.st,p.st[l[j].toNat]? = some q/\jk 4 (yj p.st) (vi l[j])=some (.elt (stc q) 0):=by
 have h:=hr _ (jr hj);generalize l[j]=x at h⊢;obtain⟨n,rfl⟩:=jdm h.1;have hlt:n<p.st.length:=by omega
 exact⟨p.st[n],jr hlt,by rw[Int.toNat_natCast,j7 hlt],ja hlt⟩
theorem jds{p:Prf}{s:Stp}(j:Nat)(hj:j<s.par.length){k:Int}(hk:k=(j:Int)){q:Stp}(hq:jk 4 (yj p.st) (vi s.par[j])=some (.elt (stc q) 0)) :
  Ql (vi k) (cls p.ax) (yj p.st) (vi s.rule) (ints s.par) (ints s.whr) (.sl 3 (s.cls.map jN))=some (.top,[cls p.ax,yj p.st,vi s.rule,ints s.par,ints s.whr,.sl 3 (s.cls.map jN),.sl 3 (q.cls.map jN)]):=by
 have e:=ixN hj hk;rw[jFq];simp only[je,e,hq,ldC]
section
variable(a b c d e f g:A)
theorem jpR:([a,b,c,d,e,f,g]:Xd)[0]? = some a:=rfl
theorem jpS:([a,b,c,d,e,f,g]:Xd)[1]? = some b:=rfl
theorem jpT:([a,b,c,d,e,f,g]:Xd)[2]? = some c:=rfl
theorem jpU:([a,b,c,d,e,f,g]:Xd)[3]? = some d:=rfl
theorem jpV:([a,b,c,d,e,f,g]:Xd)[4]? = some e:=rfl
theorem jpW:([a,b,c,d,e,f,g]:Xd)[5]? = some f:=rfl
theorem jpX:([a,b,c,d,e,f,g]:Xd)[6]? = some g:=rfl
end
def Res(o:Xe)(r:Option kj):Prop:=∃(c:kj)(b:Bool),o=some (.tup [cm c,vb b],[])/\(b=true->r=some c)/\(b=false->r=none)
theorem Res.of{o:Xe}{r:Option kj}{c:kj}{b:Bool}(h:J6 r=some (.tup [cm c,vb b],[]))(ho:o=some (.tup [cm c,vb b],[])):Res o r:=by
 cases r with
 |none=>exact⟨[],false,by rw[ho,<-h];rfl,(λh=>by cases h),λ_=>rfl⟩
 |some c'=>exact⟨c',true,by rw[ho,<-h];rfl,(λ_=>rfl),λh=>by cases h⟩
def jMn(p:Prf)(s:Stp):Prop:=∃r:Option kj,Res (G 108 [Qu p,stm s]) r/\Res (G 93 [Qu p,stm s]) r/\ ∀c,r=some c->Cz c/\(wfP p=true->jJ c=true)
theorem jGN{p:Prf}(h:wfP p=true):∀c∈p.ax,jJ c=true:=by
 unfold wfP at h;rw[jI,jI]at h;exact λc hc=>yx.1 h.1.2 c hc
theorem Ys{c:kj}(h:jJ c=true):Cz c:=⟨by have:=(kg h).1.1;omega,(kg h).1.tz⟩
theorem jkX(c d:kj)(zc:Cz c)(zd:Cz d)(i side k:Int):G 132 [cm c,vi i,vi side,cm d,vi k,ints []]=some (.tup [cz,vb false],[]):=by
 have n1:=yl c zc.1 zc.2;have n2:=yl d zd.1 zd.2;rw[jC5];cases hc:jJ c<;>rw[hc]at n1
 .simp only[je,n1]
 cases hd:jJ d<;>rw[hd]at n2
 .simp only[je,n1,n2]
 have key:G 159 [cm c,vi i,vi side,cm d,vi k,ints []]=some (.tup [cz,vb false],[]):=by
  obtain⟨cc,_,_,_⟩:=kg hc;obtain⟨cd,_,_,_⟩:=kg hd;have lc:=cc.1;have ld:=cd.1;have p1:=zC c (by omega) i;have p2:=zC d (by omega) k;have p3:=yQ side 0 1;rw[jpQ];cases hi:ZV c i<;>rw[hi]at p1
  .simp only[je,p1]
  cases hk:ZV d k<;>rw[hk]at p2
  .simp only[je,p1,p2]
  cases hs:y8 0 1 side<;>rw[hs]at p3
  .simp only[je,p1,p2,p3]
  obtain⟨m,rfl,hm⟩:=Kc hi;have x1:=ja (k:=3) (f:=jN) hm;have e3:=qj c[m].2;cases hp:c[m].1
  .simp only[je,p1,p2,p3,x1,hp]
  have hl:kP (ints [])=some (vi 0):=rfl;cases he:decide (c[m].2.name=[61])<;>rw[he]at e3
  .simp only[je,p1,p2,p3,x1,ldT,hp,e3]
  .simp only[je,p1,p2,p3,x1,ldT,hp,e3,hl]
 simp only[je,n1,n2,key]
def jch:kj->Option T
 | [l]=>if l.1=true then some l.2 else none
 |_=>none
def qI(p:Prf):Xi->Option Xg
 | []=>some []
 |x::xs=>match p.st[x.toNat]? with
  |some q=>(match jch q.cls with
   |some t=>(qI p xs).map (t::·)
   |none=>none)
  |none=>none
theorem jfe{p:Prf}(hz:∀q∈p.st,Cz q.cls):∀{l:Xi}{rs:Xg},qI p l=some rs->rs.length=l.length/\ ∀r∈rs,Tz r
 | [],rs,h=>by cases h;exact⟨rfl,λr hr=>by cases hr⟩
 |x::xs,rs,h=>by
  unfold qI at h;split at h
  .rename_i q hq;split at h
   .rename_i t ht;rw[Jh]at h;obtain⟨rs',h1,rfl⟩:=h;obtain⟨i1,i2⟩:=jfe hz h1;refine⟨by simp[i1],λr hr=>?_⟩;rcases jK.1 hr with rfl|hr
    .have hm:=hz q (Jx hq);unfold jch at ht;split at ht
     .rename_i l hl;split at ht
      .cases ht;exact hm.2 l (by rw[hl];exact List.mem_cons_self ..)
      .cases ht
     .cases ht
    .exact i2 r hr
   .cases h
  .cases h
theorem Qe{p:Prf}{x:Int}{xs:Xi}{q:Stp}(eq:p.st[x.toNat]? = some q)(hu:jch q.cls=none):qI p (x::xs)=none:=by
 rw[qI,eq];dsimp only;rw[hu]
theorem jg3{p:Prf}{x:Int}{xs:Xi}{q:Stp}{t:T}(eq:p.st[x.toNat]? = some q)(hu:jch q.cls=some t):qI p (x::xs)=(qI p xs).map (t::·):=by
 rw[qI,eq];dsimp only;rw[hu]
theorem jkq(c:kj):(¬((c.length:Nat):Int)=1/\jch c=none)\/ ∃t:Lt,((c.length:Nat):Int)=1/\jk 3 (.sl 3 (c.map jN)) (vi 0)=some (.elt (jN t) 0)/\jch c=if t.1=true then some t.2 else none:=by
 match c with
 | []=>exact Or.inl ⟨by simp,rfl⟩
 | [t]=>exact Or.inr ⟨t,rfl,rfl,rfl⟩
 |t::t'::r=>exact Or.inl ⟨by simp only[j8];omega,rfl⟩
theorem joK(p:Prf)(l:Xi)(hl:l.length<=1048576)(hr:∀x∈l,0<=x/\x<((p.st.length:Nat):Int)) :
  jfE (ints l) (vi (l.length:Nat)) (vi 0) (cls p.ax) (yj p.st) []=match qI p l with|some rs=>some (.tup [jG rs,vb true],[])|none=>some (.tup [.sl 2 [],vb false],[]):=by
 have key:=upto (P:=λi=>∀R:Xg,R.length<=i->jfE (ints l) (vi (l.length:Nat)) (vi (i:Nat)) (cls p.ax) (yj p.st) (R.map jm)=match qI p (l.drop i)with|some rs=>some (.tup [jG (R++rs),vb true],[])|none=>some (.tup [.sl 2 [],vb false],[])) (n:=l.length) ?_ ?_ 0 (Nat.zero_le _) [] (j4 _)
 .simpa only[Int.natCast_zero,List.drop_zero,List.map_nil,yF]using key
 .intro R hR;rw[jzd,List.drop_length];simp only[je,qI,zm]
 .intro i hi ih R hR;have hlt:(i:Int)<((l.length:Nat):Int):=by omega
  have h5:=jo hi (by show l.length<=9223372036854775807;omega)
  have y:=ixN (l:=l) (j:=i) hi (k:=i) rfl;obtain⟨q,mq,eq,xq⟩:=qH hr i hi;have hf:jM (R.length+1) 40=true:=jq0 (by omega);rw[jzd,ji hi];rcases jkq q.cls with⟨hne,hu⟩|⟨t,he,hx,hu⟩
  .rw [Qe eq hu];simp only[je,hlt,y,xq,ldC,hne]
  .cases hb:t.1<;>rw[hb]at hu
   .have hu:jch q.cls=none:=hu;rw[Qe eq hu];simp only[je,hlt,y,xq,ldC,he,hx,hb]
   .have hu:jch q.cls=some t.2:=hu;rw[jg3 eq hu];have:=ih (R++[t.2]) (by rw[zv];simp only[j8,zO];omega);have ha:jR (R.map jm) [[sv t.2.name,jG t.2.args]]=(R++[t.2]).map jm:=by rw[List.map_append,List.map_singleton,kU];rfl
    simp only[je,hlt,y,xq,ldC,he,hx,ldT,hb,hf,ha,h5,this];cases qI p (l.drop (i+1))with
    |none=>rfl
    |some rs=>simp only[qR,ze,Zp,yF]
theorem jj3(p:Prf)(l:Xi)(hl:l.length<=1048576)(hr:∀x∈l,0<=x/\x<((p.st.length:Nat):Int))(h1:1<=l.length) :
  Zv (ints l) (vi 1) (cls p.ax) (yj p.st) [] [] []=match qI p (l.drop 1)with|some rs=>Zv (ints l) (vi (l.length:Nat)) (cls p.ax) (yj p.st) (rs.map jm) [] []|none=>some (.tup [cz,vb false],[]):=by
 have key:=upto (P:=λi=>∀R:Xg,R.length<=i->Zv (ints l) (vi (i:Nat)) (cls p.ax) (yj p.st) (R.map jm) [] []=match qI p (l.drop i)with|some rs=>Zv (ints l) (vi (l.length:Nat)) (cls p.ax) (yj p.st) ((R++rs).map jm) [] []|none=>some (.tup [cz,vb false],[])) (n:=l.length) ?_ ?_ 1 h1 [] (Nat.zero_le _)
 .simpa only[Int.natCast_one,List.map_nil,yF]using key
 .intro R hR;rw[List.drop_length];simp only[qI,zm]
 .intro i hi ih R hR;have hlt:(i:Int)<((l.length:Nat):Int):=by omega
  have h5:=jo hi (by show l.length<=9223372036854775807;omega)
  have y:=ixN (l:=l) (j:=i) hi (k:=i) rfl;obtain⟨q,mq,eq,xq⟩:=qH hr i hi;have hf:jM (R.length+1) 40=true:=jq0 (by omega);generalize hend:Zv (ints l) (vi (l.length:Nat)) (cls p.ax) (yj p.st)=E at ih⊢;rw[ji7,ji hi];rcases jkq q.cls with⟨hne,hu⟩|⟨t,he,hx,hu⟩
  .rw [Qe eq hu];simp only[je,hlt,y,xq,ldC,hne]
  .cases hb:t.1<;>rw[hb]at hu
   .have hu:jch q.cls=none:=hu;rw[Qe eq hu];simp only[je,hlt,y,xq,ldC,he,hx,hb]
   .have hu:jch q.cls=some t.2:=hu;rw[jg3 eq hu];have:=ih (R++[t.2]) (by rw[zv];simp only[j8,zO];omega);have ha:jR (R.map jm) [[sv t.2.name,jG t.2.args]]=(R++[t.2]).map jm:=by rw[List.map_append,List.map_singleton,kU];rfl
    simp only[je,hlt,y,xq,ldC,he,hx,ldT,hb,hf,ha,h5,this];cases qI p (l.drop (i+1))with
    |none=>rfl
    |some rs=>simp only[qR,ze,Zp,yF]
theorem joI(c:kj)(zc:Cz c)(rs:Xg)(hl:rs.length<=1048576)(hz:∀r∈rs,Tz r)(hm:10<rs.length):G 150 [cm c,jG rs]=some (.tup [cz,vb false],[]):=by
 have m1:=qa c zc.1 zc.2;obtain⟨b,r1,r2,hb⟩:=jrw rs hl hz;rw[jC6];cases hc:jJ c<;>rw[hc]at m1
 .simp only[je,m1]
 cases b
 .simp only[je,m1,r1]
 .have:=(hb rfl).1.1;omega
structure Pz(p:Prf):Prop where
 ax:p.ax.length<=1048576
 st:p.st.length<=1048576
 axs:∀c∈p.ax,Cz c
 par:∀s∈p.st,s.par.length<=1048576
 whr:∀s∈p.st,s.whr.length<=1048576
 wI:∀s∈p.st,∀x∈s.whr,I64 x
 cls:∀s∈p.st,Cz s.cls
theorem Cz.of{c:kj}(h:csz c<=1048576):Cz c:=⟨by unfold csz at h;omega,λl hl=>by have:=jhK hl;unfold csz at h;show tsz l.2<=1048576;omega⟩
theorem Pz.of{p:Prf}(hw:pwf p)(h:psz p<=1048576):Pz p:=by
 unfold psz at h;refine⟨by omega,by omega,λc hc=>?_,λs hs=>?_,λs hs=>?_,λs hs=>(hw.2.1 s hs).2.2.1.1,λs hs=>?_⟩
 .have:=jiF hc;exact Cz.of (by omega)
 .have:=jcb hs;unfold ssz at this;omega
 .have:=jcb hs;unfold ssz at this;omega
 .have:=jcb hs;unfold ssz at this;exact Cz.of (by omega)
theorem jpx(i:Nat)(hi:i<=1048576)(x:Int):G 107 [vi x,.elt [vi (i:Nat)] 0]=some (vb (!y8 0 ((i:Int)-1) x),[]):=by
 have c1:ck ((i:Int)-1)=some (vi ((i:Int)-1)):=jV (by omega) (by omega);have e:=yQ x 0 ((i:Int)-1);have ld:j9 (.elt [vi (i:Nat)] 0)=some (vi (i:Nat)):=rfl;rw[jJw];simp only[je,ld,c1,e]
theorem jnT(i:Nat)(hi:i<=1048576)(l:Xi)(hl:l.length<=1048576):G 106 [ints l,.fn 107 [.elt [vi (i:Nat)] 0]]=some (vb (!l.all (y8 0 ((i:Int)-1))),[]):=by
 have key:=upto (P:=λj=>∃k:Int,jmR (ints l) (.fn 107 [.elt [vi (i:Nat)] 0]) (vi (l.length:Nat)) (vi (j:Nat))=some (vi k,[])/\decide (k>=0)=!(l.drop j).all (y8 0 ((i:Int)-1))) (n:=l.length) ?_ ?_ 0 (Nat.zero_le _)
 .obtain ⟨k,h1,h2⟩:=key;simp only[Int.natCast_zero,List.drop_zero]at h1 h2;have e2:G 128 [ints l,.fn 107 [.elt [vi (i:Nat)] 0]]=some (vi k,[]):=by
   rw[jJI];simp only[je,h1]
  rw[jJv,<-h2];simp only[je,e2]
 .refine ⟨-1,?_,?_⟩
  .rw [jzc];simp only[je]
  .rw [List.drop_length];rfl
 .intro j hj ⟨k,ih1,ih2⟩;have hlt:(j:Int)<((l.length:Nat):Int):=by omega
  have h5:=jo hj (by show l.length<=9223372036854775807;omega)
  have e1:=jpx i hi l[j];have hp:K.pureF 107=true:=rfl;have cc:DX.run K (MM K) (.callc (.fn 107 [.elt [vi (i:Nat)] 0]) [vi l[j]] false)=some (vb (!y8 0 ((i:Int)-1) l[j])):=by
   rw[qx hp,List.singleton_append,e1];rfl
  rw[jzc,ji hj,zR];cases hn:y8 0 ((i:Int)-1) l[j]<;>rw[hn]at cc
  .refine ⟨j,?_,?_⟩
   .simp only[je,hlt,ja hj,Yx,cc]
   .rw [decide_eq_true (by omega)];rfl
  .refine ⟨k,?_,?_⟩
   .simp only[je,hlt,ja hj,Yx,cc,h5,ih1]
   .rw [ih2,Bool.true_and]
theorem Qq(p:Prf)(s:Stp)(i:Nat)(hi:i<=1048576)(hl:s.par.length<=1048576) :
  jc1 (vi (i:Nat)) (vi 0) (cls p.ax) (yj p.st) (vi s.rule) (ints s.par) (ints s.whr) (.sl 3 (s.cls.map jN))=if s.par.all (y8 0 ((i:Int)-1))then jc1 (vi (i:Nat)) (vi (s.par.length:Nat)) (cls p.ax) (yj p.st) (vi s.rule) (ints s.par) (ints s.whr) (.sl 3 (s.cls.map jN))else some (vb false,[]):=by
 generalize hend:jc1 (vi (i:Nat)) (vi (s.par.length:Nat)) (cls p.ax) (yj p.st) (vi s.rule) (ints s.par) (ints s.whr) (.sl 3 (s.cls.map jN))=E;have key:=upto (P:=λj=>jc1 (vi (i:Nat)) (vi (j:Nat)) (cls p.ax) (yj p.st) (vi s.rule) (ints s.par) (ints s.whr) (.sl 3 (s.cls.map jN))=if(s.par.drop j).all (y8 0 ((i:Int)-1))then E else some (vb false,[])) (n:=s.par.length) ?_ ?_ 0 (Nat.zero_le _)
 .simpa only[Int.natCast_zero,List.drop_zero]using key
 .rw [List.drop_length,hend];rfl
 .intro j hj ih;have c1:ck ((i:Int)-1)=some (vi ((i:Int)-1)):=jV (by omega) (by omega);have hlt:(j:Int)<((s.par.length:Nat):Int):=by omega
  have h5:=jo hj (by show s.par.length<=9223372036854775807;omega)
  have e1:=zW s.par[j] 0 ((i:Int)-1);rw[jvb,ji hj,zR];cases hn:y8 0 ((i:Int)-1) s.par[j]<;>rw[hn]at e1
  .rw [Bool.false_and];simp only[je,hlt,ja hj,Yx,c1,e1]
  .rw [Bool.true_and,<-ih];simp only[je,hlt,ja hj,Yx,c1,e1,h5]
structure Mdl where
 M:Xb->Xi->Int
 Q:Xb->Xi->Bool
 good:Int->Prop
 ok:∀n vs,good (M n vs)
def Y7(m:Mdl)(e:Xb->Int)(t:T):Bool:=if t.name=[61]/\t.args.length=2 then decide (val m.M e (Kx t)=val m.M e (Qw t))else m.Q t.name (t.args.map (val m.M e))
def clV(m:Mdl)(e:Xb->Int)(c:kj):Prop:=∃l∈c,Y7 m e l.2=l.1
def jpb(m:Mdl)(e:Xb->Int):Prop:=∀x,m.good (e x)
def trM(m:Mdl)(c:kj):Prop:=∀e,jpb m e->clV m e c
def Sd(ps:List kj)(x:kj):Prop:=∀m:Mdl,(∀c∈ps,trM m c)->trM m x
theorem juz{t:T}(h:t.args.length=2):t.args=[Kx t,Qw t]:=by
 obtain⟨n,us⟩:=t
 match us,h with
 | [a,b],_=>rfl
theorem QH{m:Mdl}{e e':Xb->Int}{a b:T}(hn:a.name=b.name)(hv:a.args.map (val m.M e)=b.args.map (val m.M e')):Y7 m e a=Y7 m e' b:=by
 have hl:a.args.length=b.args.length:=by have:=congrArg List.length hv;simpa using this
 unfold Y7;rw[hn,hl];by_cases c:b.name=[61]/\b.args.length=2
 .rw [jg c,jg c];have ha:=juz (t:=a) (by rw[hl];exact c.2);have hb:=juz c.2;rw[ha,hb]at hv;simp only[kK,List.map_nil,KH]at hv;rw[hv.1,hv.2.1]
 .rw [jh c,jh c,hv]
section
variable(m:Mdl)
theorem jyS(u:jw)(e:Xb->Int){t:T}(h:Bx t):Y7 m e (sub u t)=Y7 m (λx=>val m.M e (qY u x)) t:=by
 have hv:=h.nv;refine QH (jfj hv) ?_;rw[jcc hv,YT];exact List.map_congr_left λa ha=>jfs u e a (h.args a ha)
theorem Zc{e:Xb->Int}(he:jpb m e)(u:jw):jpb m (λx=>val m.M e (qY u x)):=λ_=>jr5 m.ok he _
theorem jFM{u:jw}{e:Xb->Int}{l:kj}(hb:∀y∈l,Bx y.2)(h:clV m (λx=>val m.M e (qY u x)) l):clV m e (l.map λx=>(x.1,sub u x.2)):=by
 obtain⟨x,hx,hh⟩:=h;exact⟨(x.1,sub u x.2),yn.2 ⟨x,hx,rfl⟩,by show Y7 m e (sub u x.2)=x.1;rw[jyS m u e (hb x hx)];exact hh⟩
theorem jEd{f:Xb->Xb}(hf:∀n,js n=true->js (f n)=true)(e:Xb->Int):∀t:T,zy t=true->val m.M e (kZ f t)=val m.M (λx=>e (f x)) t:=by
 refine T.ind λt ih=>?_;intro ht;rw[Qc];cases hv:js t.name with
 |true=>
  rw[jg rfl,jcO (t:=t) ht hv,jaN];show(if([]:Xg).isEmpty && upN (f t.name)then e (f t.name)else _)=_;rw[jo1 (hf _ hv)];rfl
 |false=>
  have hs:=jfr (jjB ht hv);rw[jh Bool.false_ne_true,Qg (t:= .mk t.name (t.args.map (kZ f))) hs,Qg (t:=t) hs];show m.M t.name ((t.args.map (kZ f)).map (val m.M e))=_;rw[YT];exact congrArg _ (List.map_congr_left λa ha=>ih a ha (kO ht a ha))
theorem jyR{f:Xb->Xb}(hf:∀n,js n=true->js (f n)=true)(e:Xb->Int){t:T}(h:Bx t):Y7 m e (kZ f t)=Y7 m (λx=>e (f x)) t:=by
 have hv:=h.nv;refine QH (jb3 hv) ?_;rw[QQ hv,YT];exact List.map_congr_left λa ha=>jEd m hf e a (h.args a ha)
variable{m}
theorem jBI{f:Xb->Xb}(hf:∀n,js n=true->js (f n)=true){c:kj}(hb:∀y∈c,Bx y.2)(h:trM m c):trM m (c.map λl=>(l.1,kZ f l.2)):=by
 intro e he;obtain⟨x,hx,hh⟩:=h (λx=>e (f x)) λx=>he _;exact⟨(x.1,kZ f x.2),yn.2 ⟨x,hx,rfl⟩,by show Y7 m e (kZ f x.2)=x.1;rw[jyR m hf e (hb x hx)];exact hh⟩
theorem jvJ{l:kj}(h:trM m l):trM m (yR cmpL l):=λe he=>by
 obtain⟨x,hx,hh⟩:=h e he;exact⟨x,jcy.2 hx,hh⟩
theorem jpt{p:UInt8}(hp:upc p=true){c:kj}(hc:CN c):∀n,js n=true->js (zk p (kV c) n)=true:=λn hn=>jfW hp (by have:=Jp hc;omega) hn
theorem jD7{p:UInt8}(hp:upc p=true){c:kj}(hc:CN c)(h:trM m c):trM m (renC p c):=jvJ (jBI (jpt hp hc) (λy hy=>(hc.2 y hy).1) h)
theorem jrX:∀(k:Nat){c:kj},CN c->trM m c->trM m (normF k c)
 |0,_,_,h=>h
 |k+1,c,hc,h=>by
  rw[normF];split
  .exact h
  .exact jrX k (hc.renC (by decide)) (jD7 (by decide) hc h)
theorem jrW{d:kj}(hd:jJ d=true)(h:trM m d):trM m (jD d):=jBI (jpt (by decide) (kg hd).1) (λy hy=>((kg hd).1.2 y hy).1) h
theorem jfd{u:jw}{l x:kj}(hx:qE u l=some x)(hb:∀y∈l,Bx y.2)(hl:∀e,jpb m e->clV m (λx=>val m.M e (qY u x)) l):trM m x:=by
 unfold qE at hx;rw[yG]at hx;obtain⟨d,hd,hx⟩:=hx;have hv:=(jac hd).1;split at hx
 .cases hx;refine jrX 10 (JF hv).1 ?_;unfold Yg at hd;split at hd
  .cases hd;exact jvJ λe he=>jFM m hb (hl e he)
  .cases hd
 .cases hx
end
def jnI(M:Xb->Xi->Int)(e:Xb->Int)(s:jw):Prop:=∀q∈s,e q.1=val M e q.2
section
variable{M:Xb->Xi->Int}{e:Xb->Int}
theorem jBl{s:jw}(h:jnI M e s){n:Xb}(hn:js n=true):val M e (qY s n)=e n:=by
 rw[qY];cases hl:look s n with
 |some r=>exact(h _ (JA hl)).symm
 |none=>
  show val M e (.mk n [])=e n;rw[jaN];show(if([]:Xg).isEmpty && upN n then e n else _)=_;rw[jo1 hn];rfl
theorem joM{s:jw}(h:jnI M e s){t:T}(ht:zy t=true):val M e (sub s t)=val M e t:=by
 rw[jfs s e t ht];exact jxr t ht λx hx=>jBl h (jr8 t hx)
theorem jBN{a b:T}(ha:zy a=true)(hb:zy b=true)(va:js a.name=false)(vb:js b.name=false)(hn:a.name=b.name)(hv:a.args.map (val M e)=b.args.map (val M e)):val M e a=val M e b:=by
 rw[Qg (t:=a) (jfr (jjB ha va)),Qg (t:=b) (jfr (jjB hb vb)),hn,hv]
theorem jo4:∀{us bs:Xg},us.length=bs.length->(∀p∈us.zip bs,val M e p.1=val M e p.2)->us.map (val M e)=bs.map (val M e)
 | [],[],_,_=>rfl
 |a::us,b::bs,hl,h=>by
  rw[kK,kK,h (a,b) (by simp),jo4 (by simpa using hl) λp hp=>h p (by simp[hp])]
 | [],b::bs,hl,_=>by cases hl
 |a::us,[],hl,_=>by cases hl
theorem jr2:∀(k:Nat)(s:jw)(es:Jy){u:jw},K6 s es->(∀p∈es,zy p.1=true/\zy p.2=true)->zh k s es=some (some u)->jnI M e u->jnI M e s/\ ∀p∈es,val M e p.1=val M e p.2:=by
 intro k;induction k with
 |zero=>
  intro s es u h ho hu hs;cases es with
  |nil=>simp only[zh,zI]at hu;rw[hu];exact⟨hs,λp hp=>by cases hp⟩
  |cons p es=>simp[zh]at hu
 |succ k ih=>
  intro s es u h ho hu hs;cases es with
  |nil=>simp only[zh,zI]at hu;rw[hu];exact⟨hs,λp hp=>by cases hp⟩
  |cons p es=>
   obtain⟨l,r⟩:=p;rw[zh]at hu;cases hst:yM s l r es with
   |none=>
    have hst:yM s (l,r).1 (l,r).2 es=none:=hst;rw[hst]at hu;simp at hu
   |some q=>
    have hst':yM s (l,r).1 (l,r).2 es=some q:=hst;rw[hst']at hu;obtain⟨s',es'⟩:=q;have hu:zh k s' es'=some (some u):=hu;have hinv:=(ym h hst).1;obtain⟨ol,or'⟩:=ho (l,r) (List.mem_cons_self ..);have ores:∀p∈es,zy p.1=true/\zy p.2=true:=λp hp=>ho p (List.mem_cons_of_mem _ hp);obtain⟨hv,hi,he⟩:=h;have hk:=JG hv;have kl:=YM hk l ol;have kr:=YM hk r or';have fin:∀{es0:Jy},jnI M e s->val M e (sub s l)=val M e (sub s r)->(∀p∈es,val M e p.1=val M e p.2)->jnI M e s/\ ∀p∈(l,r)::es,val M e p.1=val M e p.2:=by
     intro _ h1 h2 h3;refine⟨h1,λp hp=>?_⟩;rcases jK.1 hp with rfl|hp
     .rw [joM h1 ol,joM h1 or']at h2;exact h2
     .exact h3 p hp
    unfold yM at hst;split at hst
    .cases hst
    split at hst
    .rename_i heq;cases hst;obtain⟨h1,h2⟩:=ih s es hinv ores hu hs;exact fin (es0:=[]) h1 (by rw[y7.1 heq]) h2
    split at hst
    .rename_i hvar;split at hst
     .cases hst
     rename_i hno;cases hst;obtain⟨h1,h2⟩:=ih _ es hinv ores hu hs;have c1:(jE (sub s l) (sub s r)).1 ∉ kL (jE (sub s l) (sub s r)).2:=λh=>hno (Or.inl h);have c3:jL [jE (sub s l) (sub s r)]=true:=by
      cases h:jL [jE (sub s l) (sub s r)]with
      |true=>rfl
      |false=>exact absurd (Or.inr (Or.inl h)) hno
     obtain⟨_,_,h4⟩:=j5 c3;obtain⟨k1,_,k3⟩:=h4 _ (List.mem_singleton_self _);have hb:look s (jE (sub s l) (sub s r)).1=none/\(∀x∈kL (jE (sub s l) (sub s r)).2,look s x=none)/\(e (jE (sub s l) (sub s r)).1=val M e (jE (sub s l) (sub s r)).2->val M e (sub s l)=val M e (sub s r)):=by
      unfold jE;split
      .rename_i hc;have hy:js (sub s r).name=true:=by
        rcases hc with hc|hc
        .rcases hvar with h|h
         .rw [hc]at h;cases h
         .exact h
        .exact hc.1
       exact⟨YQ hi r (by rw[vsv hy];simp),λx hx=>YQ hi l hx,λh=>by rw[jcO kr hy];exact h.symm⟩
      .rename_i hc;have hx:js (sub s l).name=true:=by
        cases h:js (sub s l).name with
        |true=>rfl
        |false=>exact absurd (Or.inl h) hc
       exact⟨YQ hi l (by rw[vsv hx];simp),λx hx=>YQ hi r hx,λh=>by rw[jcO kl hx];exact h⟩
     generalize jE (sub s l) (sub s r)=b at *;obtain⟨n,t⟩:=b;obtain⟨_,_,c5,_⟩:=jiG hv hi k1 hb.1 hb.2.1 c1 k3;have hb1:e n=val M e t:=h1 (n,t) ((c5 _).2 (Or.inr rfl));have hsb:jnI M e [(n,t)]:=λq hq=>by rw[zx.1 hq];exact hb1
     have hss:jnI M e s:=λq hq=>by
      have:=h1 _ ((c5 _).2 (Or.inl ⟨q,hq,rfl⟩));have h6:val M e (sub [(n,t)] q.2)=val M e q.2:=joM hsb (hk q hq);rw[<-h6];exact this
     exact fin (es0:=[]) hss (hb.2.2 hb1) h2
    .rename_i hnv;split at hst
     .rename_i hnm;cases hst;have v1:js (sub s l).name=false:=by
       cases h:js (sub s l).name with
       |false=>rfl
       |true=>exact absurd (Or.inl h) hnv
      have v2:js (sub s r).name=false:=by
       cases h:js (sub s r).name with
       |false=>rfl
       |true=>exact absurd (Or.inr h) hnv
      obtain⟨h1,h2⟩:=ih s _ hinv (λp hp=>by
       rcases kW.1 hp with hp|hp
       .have hm:=List.of_mem_zip (a:=p.1) (b:=p.2) hp;exact⟨kO kl _ hm.1,kO kr _ hm.2⟩
       .exact ores p hp) hu hs
      exact fin (es0:=[]) h1 (jBN kl kr v1 v2 hnm.1 (jo4 hnm.2 λp hp=>h2 p (ZO _ hp))) λp hp=>h2 p (YS _ hp)
     .cases hst
theorem jjo:∀{u:jw}{q:Xb×T},(u.map Prod.fst).Nodup->q∈u->look u q.1=some q.2
 |p::u,q,hn,hq=>by
  rw[look];rcases jK.1 hq with rfl|hq
  .rw [jg rfl]
  .rw [kK,jdl]at hn;rw[jh (λe=>hn.1 (by rw[e];exact yn.2 ⟨q,hq,rfl⟩))];exact jjo hn.2 hq
theorem jBk{u:jw}(hv:jL u=true)(hi:IdS u):jnI M (λx=>val M e (qY u x)) u:=by
 intro q hq;have hk:=JG hv;have hl:=jjo (jbS hv) hq;show val M e (qY u q.1)=val M (λx=>val M e (qY u x)) q.2;rw[<-jfs u e q.2 (hk q hq),jgm q.2 (hk q hq) λx hx=>hi q hq x hx,qY,hl];rfl
theorem jkp{a b:T}(ha:Bx a)(hb:Bx b)(na:nodes a<=31)(nb:nodes b<=31){u:jw}(hu:Jw a b=some u):a.name=b.name/\a.args.map (val M λx=>val M e (qY u x))=b.args.map (val M λx=>val M e (qY u x)):=by
 obtain⟨k,hk⟩:=Zl (ha.exx na) (hb.exx nb);rw[hu]at hk;have hinv:=jmr (ha.exx na) (hb.exx nb);obtain⟨hv,hi⟩:=jko k _ _ hinv hk;have hs:=jBk (M:=M) (e:=e) hv hi;cases k with
 |zero=>simp[zh]at hk
 |succ k=>
  rw[zh]at hk;have v1:=ha.nv;have v2:=hb.nv;have i1:∀t∈a.args,sub [] t=t:=λt ht=>jgm t (ha.args t ht) λx _=>rfl;have i2:∀t∈b.args,sub [] t=t:=λt ht=>jgm t (hb.args t ht) λx _=>rfl;have e1:sub [] a=a:=by rw[qh v1,List.map_congr_left i1,List.map_id',T.eta]
  have e2:sub [] b=b:=by rw[qh v2,List.map_congr_left i2,List.map_id',T.eta]
  cases hst:yM [] a b []with
  |none=>
   have hst:yM [] (a,b).1 (a,b).2 []=none:=hst;rw[hst]at hk;simp at hk
  |some q=>
   have hst':yM [] (a,b).1 (a,b).2 []=some q:=hst;rw[hst']at hk;obtain⟨s',es'⟩:=q;have hk:zh k s' es'=some (some u):=hk;have hinv2:=(ym hinv hst).1;unfold yM at hst;rw[e1,e2]at hst;split at hst
   .cases hst
   split at hst
   .rename_i heq;rw[y7.1 heq];exact⟨rfl,rfl⟩
   split at hst
   .rename_i hvar;rw[v1,v2]at hvar;rcases hvar with h|h<;>cases h
   .split at hst
    .rename_i hnm;cases hst;rw[zm]at hk hinv2;obtain⟨_,h2⟩:=jr2 k _ _ hinv2 (λp hp=>by
      have hm:=List.of_mem_zip (a:=p.1) (b:=p.2) hp;exact⟨ha.args _ hm.1,hb.args _ hm.2⟩) hk hs
     exact⟨hnm.1,jo4 hnm.2 h2⟩
    .cases hst
end
theorem Yc{α:Type}{c:List α}{m:Nat}(h:m<c.length){l:α}(hl:l∈c):l=c[m]\/l∈c.eraseIdx m:=by
 obtain⟨i,hi,rfl⟩:=List.getElem_of_mem hl;by_cases e:i=m
 .subst e;exact Or.inl rfl
 .exact Or.inr (List.mem_eraseIdx_iff_getElem.2 ⟨i,hi,e,rfl⟩)
theorem jv5{α:Type}{c:List α}{m n:Nat}(h:m<c.length)(e:m≠n):c[m]∈c.eraseIdx n:=List.mem_eraseIdx_iff_getElem.2 ⟨m,h,e,rfl⟩
theorem QE{c:kj}(h:CN c)(m:Nat):∀y∈c.eraseIdx m,Bx y.2:=λy hy=>(h.2 y (List.mem_of_mem_eraseIdx hy)).1
theorem jms{M:Xb->Xi->Int}{e:Xb->Int}{a b:T}(ka:zy a=true)(kb:zy b=true)(na:nodes a<=31)(nb:nodes b<=31){u:jw}(hu:Jw a b=some u):val M (λx=>val M e (qY u x)) a=val M (λx=>val M e (qY u x)) b:=by
 have xa:Exx a:=⟨Or.inl ka,na⟩;have xb:Exx b:=⟨Or.inl kb,nb⟩;obtain⟨k,hk⟩:=Zl xa xb;rw[hu]at hk;have hinv:=jmr xa xb;obtain⟨hv,hi⟩:=jko k _ _ hinv hk;exact(jr2 k _ _ hinv (λp hp=>by rw[zx.1 hp];exact⟨ka,kb⟩) hk (jBk (M:=M) (e:=e) hv hi)).2 (a,b) (List.mem_singleton_self _)
theorem jtR{c d:kj}(hc:CN c)(hd:jJ d=true){m n:Nat}(hm:m<c.length)(hn:n<(jD d).length)(hs:¬c[m].1=(jD d)[n].1){u:jw}(hu:Jw c[m].2 (jD d)[n].2=some u){x:kj}(hx:qE u (c.eraseIdx m++(jD d).eraseIdx n)=some x):Sd [c,d] x:=by
 intro M hM;have tc:=hM c (by simp);have td:=jrW hd (hM d (by simp));have ce:=jep hd;refine jfd hx (λy hy=>(kW.1 hy).elim (QE hc m y) (QE ce n y)) λe he=>?_;obtain⟨l,hl,h1⟩:=tc _ (Zc M he u);obtain⟨l',hl',h2⟩:=td _ (Zc M he u);rcases Yc hm hl with h|h
 .rcases Yc hn hl' with h'|h'
  .exfalso;have b1:=hc.2 _ (jr hm);have b2:=ce.2 _ (jr hn);obtain⟨e1,e2⟩:=jkp (M:=M.M) (e:=e) b1.1 b2.1 (by omega) (by omega) hu;have:=QH (m:=M) e1 e2;rw[h]at h1;rw[h']at h2;exact hs (by rw[<-h1,<-h2,this])
  .exact ⟨l',YS _ h',h2⟩
 .exact ⟨l,ZO _ h,h1⟩
theorem jw0{c:kj}(hc:CN c){m n:Nat}(hm:m<c.length)(hn:n<c.length)(hmn:m≠n)(hs:c[m].1=c[n].1){u:jw}(hu:Jw c[m].2 c[n].2=some u){x:kj}(hx:qE u (c.eraseIdx n)=some x):Sd [c] x:=by
 intro M hM;have tc:=hM c (by simp);refine jfd hx (QE hc n) λe he=>?_;obtain⟨l,hl,h1⟩:=tc _ (Zc M he u);rcases Yc hn hl with h|h
 .have b1:=hc.2 _ (jr hm);have b2:=hc.2 _ (jr hn);obtain⟨e1,e2⟩:=jkp (M:=M.M) (e:=e) b1.1 b2.1 (by omega) (by omega) hu;have:=QH (m:=M) e1 e2;rw[h]at h1;exact⟨c[m],jv5 hm hmn,by rw[this,h1,hs]⟩
 .exact ⟨l,h,h1⟩
theorem jiV(M:Mdl)(e:Xb->Int){t:T}(hn:t.name=[61])(hl:t.args.length=2):Y7 M e t=decide (val M.M e (Kx t)=val M.M e (Qw t)):=by
 unfold Y7;rw[jg ⟨hn,hl⟩]
theorem joN{c:kj}(hc:CN c){m:Nat}(hm:m<c.length)(hs:c[m].1=false)(he:c[m].2.name=[61])(hl:c[m].2.args.length=2)(k0:zy (Yh c[m].2)=true)(k1:zy (Qp c[m].2)=true)(n0:nodes (Yh c[m].2)<=30)(n1:nodes (Qp c[m].2)<=30){u:jw}(hu:Jw (Yh c[m].2) (Qp c[m].2)=some u){x:kj}(hx:qE u (c.eraseIdx m)=some x):Sd [c] x:=by
 intro M hM;have tc:=hM c (by simp);refine jfd hx (QE hc m) λe hg=>?_;obtain⟨l,hl',h1⟩:=tc _ (Zc M hg u);rcases Yc hm hl' with h|h
 .exfalso;have hv:=jms (M:=M.M) (e:=e) k0 k1 (by omega) (by omega) hu;rw[h,jiV M _ he hl,hs]at h1;exact absurd (decide_eq_true (show val M.M _ (Kx c[m].2)=val M.M _ (Qw c[m].2) from hv)) (by rw[h1];decide)
 .exact ⟨l,h,h1⟩
theorem jsb{M:Xb->Xi->Int}{e:Xb->Int}{r:T} :∀(p:Xf)(t:T),okP p t->val M e r=val M e (atT p t)->val M e (kJ r p t)=val M e t/\(p≠ []->(kJ r p t).name=t.name/\(kJ r p t).args.map (val M e)=t.args.map (val M e))
 | [],t,_,h=>⟨h,λh=>absurd rfl h⟩
 |i::p,t,hk,h=>by
  obtain⟨h1,h2⟩:=hk;rw[atT]at h;obtain⟨q,_⟩:=jsb p _ h2 h;have hargs:(kJ r (i::p) t).args.map (val M e)=t.args.map (val M e):=by
   rw[kJ];show(t.args.set i (kJ r p (t.args.getD i (.mk [] [])))).map (val M e)=_;rw[List.map_set,q,yU h1];have:(t.args.map (val M e))[i]'(by rw[List.length_map];exact h1)=val M e t.args[i]:=List.getElem_map _;rw[<-this];exact List.set_getElem_self _
  have hlen:(kJ r (i::p) t).args.isEmpty=false/\t.args.isEmpty=false:=by
   constructor
   .rw [kJ];show(t.args.set i _).isEmpty=false;cases hq:t.args with
    |nil=>rw[hq]at h1;simp at h1
    |cons a l=>cases i<;>rfl
   .cases hq:t.args with
    |nil=>rw[hq]at h1;simp at h1
    |cons a l=>rfl
  refine⟨?_,λ_=>⟨rfl,hargs⟩⟩;rw[jaN,jaN M e t,hlen.1,hlen.2,hargs];rfl
theorem joO{c d:kj}(hc:CN c)(hd:jJ d=true){m n:Nat}(hm:m<c.length)(hn:n<(jD d).length)(hs:c[m].1=true)(he:c[m].2.name=[61])(hl2:c[m].2.args.length=2){l r:T}(hlr:(l=Kx c[m].2/\r=Qw c[m].2)\/(l=Qw c[m].2/\r=Kx c[m].2))(kl:zy l=true)(kr:zy r=true)(nl:nodes l<=30){q:Xf}(hq:q≠ [])(hk:okP q (jD d)[n].2)(kw:zy (atT q (jD d)[n].2)=true)(nw:nodes (atT q (jD d)[n].2)<=31){u:jw}(hu:Jw l (atT q (jD d)[n].2)=some u){x:kj}(hx:qE u (c.eraseIdx m++(jD d).eraseIdx n++[((jD d)[n].1,kJ r q (jD d)[n].2)])=some x):Sd [c,d] x:=by
 intro M hM;have tc:=hM c (by simp);have td:=jrW hd (hM d (by simp));have ce:=jep hd;have b2:=ce.2 _ (jr hn);refine jfd hx (λy hy=>?_) λe hg=>?_
 .rcases kW.1 hy with hy|hy
  .exact (kW.1 hy).elim (QE hc m y) (QE ce n y)
  .rw [zx.1 hy];exact jvO kr hq hk b2.1
 obtain⟨y,hy,h1⟩:=tc _ (Zc M hg u);obtain⟨z,hz,h2⟩:=td _ (Zc M hg u);rcases Yc hm hy with h|h
 .rcases Yc hn hz with h'|h'
  .have hv:=jms (M:=M.M) (e:=e) kl kw (by omega) nw hu;rw[h,jiV M _ he hl2,hs,ky]at h1;have hr:val M.M (λx=>val M.M e (qY u x)) r=val M.M (λx=>val M.M e (qY u x)) (atT q (jD d)[n].2):=by
    rcases hlr with⟨rfl,rfl⟩|⟨rfl,rfl⟩
    .rw [<-hv,h1]
    .rw [<-hv,h1]
   obtain⟨w1,w2⟩:=(jsb q _ hk hr).2 hq;refine⟨_,YS _ (List.mem_singleton_self _),?_⟩;show Y7 M _ (kJ r q (jD d)[n].2)=(jD d)[n].1;rw[QH w1 w2,<-h',h2]
  .exact ⟨z,ZO _ (YS _ h'),h2⟩
 .exact ⟨y,ZO _ (ZO _ h),h1⟩
def jk2(ps:List kj)(f g:FuncId)(args:Xd):Prop:=∃r:Option kj,G f args=J6 r/\G g args=J6 r/\ ∀x,r=some x->jJ x=true/\Sd ps x
theorem Jk{ps:List kj}{f g:FuncId}{args:Xd}(h1:G f args=some (.tup [cz,vb false],[]))(h2:G g args=some (.tup [cz,vb false],[])):jk2 ps f g args:=⟨none,h1,h2,λx h=>by cases h⟩
theorem jtI(c d:kj)(hc:jJ c=true)(hd:jJ d=true)(i k:Int):∃r:Option kj,G 157 [cm c,vi i,cm d,vi k]=J6 r/\G 146 [cm c,vi i,cm d,vi k]=J6 r/\ ∀x,r=some x->(jJ x=true/\Sd [c,d] x)/\ ∃(u:jw)(m n:Nat),i=(m:Nat)/\m<c.length/\n<d.length/\qE u (c.eraseIdx m++(jD d).eraseIdx n)=some x:=by
 obtain⟨cc,_,_,_⟩:=kg hc;obtain⟨cd,_,_,_⟩:=kg hd;have lc:=cc.1;have ld:=cd.1;have ce:=jep hd;have le:=jfT d;have a1:=jk9 d hd;have a2:=jfS d hd;have p1:=zC c (by omega) i;have p2:=zC d (by omega) k;have c1:ck (((c.length:Nat):Int)-1)=some (vi (((c.length:Nat):Int)-1)):=jV (by omega) (by omega);have c2:ck ((((jD d).length:Nat):Int)-1)=some (vi ((((jD d).length:Nat):Int)-1)):=jV (by omega) (by omega);have q1:=zW i 0 (((c.length:Nat):Int)-1);have q2:=zW k 0 ((((jD d).length:Nat):Int)-1);have hi':y8 0 (((c.length:Nat):Int)-1) i=ZV c i:=rfl;have hk':y8 0 ((((jD d).length:Nat):Int)-1) k=ZV d k:=by rw[le];rfl
 rw[hi']at q1;rw[hk']at q2;rw[jJ0,jJT];cases hi:ZV c i<;>rw[hi]at p1 q1
 .exact ⟨none,by simp only[je,p1];rfl,by simp only[je,a2,c1,q1];rfl,λx h=>by cases h⟩
 cases hk:ZV d k<;>rw[hk]at p2 q2
 .exact ⟨none,by simp only[je,p1,p2];rfl,by simp only[je,a2,c1,q1,c2,q2];rfl,λx h=>by cases h⟩
 obtain⟨m,rfl,hm⟩:=Kc hi;obtain⟨n,rfl,hn⟩:=Kc hk;have hn2:n<(jD d).length:=by omega
 have sg:(jD d)[n].1=d[n].1:=jvV d n hn2 hn;have x1:=ja (k:=3) (f:=jN) hm;have x2:=ja (k:=3) (f:=jN) hn;have x3:=ja (k:=3) (f:=jN) hn2;have hb1:=cc.2 _ (jr hm);have hb2:=ce.2 _ (jr hn2);have u1:=jfq c[m].2 (jD d)[n].2 (hb1.1.exx (by omega)) (hb2.1.exx (by omega));have u2:=jat c[m].2 (jD d)[n].2 (hb1.1.exx (by omega)) (hb2.1.exx (by omega));have hval:∀s,Jw c[m].2 (jD d)[n].2=some s->jL s=true:=λs hs=>Z6 (hb1.1.exx (by omega)) (hb2.1.exx (by omega)) hs;by_cases hs:c[m].1=d[n].1
 .have hs2:c[m].1=(jD d)[n].1:=by rw[sg];exact hs
  exact⟨none,by simp only[je,p1,p2,x1,x2,adL,ldB,hs];rfl,by simp only[je,a2,c1,q1,c2,q2,x1,x3,adL,ldB,hs2];rfl,λx h=>by cases h⟩
 have hs1:=decide_eq_false hs;have hs2:decide (c[m].1=(jD d)[n].1)=false:=by rw[sg];exact hs1
 obtain⟨u,b,hu,hut,huf⟩:=jcB (Jw c[m].2 (jD d)[n].2);rw[hu]at u1 u2;cases b
 .exact ⟨none,by simp only[je,p1,p2,x1,x2,x3,adL,ldB,ldT,hs1,a1,u1];rfl,by simp only[je,a2,c1,q1,c2,q2,x1,x3,adL,ldB,ldT,hs2,u2];rfl,λx h=>by cases h⟩
 have hv:=hval u (hut rfl);have hln:=LN.append cc ce m n;have w1:=K0 c (by omega) m hm;have w2:=K0 (jD d) (by omega) n hn2;have w3:=Kk c (by omega) m hm;have w4:=Kk (jD d) (by omega) n hn2;have cat:=jli [c.eraseIdx m,(jD d).eraseIdx n] (by simp) (λx hx=>by
  simp only[jK,List.not_mem_nil,or_false]at hx;rcases hx with rfl|rfl
  .have:=(LN.erase cc m).1;omega
  .have:=(LN.erase ce n).1;omega)
 have hfl: [c.eraseIdx m,(jD d).eraseIdx n].flatten=c.eraseIdx m++(jD d).eraseIdx n:=by simp
 rw[hfl]at cat;have cat:jfC [[.sl 3 ((c.eraseIdx m).map jN)],[.sl 3 (((jD d).eraseIdx n).map jN)]]=some (.top,[.sl 3 ((c.eraseIdx m++(jD d).eraseIdx n).map jN)]):=cat;have e1:=Zd u hv _ hln;have e2:=Kw u hv _ hln;have hf:jM ((c.eraseIdx m).length+((jD d).eraseIdx n).length) 48=true:=QO (by have:=(LN.erase cc m).1;have:=(LN.erase ce n).1;omega);have ha:jR ((c.eraseIdx m).map jN) (((jD d).eraseIdx n).map jN)=(c.eraseIdx m++(jD d).eraseIdx n).map jN:=by rw[List.map_append];rfl
 refine⟨qE u (c.eraseIdx m++(jD d).eraseIdx n),?_,?_,λx hx=>⟨⟨Zi hx,jtR cc hd hm hn2 (by rw[sg];exact hs) (hut rfl) hx⟩,u,m,n,rfl,hm,hn,hx⟩⟩
 .obtain ⟨c',b',hr⟩:=zw (qE u (c.eraseIdx m++(jD d).eraseIdx n));rw[hr]at e1⊢;generalize c.eraseIdx m++(jD d).eraseIdx n=L at *;simp only[je,p1,p2,x1,x2,x3,adL,ldB,ldT,hs1,a1,u1,w1,w2,cat,hRl,e1]
 .obtain ⟨c',b',hr⟩:=zw (qE u (c.eraseIdx m++(jD d).eraseIdx n));rw[hr]at e2⊢;generalize c.eraseIdx m++(jD d).eraseIdx n=L at *;simp only[je,a2,c1,q1,c2,q2,x1,x3,adL,ldB,ldT,hs2,u2,w3,w4,hRl,hf,ha,e2]
theorem jwU(c d:kj)(hc:jJ c=true)(hd:jJ d=true)(i k:Int):∃r:Option kj,G 157 [cm c,vi i,cm d,vi k]=J6 r/\G 146 [cm c,vi i,cm d,vi k]=J6 r/\ ∀x,r=some x->jJ x=true/\Sd [c,d] x:=by
 obtain⟨r,h1,h2,h3⟩:=jtI c d hc hd i k;exact⟨r,h1,h2,λx hx=>(h3 x hx).1⟩
theorem jkV(c d:kj)(lc:c.length<=1048576)(zc:∀l∈c,Tz l.2)(ld:d.length<=1048576)(zd:∀l∈d,Tz l.2)(i k:Int):jk2 [c,d] 130 116 [cm c,vi i,cm d,vi k]:=by
 have n1:=yl c lc zc;have n2:=yl d ld zd;have m1:=qa c lc zc;have m2:=qa d ld zd;cases hc:jJ c<;>rw[hc]at n1 m1
 .exact Jk (by rw[jFZ];simp only[je,n1]) (by rw[jFX];simp only[je,m1])
 cases hd:jJ d<;>rw[hd]at n2 m2
 .exact Jk (by rw[jFZ];simp only[je,n1,n2]) (by rw[jFX];simp only[je,m1,m2])
 obtain⟨r,e1,e2,e3⟩:=jwU c d hc hd i k;obtain⟨c',b',hr⟩:=zw r;refine⟨r,?_,?_,e3⟩
 .rw [hr]at e1⊢;rw[jFZ];simp only[je,n1,n2,e1]
 .rw [hr]at e2⊢;rw[jFX];simp only[je,m1,m2,e2]
theorem jyM(c:kj)(hc:jJ c=true)(i k:Int)(ib: -9223372036854775808<=i/\i<=9223372036854775807):∃r:Option kj,G 158 [cm c,vi i,vi k]=J6 r/\G 147 [cm c,vi i,vi k]=J6 r/\ ∀x,r=some x->jJ x=true/\Sd [c] x:=by
 obtain⟨cc,_,_,_⟩:=kg hc;have lc:=cc.1;have p1:=zC c (by omega) i;have p2:=zC c (by omega) k;have c1:ck (((c.length:Nat):Int)-1)=some (vi (((c.length:Nat):Int)-1)):=jV (by omega) (by omega);have q1:=zW i 0 (((c.length:Nat):Int)-1);have q2:=zW k (i+1) (((c.length:Nat):Int)-1);have hi':y8 0 (((c.length:Nat):Int)-1) i=ZV c i:=rfl;rw[hi']at q1;rw[jJ1,jJU];cases hi:ZV c i<;>rw[hi]at p1 q1
 .exact ⟨none,by simp only[je,p1];rfl,by simp only[je,c1,q1];rfl,λx h=>by cases h⟩
 obtain⟨m,rfl,hm⟩:=Kc hi;have cm1:ck ((m:Int)+1)=some (vi ((m:Int)+1)):=jV (by omega) (by omega);have hk':y8 ((m:Int)+1) (((c.length:Nat):Int)-1) k=(ZV c k && !decide (k<=(m:Int))):=by
  unfold ZV y8;by_cases h1:k<=(m:Int)
  .rw [decide_eq_false (show ¬(m:Int)+1<=k by omega),decide_eq_true h1,Bool.false_and,Bool.not_true,Bool.and_false]
  .rw [decide_eq_true (show(m:Int)+1<=k by omega),decide_eq_false h1,decide_eq_true (show(0:Int)<=k by omega),Bool.not_false,Bool.and_true]
 rw[hk']at q2;cases hk:ZV c k<;>rw[hk]at p2 q2
 .rw [Bool.false_and]at q2;exact⟨none,by simp only[je,p1,p2];rfl,by simp only[je,c1,q1,cm1,q2];rfl,λx h=>by cases h⟩
 rw[Bool.true_and]at q2;by_cases hik:k<=(m:Int)
 .rw [decide_eq_true hik]at q2;exact⟨none,by simp only[je,p1,p2,hik];rfl,by simp only[je,c1,q1,cm1,q2];rfl,λx h=>by cases h⟩
 have hik':=decide_eq_false hik;rw[hik']at q2;obtain⟨n,rfl,hn⟩:=Kc hk;have x1:=ja (k:=3) (f:=jN) hm;have x2:=ja (k:=3) (f:=jN) hn;have hb1:=cc.2 _ (jr hm);have hb2:=cc.2 _ (jr hn);have u1:=jfq c[m].2 c[n].2 (hb1.1.exx (by omega)) (hb2.1.exx (by omega));have u2:=jat c[m].2 c[n].2 (hb1.1.exx (by omega)) (hb2.1.exx (by omega));by_cases hs:c[m].1=c[n].1;rotate_left
 .have hs1:=decide_eq_false hs;exact⟨none,by simp only[je,p1,p2,hik',x1,x2,adL,ldB,hs1];rfl,by simp only[je,c1,q1,cm1,q2,x1,x2,adL,ldB,hs1];rfl,λx h=>by cases h⟩
 have hs1:=decide_eq_true hs;obtain⟨u,b,hu,hut,huf⟩:=jcB (Jw c[m].2 c[n].2);rw[hu]at u1 u2;cases b
 .exact ⟨none,by simp only[je,p1,p2,hik',x1,x2,adL,ldB,ldT,hs1,u1];rfl,by simp only[je,c1,q1,cm1,q2,x1,x2,adL,ldB,ldT,hs1,u2];rfl,λx h=>by cases h⟩
 have hv:=Z6 (hb1.1.exx (by omega)) (hb2.1.exx (by omega)) (hut rfl);have hln:=LN.erase cc n;have w1:=K0 c (by omega) n hn;have w3:=Kk c (by omega) n hn;have e1:=Zd u hv _ hln;have e2:=Kw u hv _ hln;refine⟨qE u (c.eraseIdx n),?_,?_,λx hx=>⟨Zi hx,jw0 cc hm hn (by omega) hs (hut rfl) hx⟩⟩
 .obtain ⟨c',b',hr⟩:=zw (qE u (c.eraseIdx n));rw[hr]at e1⊢;simp only[je,p1,p2,hik',x1,x2,adL,ldB,ldT,hs1,u1,w1,e1]
 .obtain ⟨c',b',hr⟩:=zw (qE u (c.eraseIdx n));rw[hr]at e2⊢;simp only[je,c1,q1,cm1,q2,x1,x2,adL,ldB,ldT,hs1,u2,w3,hRl,e2]
theorem jn0(c:kj)(lc:c.length<=1048576)(zc:∀l∈c,Tz l.2)(i k:Int)(ib: -9223372036854775808<=i/\i<=9223372036854775807):jk2 [c] 131 117 [cm c,vi i,vi k]:=by
 have n1:=yl c lc zc;have m1:=qa c lc zc;cases hc:jJ c<;>rw[hc]at n1 m1
 .exact Jk (by rw[jHM];simp only[je,n1]) (by rw[jHJ];simp only[je,m1])
 obtain⟨r,e1,e2,e3⟩:=jyM c hc i k ib;obtain⟨c',b',hr⟩:=zw r;refine⟨r,?_,?_,e3⟩
 .rw [hr]at e1⊢;rw[jHM];simp only[je,n1,e1]
 .rw [hr]at e2⊢;rw[jHJ];simp only[je,m1,e2]
theorem jrj(c:kj)(hc:jJ c=true)(i:Int):∃r:Option kj,G 160 [cm c,vi i]=J6 r/\G 149 [cm c,vi i]=J6 r/\ ∀x,r=some x->jJ x=true/\Sd [c] x:=by
 obtain⟨cc,_,_,_⟩:=kg hc;have lc:=cc.1;have p1:=zC c (by omega) i;have c1:ck (((c.length:Nat):Int)-1)=some (vi (((c.length:Nat):Int)-1)):=jV (by omega) (by omega);have q1:=zW i 0 (((c.length:Nat):Int)-1);have hi':y8 0 (((c.length:Nat):Int)-1) i=ZV c i:=rfl;rw[hi']at q1;rw[jJ2,jJV];cases hi:ZV c i<;>rw[hi]at p1 q1
 .exact ⟨none,by simp only[je,p1];rfl,by simp only[je,c1,q1];rfl,λx h=>by cases h⟩
 obtain⟨m,rfl,hm⟩:=Kc hi;have x1:=ja (k:=3) (f:=jN) hm;have hb1:=cc.2 _ (jr hm);have e3:=qj c[m].2;have e4:=jbC c[m] false;generalize hl:c[m]=l at *;have e4:G 176 [ltm l,vb false]=_:=e4;cases hs:l.1<;>rw[hs]at e4
 rotate_left
 .exact ⟨none,by simp only[je,p1,x1,adL,ldB,hs];rfl,by simp only[je,c1,q1,x1,kR,hs,e4,Bool.false_and];rfl,λx h=>by cases h⟩
 by_cases he:l.2.name=[61];rotate_left
 .rw [decide_eq_false he]at e3 e4;exact⟨none,by simp only[je,p1,x1,adL,ldB,ldT,hs,e3];rfl,by simp only[je,c1,q1,x1,kR,hs,e4,Bool.and_false];rfl,λx h=>by cases h⟩
 rw[decide_eq_true he]at e3 e4;obtain⟨l2,k0,k1,n0,n1,i0,i1⟩:=jpL hb1.1 he hb1.2;have u1:=jfq (Yh l.2) (Qp l.2) ⟨Or.inl k0,by omega⟩ ⟨Or.inl k1,by omega⟩;have u2:=jat (Yh l.2) (Qp l.2) ⟨Or.inl k0,by omega⟩ ⟨Or.inl k1,by omega⟩;obtain⟨u,b,hu,hut,huf⟩:=jcB (Jw (Yh l.2) (Qp l.2));rw[hu]at u1 u2;cases b
 .exact ⟨none,by simp only[je,p1,x1,adL,QA,ldA,ldB,ldT,hs,e3,i0,i1,jd,u1];rfl,by simp only[je,c1,q1,x1,kR,hs,e4,Bool.and_self,adL,QA,ldA,i0,i1,jd,u2];rfl,λx h=>by cases h⟩
 have hv:=Z6 ⟨Or.inl k0,by omega⟩ ⟨Or.inl k1,by omega⟩ (hut rfl);have hln:=LN.erase cc m;have w1:=K0 c (by omega) m hm;have w3:=Kk c (by omega) m hm;have e1:=Zd u hv _ hln;have e2:=Kw u hv _ hln;refine⟨qE u (c.eraseIdx m),?_,?_,λx hx=>⟨Zi hx,joN cc hm (by rw[hl];exact hs) (by rw[hl];exact he) (by rw[hl];exact l2) (by rw[hl];exact k0) (by rw[hl];exact k1) (by rw[hl];exact n0) (by rw[hl];exact n1) (by rw[hl];exact hut rfl) hx⟩⟩
 .obtain ⟨c',b',hr⟩:=zw (qE u (c.eraseIdx m));rw[hr]at e1⊢;simp only[je,p1,x1,adL,QA,ldA,ldB,ldT,hs,e3,i0,i1,jd,u1,w1,e1]
 .obtain ⟨c',b',hr⟩:=zw (qE u (c.eraseIdx m));rw[hr]at e2⊢;simp only[je,c1,q1,x1,kR,hs,e4,Bool.and_self,adL,QA,ldA,i0,i1,jd,u2,w3,hRl,e2]
theorem jhg(c:kj)(lc:c.length<=1048576)(zc:∀l∈c,Tz l.2)(i:Int):jk2 [c] 133 119 [cm c,vi i]:=by
 have n1:=yl c lc zc;have m1:=qa c lc zc;cases hc:jJ c<;>rw[hc]at n1 m1
 .exact Jk (by rw[jHN];simp only[je,n1]) (by rw[jHK];simp only[je,m1])
 obtain⟨r,e1,e2,e3⟩:=jrj c hc i;obtain⟨c',b',hr⟩:=zw r;refine⟨r,?_,?_,e3⟩
 .rw [hr]at e1⊢;rw[jHN];simp only[je,n1,e1]
 .rw [hr]at e2⊢;rw[jHK];simp only[je,m1,e2]
theorem jaS(c d:kj)(cc:CN c)(hd:jJ d=true)(m n:Nat)(hm:m<c.length)(hn:n<d.length)(hs:c[m].1=true)(he:c[m].2.name=[61])(hl2:c[m].2.args.length=2)(l r:T)(hlr:(l=Kx c[m].2/\r=Qw c[m].2)\/(l=Qw c[m].2/\r=Kx c[m].2))(side:Int)(hside:y8 0 1 side=true)(sl:jk 2 (jG c[m].2.args) (vi side)=some (.elt (jm l) 0))(sr:jk 2 (jG c[m].2.args) (vi (1-side))=some (.elt (jm r) 0))(kl:zy l=true)(kr:zy r=true)(nl:nodes l<=30)(nr:nodes r<=30)(p:Xi)(hpl:p.length<=1048576)(hp:p≠ []) :
  ∃o:Option kj,G 159 [cm c,vi (m:Nat),vi side,cm d,vi (n:Nat),ints p]=J6 o/\G 148 [cm c,vi (m:Nat),vi side,cm d,vi (n:Nat),ints p]=J6 o/\ ∀x,o=some x->jJ x=true/\Sd [c,d] x:=by
 obtain⟨cd,_,_,_⟩:=kg hd;have lc:=cc.1;have ld:=cd.1;have ce:=jep hd;have le:=jfT d;have a1:=jk9 d hd;have a2:=jfS d hd;have p1:=zC c (by omega) (m:Nat);have p2:=zC d (by omega) (n:Nat);have hi:ZV c (m:Nat)=true:=by unfold ZV;rw[jn4];exact decide_eq_true ⟨by omega,by omega⟩
 have hk:ZV d (n:Nat)=true:=by unfold ZV;rw[jn4];exact decide_eq_true ⟨by omega,by omega⟩
 have c1:ck (((c.length:Nat):Int)-1)=some (vi (((c.length:Nat):Int)-1)):=jV (by omega) (by omega);have c2:ck ((((jD d).length:Nat):Int)-1)=some (vi ((((jD d).length:Nat):Int)-1)):=jV (by omega) (by omega);have q1:=zW (m:Nat) 0 (((c.length:Nat):Int)-1);have q2:=zW (n:Nat) 0 ((((jD d).length:Nat):Int)-1);have q3:=zW side 0 1;have p3:=yQ side 0 1;have hi':y8 0 (((c.length:Nat):Int)-1) (m:Nat)=true:=hi;have hk':y8 0 ((((jD d).length:Nat):Int)-1) (n:Nat)=true:=by rw[le];exact hk
 rw[hi']at q1;rw[hk']at q2;rw[hside]at q3 p3;rw[hi]at p1;rw[hk]at p2;have hn2:n<(jD d).length:=by omega
 have x1:=ja (k:=3) (f:=jN) hm;have x3:=ja (k:=3) (f:=jN) hn2;have hb2:=ce.2 _ (jr hn2);have e3:=qj c[m].2;have e4:=jbC c[m] true;rw[hs,he,decide_eq_true rfl,decide_eq_true rfl,Bool.and_self]at e4;rw[decide_eq_true he]at e3;have e4:G 176 [.agg [vb c[m].1,sv c[m].2.name,jG c[m].2.args],vb true]=some (vb true,[]):=e4;have hp0:¬((p.length:Nat):Int)=0:=by
  cases p with
  |nil=>exact(hp rfl).elim
  |cons _ _=>simp only[j8];omega
 have cs:ck (1-side)=some (vi (1-side)):=by
  unfold y8 at hside;rw[jI,ky,ky]at hside;exact jV (by omega) (by omega)
 have sdx:∀{q:Xf},q≠ []->okP q (jD d)[n].2->zy (atT q (jD d)[n].2)=true->nodes (atT q (jD d)[n].2)<=31-> ∀{u:jw},Jw l (atT q (jD d)[n].2)=some u-> ∀{x:kj},qE u (c.eraseIdx m++(jD d).eraseIdx n++[((jD d)[n].1,kJ r q (jD d)[n].2)])=some x->Sd [c,d] x:=λ{q} hq hk kw nw {u} hu {x} hx=>joO cc hd hm hn2 hs he hl2 hlr kl kr nl hq hk kw nw hu hx;generalize hL:c[m]=L at *;generalize hE:(jD d)[n]=E at *;have tE:=hb2.1.tz (by omega);have t1:=jFj E.2 p tE hpl;have t2:=jFk E.2 p tE hpl;rw[jpQ,jsY];cases hat:atI p E.2 with
 |none=>
  rw[hat]at t1 t2;have t1:G 196 [tm E.2,ints p]=some (.tup [.agg [sv [],.sl 2 []],vb false],[]):=t1;have t2:G 177 [tm E.2,ints p]=some (.tup [.agg [sv [],.sl 2 []],vb false],[]):=t2;refine⟨none,?_,?_,λx h=>by cases h⟩
  .simp only[je,p1,p2,p3,x1,x3,adL,QA,ldA,ldB,ldT,hs,e3,hp0,sl,sr,cs,jd,a1,t1];rfl
  .simp only[je,a2,c1,q1,c2,q2,q3,x1,x3,kR,e4,hp0,adL,QA,ldA,ldB,ldT,sl,sr,cs,jd,t2];rfl
 |some w=>
  rw[hat]at t1 t2;have t1:G 196 [tm E.2,ints p]=some (.tup [tm w,vb true],[]):=t1;have t2:G 177 [tm E.2,ints p]=some (.tup [tm w,vb true],[]):=t2;obtain⟨q,hpe,hq,hw⟩:=jx4 hat;have hqne:q≠ []:=λh=>hp (by rw[hpe,h];rfl);have hql:q.length<=2000000:=by rw[hpe,List.length_map]at hpl;omega
  obtain⟨kw,nw⟩:=jAC hqne hq hb2.1.args;rw[<-hw]at kw nw;obtain⟨tzw,exw⟩:=jdO kw (by omega);obtain⟨tzl,exl⟩:=jdO kl nl;obtain⟨tzr,exr⟩:=jdO kr nr;have v1:=qS w (Or.inl kw);have v2:=zL w.name ((kE w).1 tzw.wf).1;cases hv:js w.name<;>rw[hv]at v1 v2
  rotate_left
  .refine ⟨none,?_,?_,λx h=>by cases h⟩
   .simp only[je,p1,p2,p3,x1,x3,adL,QA,ldA,ldB,ldT,hs,e3,hp0,sl,sr,cs,jd,a1,t1,v1];rfl
   .simp only[je,a2,c1,q1,c2,q2,q3,x1,x3,kR,e4,hp0,adL,QA,ldA,ldB,ldT,sl,sr,cs,jd,t2,v2];rfl
  have u1:=jfq l w exl exw;have u2:=jat l w exl exw;obtain⟨u,b,hu,hut,huf⟩:=jcB (Jw l w);rw[hu]at u1 u2;cases b
  .refine ⟨none,?_,?_,λx h=>by cases h⟩
   .simp only[je,p1,p2,p3,x1,x3,adL,QA,ldA,ldB,ldT,hs,e3,hp0,sl,sr,cs,jd,a1,t1,v1,u1];rfl
   .simp only[je,a2,c1,q1,c2,q2,q3,x1,x3,kR,e4,hp0,adL,QA,ldA,ldB,ldT,sl,sr,cs,jd,t2,v2,u2];rfl
  have hval:=Z6 exl exw (hut rfl);have b1:=Ji u hval l (Or.inl kl) (by omega);have b2:=Ji u hval r (Or.inl kr) (by omega);have b3:=KR u (yw hval).sz l tzl;have b4:=KR u (yw hval).sz r tzr;have tsl:=YY.sub_tz hval (Or.inl kl) (by omega);have tsr:=YY.sub_tz hval (Or.inl kr) (by omega);have b5:=KQ (sub u l) tsl.wf tsl;have b6:=KQ (sub u r) tsr.wf tsr;rw[jcR hval kl]at b5;rw[jcR hval kr]at b6;cases s1:jF (sub u l)<;>rw[s1]at b1 b5
  .have b1:G 198 [sb u,tm l]=some (.tup [.agg [sv [],.sl 2 []],vb false],[]):=b1;obtain⟨z,hz⟩:∃z:T×Bool,G 198 [sb u,tm r]=some (.tup [tm z.1,vb z.2],[]):=by
    cases h:jF (sub u r)<;>rw[h]at b2
    .exact ⟨(.mk [] [],false),b2⟩
    .exact ⟨(sub u r,true),b2⟩
   refine⟨none,?_,?_,λx h=>by cases h⟩
   .simp only[je,p1,p2,p3,x1,x3,adL,QA,ldA,ldB,ldT,hs,e3,hp0,sl,sr,cs,jd,a1,t1,v1,u1,b1,hz];rfl
   .simp only[je,a2,c1,q1,c2,q2,q3,x1,x3,kR,e4,hp0,adL,QA,ldA,ldB,ldT,sl,sr,cs,jd,t2,v2,u2,b3,b4,b5];rfl
  have b1:G 198 [sb u,tm l]=some (.tup [tm (sub u l),vb true],[]):=b1;cases s2:jF (sub u r)<;>rw[s2]at b2 b6
  .have b2:G 198 [sb u,tm r]=some (.tup [.agg [sv [],.sl 2 []],vb false],[]):=b2;refine⟨none,?_,?_,λx h=>by cases h⟩
   .simp only[je,p1,p2,p3,x1,x3,adL,QA,ldA,ldB,ldT,hs,e3,hp0,sl,sr,cs,jd,a1,t1,v1,u1,b1,b2];rfl
   .simp only[je,a2,c1,q1,c2,q2,q3,x1,x3,kR,e4,hp0,adL,QA,ldA,ldB,ldT,sl,sr,cs,jd,t2,v2,u2,b3,b4,b5,b6];rfl
  have b2:G 198 [sb u,tm r]=some (.tup [tm (sub u r),vb true],[]):=b2;obtain⟨o,o1,o2,_⟩:=jqV (sub u l) (sub u r) tsl.wf tsr.wf tsl tsr (by rw[jcR hval kl];exact s1) (by rw[jcR hval kr];exact s2);by_cases h1:o=1
  .refine ⟨none,?_,?_,λx h=>by cases h⟩
   .simp only[je,p1,p2,p3,x1,x3,adL,QA,ldA,ldB,ldT,hs,e3,hp0,sl,sr,cs,jd,a1,t1,v1,u1,b1,b2,o2,h1];rfl
   .simp only[je,a2,c1,q1,c2,q2,q3,x1,x3,kR,e4,hp0,adL,QA,ldA,ldB,ldT,sl,sr,cs,jd,t2,v2,u2,b3,b4,b5,b6,o1,h1];rfl
  by_cases h3:o=3
  .refine ⟨none,?_,?_,λx h=>by cases h⟩
   .have h13:¬(3:Int)=1:=by decide
    simp only[je,p1,p2,p3,x1,x3,adL,QA,ldA,ldB,ldT,hs,e3,hp0,sl,sr,cs,jd,a1,t1,v1,u1,b1,b2,o2,h3,h13];rfl
   .have h13:¬(3:Int)=1:=by decide
    simp only[je,a2,c1,q1,c2,q2,q3,x1,x3,kR,e4,hp0,adL,QA,ldA,ldB,ldT,sl,sr,cs,jd,t2,v2,u2,b3,b4,b5,b6,o1,h3,h13];rfl
  have hint:=jyZ q;have rp1:=jg1 r tzr q E.2 tE hq hql;have rp2:=jo2 r tzr q E.2 tE hq hql;rw[<-hint,<-hpe]at rp1 rp2;have hbw:=jvO kr hqne hq hb2.1;have hnw:=jks r q E.2 hq;have hlnA:=LN.append cc ce m n;have hlen8:(c.eraseIdx m).length<=8/\((jD d).eraseIdx n).length<=8:=⟨by have:=List.length_eraseIdx_le c m;omega,by have:=List.length_eraseIdx_le (jD d) n;have:=ce.1;omega⟩;have hln:LN (c.eraseIdx m++(jD d).eraseIdx n++[(E.1,kJ r q E.2)]):=⟨by
   rw[zv,zv];simp only[j8,zO];omega,λx hx=>by
   rcases kW.1 hx with hx|hx
   .exact hlnA.2 x hx
   .rw [zx.1 hx];exact⟨hbw,by show nodes (kJ r q E.2)<=100;omega⟩⟩
  have w1:=K0 c (by omega) m hm;have w2:=K0 (jD d) (by omega) n hn2;have w3:=Kk c (by omega) m hm;have w4:=Kk (jD d) (by omega) n hn2;have cat:=jli [c.eraseIdx m,(jD d).eraseIdx n,[(E.1,kJ r q E.2)]] (by simp) (λx hx=>by
   simp only[jK,List.not_mem_nil,or_false]at hx;rcases hx with rfl|rfl|rfl
   .omega
   .omega
   .simp)
  have hfl: [c.eraseIdx m,(jD d).eraseIdx n,[(E.1,kJ r q E.2)]].flatten=c.eraseIdx m++(jD d).eraseIdx n++[(E.1,kJ r q E.2)]:=by simp
  rw[hfl]at cat;have cat:jfC [[.sl 3 ((c.eraseIdx m).map jN)],[.sl 3 (((jD d).eraseIdx n).map jN)],[.sl 3 [[vb E.1,sv (kJ r q E.2).name,jG (kJ r q E.2).args]]]]=some (.top,[.sl 3 ((c.eraseIdx m++(jD d).eraseIdx n++[(E.1,kJ r q E.2)]).map jN)]):=cat;have g1:=Zd u hval _ hln;have g2:=Kw u hval _ hln;have hf:jM ((c.eraseIdx m).length+((jD d).eraseIdx n).length) 48=true:=QO (by omega);have ha:jR ((c.eraseIdx m).map jN) (((jD d).eraseIdx n).map jN)=(c.eraseIdx m++(jD d).eraseIdx n).map jN:=by rw[List.map_append];rfl
  have hf2:jM ((c.eraseIdx m++(jD d).eraseIdx n).length+1) 48=true:=QO (by rw[zv];omega)
  have ha2:jR ((c.eraseIdx m++(jD d).eraseIdx n).map jN) [[vb E.1,sv (kJ r q E.2).name,jG (kJ r q E.2).args]]=(c.eraseIdx m++(jD d).eraseIdx n++[(E.1,kJ r q E.2)]).map jN:=by rw[List.map_append (l₁:=c.eraseIdx m++(jD d).eraseIdx n)];rfl
  refine⟨qE u (c.eraseIdx m++(jD d).eraseIdx n++[(E.1,kJ r q E.2)]),?_,?_,λx hx=>⟨Zi hx,sdx hqne hq (by rw[<-hw];exact kw) (by rw[<-hw];omega) (by rw[<-hw];exact hut rfl) hx⟩⟩
  .obtain ⟨c',b',hr⟩:=zw (qE u (c.eraseIdx m++(jD d).eraseIdx n++[(E.1,kJ r q E.2)]));rw[hr]at g1⊢;generalize c.eraseIdx m++(jD d).eraseIdx n++[(E.1,kJ r q E.2)]=Z at *;simp only[je,p1,p2,p3,x1,x3,adL,QA,ldA,ldB,ldT,hs,e3,hp0,sl,sr,cs,jd,a1,t1,v1,u1,b1,b2,o2,h1,h3,rp1];generalize hB:zH _ _ _=B;have hB':B=some (ltm (E.1,kJ r q E.2)):=by rw[<-hB];kernel_rfl
   rw[hB'];simp only[je,w1,w2,cat,hRl,g1]
  .obtain ⟨c',b',hr⟩:=zw (qE u (c.eraseIdx m++(jD d).eraseIdx n++[(E.1,kJ r q E.2)]));rw[hr]at g2⊢;generalize c.eraseIdx m++(jD d).eraseIdx n++[(E.1,kJ r q E.2)]=Z at *;simp only[je,a2,c1,q1,c2,q2,q3,x1,x3,kR,e4,hp0,adL,QA,ldA,ldB,ldT,sl,sr,cs,jd,t2,v2,u2,b3,b4,b5,b6,o1,h1,h3,w3,w4,hRl,hf,ha,rp2];generalize hB:zH _ _ _=B;have hB':B=some (ltm (E.1,kJ r q E.2)):=by rw[<-hB];kernel_rfl
   rw[hB'];simp only[je,hf2,ha2,g2]
theorem jrQ(c d:kj)(hc:jJ c=true)(hd:jJ d=true)(i side k:Int)(p:Xi)(hpl:p.length<=1048576):∃o:Option kj,G 159 [cm c,vi i,vi side,cm d,vi k,ints p]=J6 o/\G 148 [cm c,vi i,vi side,cm d,vi k,ints p]=J6 o/\ ∀x,o=some x->jJ x=true/\Sd [c,d] x:=by
 obtain⟨cc,_,_,_⟩:=kg hc;obtain⟨cd,_,_,_⟩:=kg hd;have lc:=cc.1;have ld:=cd.1;have le:=jfT d;have a2:=jfS d hd;have p1:=zC c (by omega) i;have p2:=zC d (by omega) k;have c1:ck (((c.length:Nat):Int)-1)=some (vi (((c.length:Nat):Int)-1)):=jV (by omega) (by omega);have c2:ck ((((jD d).length:Nat):Int)-1)=some (vi ((((jD d).length:Nat):Int)-1)):=jV (by omega) (by omega);have q1:=zW i 0 (((c.length:Nat):Int)-1);have q2:=zW k 0 ((((jD d).length:Nat):Int)-1);have q3:=zW side 0 1;have p3:=yQ side 0 1;have hi':y8 0 (((c.length:Nat):Int)-1) i=ZV c i:=rfl;have hk':y8 0 ((((jD d).length:Nat):Int)-1) k=ZV d k:=by rw[le];rfl
 rw[hi']at q1;rw[hk']at q2;cases hi:ZV c i<;>rw[hi]at p1 q1
 .exact ⟨none,by rw[jpQ];simp only[je,p1];rfl,by rw[jsY];simp only[je,a2,c1,q1];rfl,λx h=>by cases h⟩
 cases hk:ZV d k<;>rw[hk]at p2 q2
 .exact ⟨none,by rw[jpQ];simp only[je,p1,p2];rfl,by rw[jsY];simp only[je,a2,c1,q1,c2,q2];rfl,λx h=>by cases h⟩
 cases hs:y8 0 1 side<;>rw[hs]at p3 q3
 .exact ⟨none,by rw[jpQ];simp only[je,p1,p2,p3];rfl,by rw[jsY];simp only[je,a2,c1,q1,c2,q2,q3];rfl,λx h=>by cases h⟩
 obtain⟨m,rfl,hm⟩:=Kc hi;obtain⟨n,rfl,hn⟩:=Kc hk;have x1:=ja (k:=3) (f:=jN) hm;have hb1:=cc.2 _ (jr hm);have e3:=qj c[m].2;have e4:=jbC c[m] true;have e4:G 176 [.agg [vb c[m].1,sv c[m].2.name,jG c[m].2.args],vb true]=_:=e4;by_cases hp:c[m].1=true;rotate_left
 .have hp0:c[m].1=false:=by cases h:c[m].1 with|false=>rfl|true=>exact(hp h).elim
  rw[decide_eq_false hp,Bool.false_and]at e4;refine⟨none,?_,?_,λx h=>by cases h⟩
  .rw [jpQ];simp only[je,p1,p2,p3,x1,adL,ldB,hp0];rfl
  .rw [jsY];simp only[je,a2,c1,q1,c2,q2,q3,x1,kR,e4];rfl
 rw[decide_eq_true hp,Bool.true_and]at e4;by_cases he:c[m].2.name=[61];rotate_left
 .rw [decide_eq_false he]at e3 e4;refine⟨none,?_,?_,λx h=>by cases h⟩
  .rw [jpQ];simp only[je,p1,p2,p3,x1,adL,ldB,ldT,hp,e3];rfl
  .rw [jsY];simp only[je,a2,c1,q1,c2,q2,q3,x1,kR,e4];rfl
 by_cases hne:p=[]
 .have e3':=e3;rw[decide_eq_true he]at e3' e4;subst hne;have hl:kP (ints [])=some (vi 0):=rfl;refine⟨none,?_,?_,λx h=>by cases h⟩
  .rw [jpQ];simp only[je,p1,p2,p3,x1,adL,ldB,ldT,hp,e3',hl];rfl
  .rw [jsY];simp only[je,a2,c1,q1,c2,q2,q3,x1,kR,e4,hl];rfl
 obtain⟨l2,k0,k1,n0,n1,i0,i1⟩:=jpL hb1.1 he hb1.2;have hside:side=0\/side=1:=by
  unfold y8 at hs;rw[jI,ky,ky]at hs;omega
 rcases hside with rfl|rfl
 .exact jaS c d cc hd m n hm hn hp he l2 (Yh c[m].2) (Qp c[m].2) (Or.inl ⟨rfl,rfl⟩) 0 hs i0 i1 k0 k1 n0 n1 p hpl hne
 .exact jaS c d cc hd m n hm hn hp he l2 (Qp c[m].2) (Yh c[m].2) (Or.inr ⟨rfl,rfl⟩) 1 hs i1 i0 k1 k0 n1 n0 p hpl hne
theorem jhj(c d:kj)(lc:c.length<=1048576)(zc:∀l∈c,Tz l.2)(ld:d.length<=1048576)(zd:∀l∈d,Tz l.2)(i side k:Int)(p:Xi)(hpl:p.length<=1048576):jk2 [c,d] 132 118 [cm c,vi i,vi side,cm d,vi k,ints p]:=by
 have n1:=yl c lc zc;have n2:=yl d ld zd;have m1:=qa c lc zc;have m2:=qa d ld zd;cases hc:jJ c<;>rw[hc]at n1 m1
 .exact Jk (by rw[jC5];simp only[je,n1]) (by rw[jFY];simp only[je,m1])
 cases hd:jJ d<;>rw[hd]at n2 m2
 .exact Jk (by rw[jC5];simp only[je,n1,n2]) (by rw[jFY];simp only[je,m1,m2])
 obtain⟨r,e1,e2,e3⟩:=jrQ c d hc hd i side k p hpl;obtain⟨c',b',hr⟩:=zw r;refine⟨r,?_,?_,e3⟩
 .rw [hr]at e1⊢;rw[jC5];simp only[je,n1,n2,e1]
 .rw [hr]at e2⊢;rw[jFY];simp only[je,m1,m2,e2]
theorem jBh{rs:Xg}(hr:RS rs):∀{c r:kj},(∀y∈c,Bx y.2/\nodes y.2<=30)->rwL rs c=some r-> ∀y∈r,Bx y.2
 | [],r,_,h=>by cases h;exact λy hy=>by cases hy
 |x::c,r,hb,h=>by
  rw[rwL]at h;split at h
  .cases h
  .rename_i q hq;obtain⟨r',h1,rfl⟩:=Jh.1 h;have hx:=hb x (List.mem_cons_self ..);intro y hy;rcases jK.1 hy with rfl|hy
   .exact (jcH hr 51 0 (hx.1.exB hx.2) hq).1
   .exact jBh hr (λz hz=>hb z (List.mem_cons_of_mem _ hz)) h1 y hy
theorem jBi{m:Mdl}{e:Xb->Int}(he:jpb m e){rs:Xg}(hr:Q9 rs)(hh:jph m.M m.good rs):∀{c r:kj},(∀y∈c,Bx y.2)->rwL rs c=some r->clV m e c->clV m e r
 | [],r,_,h,hc=>by cases h;exact hc
 |x::c,r,hb,h,⟨l,hl,hv⟩=>by
  rw[rwL]at h;split at h
  .cases h
  .rename_i q hq;obtain⟨r',h1,rfl⟩:=Jh.1 h;rcases jK.1 hl with rfl|hl
   .obtain ⟨g1,g2,_⟩:=jBj (M:=m.M) (good:=m.good) m.ok he hr hh 51 0 l.2 (hb l (List.mem_cons_self ..)).args hq;exact⟨(l.1,q.1),List.mem_cons_self ..,by show Y7 m e q.1=l.1;rw[QH g1 g2];exact hv⟩
   .obtain ⟨l',hl',hv'⟩:=jBi he hr hh (λz hz=>hb z (List.mem_cons_of_mem _ hz)) h1 ⟨l,hl,hv⟩;exact⟨l',List.mem_cons_of_mem _ hl',hv'⟩
theorem jtS{c:kj}(hc:CN c){rs:Xg}(hr:RS rs)(hn:∀t∈rs,t.name=[61]){x:kj}(hx:jeD rs [] c=some x):Sd (c::rs.map λt=>[(true,t)]) x:=by
 intro m hm;unfold jeD at hx;rw[yG]at hx;obtain⟨r,h1,h2⟩:=hx;rw[yF]at h2;have tc:=hm c (List.mem_cons_self ..);have hh:jph m.M m.good rs:=λt ht e he=>by
  obtain⟨l,hl,hv⟩:=hm [(true,t)] (List.mem_cons_of_mem _ (yn.2 ⟨t,ht,rfl⟩)) e he;rw[zx.1 hl,jiV m e (hn t ht) (hr.2 t ht).1]at hv;exact of_decide_eq_true hv
 refine jfd h2 (jBh hr hc.2 h1) λe he=>?_;exact jBi (Zc m he []) hr.ok hh (λy hy=>(hc.2 y hy).1) h1 (tc _ (Zc m he []))
theorem jtM(c:kj)(hc:jJ c=true)(rs:Xg)(hr:RS rs)(hnm:∀t∈rs,t.name=[61]):∃r:Option kj,jh3 (jG rs) (.sl 3 (c.map jN)) (vi (c.length:Nat)) (vi 0) [] []=J6 r/\G 182 [cm c,jG rs]=J6 r/\ ∀x,r=some x->jJ x=true/\Sd (c::rs.map λt=>[(true,t)]) x:=by
 obtain⟨cc,_,_,_⟩:=kg hc;have lc:=cc.1;have zb:sb [] = .agg [.sl 3 []]:=rfl;have ld:∀l:Lt,j9 (.elt (jN l) 0)=some (vb l.1):=λl=>rfl;have kI:=upto (P:=λi=>∀R:kj,R.length<=i->(∀x∈R,Bx x.2/\nodes x.2<=100)->jh3 (jG rs) (.sl 3 (c.map jN)) (vi (c.length:Nat)) (vi (i:Nat)) (R.map jN) []=J6 (jeD rs R (c.drop i))) (n:=c.length) ?_ ?_ 0 (Nat.zero_le _) [] (Nat.zero_le _) (λx h=>by cases h);rotate_left
 .intro R hR hx;have e:=Zd [] jgr R ⟨by omega,hx⟩;have hend:jeD rs R (c.drop c.length)=qE [] R:=by
   rw[List.drop_length];show qE [] (R++[])=_;rw[zm]
  rw[hend];obtain⟨c',b',hr'⟩:=zw (qE [] R);rw[hr']at e⊢;have e:G 163 [.agg [.sl 3 []],.sl 3 (R.map jN)]=_:=e;rw[jze];simp only[je,e]
 .intro i hi ih R hR hx;have hlt:(i:Int)<((c.length:Nat):Int):=by omega
  have hck:ck ((i:Int)+1)=some (vi ((i+1:Nat):Int)):=jV (by omega) (by omega);have hb:=cc.2 _ (jr hi);have e1:=jBb rs hr c[i].2 (hb.1.exB hb.2);have hf:jM (R.length+1) 48=true:=QO (by omega);rw[jze];unfold jeD;rw[jrA hi];cases hq:rwN rs false 51 0 c[i].2 with
  |none=>
   rw[hq]at e1;have e1:G 162 [tm c[i].2,jG rs,vb false]=some (.tup [.agg [sv [],.sl 2 []],vi 0,vb false],[]):=e1;simp only[je,hlt,ja hi,kR,e1];rfl
  |some q=>
   rw[hq]at e1;have e1:G 162 [tm c[i].2,jG rs,vb false]=some (.tup [tm q.1,vi (q.2:Nat),vb true],[]):=e1;obtain⟨bq,nq⟩:=jcH hr 51 0 (hb.1.exB hb.2) hq;have:=ih (R++[(c[i].1,q.1)]) (by rw[zv];simp only[j8,zO];omega) (λx h=>by
    rcases kW.1 h with h|h
    .exact hx x h
    .rw [zx.1 h];exact⟨bq,by show nodes q.1<=100;omega⟩)
   have ha:jR (R.map jN) [[vb c[i].1,sv q.1.name,jG q.1.args]]=(R++[(c[i].1,q.1)]).map jN:=by rw[List.map_append];rfl
   have hend:((rwL rs (c.drop (i+1))).map ((c[i].1,q.1)::·)).bind (λr=>qE [] (R++r))=jeD rs (R++[(c[i].1,q.1)]) (c.drop (i+1)):=by
    unfold jeD;cases rwL rs (c.drop (i+1))with
    |none=>rfl
    |some r=>show qE [] (R++(c[i].1,q.1)::r)=qE [] (R++[(c[i].1,q.1)]++r);rw[ze];rfl
   show _=J6 (((rwL rs (c.drop (i+1))).map ((c[i].1,q.1)::·)).bind (λr=>qE [] (R++r)));rw[hend,<-this];simp only[je,hlt,ja hi,kR,e1,hf,ha,hck]
 have kS:=upto (P:=λi=>∀R:kj,R.length<=i->(∀x∈R,Bx x.2/\nodes x.2<=100)->jm4 (jG rs) (vi (i:Nat)) (.sl 3 (c.map jN)) (R.map jN) []=J6 (jeD rs R (c.drop i))) (n:=c.length) ?_ ?_ 0 (Nat.zero_le _) [] (Nat.zero_le _) (λx h=>by cases h);rotate_left
 .intro R hR hx;have e:=Kw [] jgr R ⟨by omega,hx⟩;have hend:jeD rs R (c.drop c.length)=qE [] R:=by
   rw[List.drop_length];show qE [] (R++[])=_;rw[zm]
  rw[hend];obtain⟨c',b',hr'⟩:=zw (qE [] R);rw[hr']at e⊢;have e:G 174 [.agg [.sl 3 []],.sl 3 (R.map jN)]=_:=e;rw[jzw];simp only[je,e]
 .intro i hi ih R hR hx;have hlt:(i:Int)<((c.length:Nat):Int):=by omega
  have hck:ck ((i:Int)+1)=some (vi ((i+1:Nat):Int)):=jV (by omega) (by omega);have hb:=cc.2 _ (jr hi);have e1:=jBc rs hr c[i].2 (hb.1.exB hb.2);have hf:jM (R.length+1) 48=true:=QO (by omega);rw[jzw];unfold jeD;rw[jrA hi];cases hq:rwN rs false 51 0 c[i].2 with
  |none=>
   rw[hq]at e1;have e1:G 219 [tm c[i].2,jG rs,vb false]=some (.tup [.agg [sv [],.sl 2 []],vi 0,vb false],[]):=e1;simp only[je,hlt,ja hi,adL,ldT,e1];rfl
  |some q=>
   rw[hq]at e1;have e1:G 219 [tm c[i].2,jG rs,vb false]=some (.tup [tm q.1,vi (q.2:Nat),vb true],[]):=e1;obtain⟨bq,nq⟩:=jcH hr 51 0 (hb.1.exB hb.2) hq;have:=ih (R++[(c[i].1,q.1)]) (by rw[zv];simp only[j8,zO];omega) (λx h=>by
    rcases kW.1 h with h|h
    .exact hx x h
    .rw [zx.1 h];exact⟨bq,by show nodes q.1<=100;omega⟩)
   have ha:jR (R.map jN) [[vb c[i].1,sv q.1.name,jG q.1.args]]=(R++[(c[i].1,q.1)]).map jN:=by rw[List.map_append];rfl
   have hend:((rwL rs (c.drop (i+1))).map ((c[i].1,q.1)::·)).bind (λr=>qE [] (R++r))=jeD rs (R++[(c[i].1,q.1)]) (c.drop (i+1)):=by
    unfold jeD;cases rwL rs (c.drop (i+1))with
    |none=>rfl
    |some r=>show qE [] (R++(c[i].1,q.1)::r)=qE [] (R++[(c[i].1,q.1)]++r);rw[ze];rfl
   show _=J6 (((rwL rs (c.drop (i+1))).map ((c[i].1,q.1)::·)).bind (λr=>qE [] (R++r)));rw[hend,<-this];simp only[je,hlt,ja hi,adL,ldB,ldT,e1,hf,ha,hck]
 simp only[Int.natCast_zero,List.map_nil,List.drop_zero]at kI kS;refine⟨jeD rs [] c,kI,?_,λx h=>?_⟩
 .rw [jKk];simp only[je,kS]
 .refine ⟨?_,jtS cc hr hnm h⟩;unfold jeD at h;rw[yG]at h;obtain⟨r,_,h⟩:=h;exact Zi h
theorem jj2(c:kj)(lc:c.length<=1048576)(zc:∀l∈c,Tz l.2)(rs:Xg)(hl:rs.length<=1048576)(hz:∀r∈rs,Tz r):jk2 (c::rs.map λt=>[(true,t)]) 135 150 [cm c,jG rs]:=by
 have n1:=yl c lc zc;have m1:=qa c lc zc;cases hc:jJ c<;>rw[hc]at n1 m1
 .exact Jk (by rw[jF0];simp only[je,n1]) (by rw[jC6];simp only[je,m1])
 obtain⟨b,r1,r2,hb⟩:=jrw rs hl hz;cases b
 .exact Jk (by rw[jF0];simp only[je,n1,r2]) (by rw[jC6];simp only[je,m1,r1])
 obtain⟨r,e1,e2,e3⟩:=jtM c hc rs (hb rfl).1 (λt ht=>((hb rfl).2 t ht).1);obtain⟨c',b',hr⟩:=zw r;refine⟨r,?_,?_,e3⟩
 .rw [hr]at e1⊢;rw[jF0];simp only[je,n1,r2,e1]
 .rw [hr]at e2⊢;rw[jC6];simp only[je,m1,r1,e2]
end Go.Proofs.YthlhadhipnokfaaGreatDoor
