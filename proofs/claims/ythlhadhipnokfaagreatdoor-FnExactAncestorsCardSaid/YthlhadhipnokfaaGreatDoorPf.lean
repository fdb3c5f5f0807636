/- Pf -/
import Derived.Test.YthlhadhipnokfaaGreatDoorPe
import Derived.Test.YthlhadhipnokfaaGreatDoorPd
namespace Go.Proofs.YthlhadhipnokfaaGreatDoor
open Go Go.RowKit Go.Proofs.YthlhadhipnokfaaGreatDoor.Abs
set_option linter.unusedSimpArgs false
set_option linter.unusedVariables false
set_option maxHeartbeats 1000000
theorem jEp(s:jgn)(W:Eqs)(off:Nat)(hW:W.length<=1000)(x y:T)(hl:x.args.length=y.args.length)(h4:x.args.length<=4) :
  jsO (nA off) (nA (W.length-off)) (vb true) (vi 0) (sbs s) (sv x.name) (tms x.args) (sv y.name) (tms y.args) (W.map ec) [] [] []=joq (sbs s) ((x.args.zip y.args++W.drop off).map ec) [] []:=by
 have h1:nOf (nA off)=off:=rfl;have h2:nOf (nA (W.length-off))=W.length-off:=rfl;have hend:jbB (((x.args.zip y.args).map ec).length+((W.drop off).map ec).length) 80=true:=by
  rw[List.length_map,List.length_map,List.length_zip,List.length_drop];exact jpo (by omega)
 have hzl:((x.args.zip y.args).map ec).length=x.args.length:=by rw[List.length_map,List.length_zip];omega
 have happ:jeV ((x.args.zip y.args).map ec) ((W.drop off).map ec)=(x.args.zip y.args++W.drop off).map ec:=by rw[List.map_append];rfl
 have step:∀i,(hi:i<x.args.length)->(hi2:i<y.args.length)->jeV (((x.args.zip y.args).take i).map ec) [[sv x.args[i].name,tms x.args[i].args,sv y.args[i].name,tms y.args[i].args]]=((x.args.zip y.args).take (i+1)).map ec:=λi hi hi2=>jok hi hi2;have key:=upto (P:=λi=>jwx (nA off) (nA (W.length-off)) (vb true) (vi (i:Nat)) (sbs s) (sv x.name) (tms x.args) (sv y.name) (tms y.args) (W.map ec) (((x.args.zip y.args).take i).map ec) [] []=joq (sbs s) ((x.args.zip y.args++W.drop off).map ec) [] []) (n:=x.args.length) ?_ ?_
 .have hend2:(x.args.zip y.args).take x.args.length=x.args.zip y.args:=jfU (by rw[List.length_zip];omega)
  rw[jGA];by_cases h0:0<x.args.length
  .have hi:=h0;have hi2:0<y.args.length:=by omega
   have hlt:(0:Int)<((x.args.length:Nat):Int):=by omega
   have ix:=jfY (k:=2) (f:=jgi) hi;have ix2:=jfY (k:=2) (f:=jgi) hi2;have ta:=step 0 hi hi2;simp only[List.take_zero,List.map_nil,Int.natCast_zero,je8]at ta ix ix2;have hf:jbB 1 80=true:=jpo (by omega);have hck:ck (0+1)=some (vi ((1:Nat):Int)):=jgA (n:=0+1) (by omega) (by omega);have key:=key 1 (by omega);rw[<-key];simp only[evz,hlt,ix,ix2,jga,hf,hck,h1,h2];generalize hB:Jt _ _ _=B;have hB':B=some (.agg [sv x.args[0].name,tms x.args[0].args,sv y.args[0].name,tms y.args[0].args]):=by rw[<-hB];kernel_rfl
   rw[hB'];simp only[evz,ta]
  .have hlt:¬(0:Int)<((x.args.length:Nat):Int):=by omega
   have he:x.args=[]:=jfN (by omega);have hz:x.args.zip y.args=[]:=by rw[he];rfl
   rw[hz]at hend happ⊢;have hend:jbB ((W.drop off).map ec).length 80=true:=by simpa using hend
   have happ:jeV [] ((W.drop off).map ec)=(W.drop off).map ec:=rfl;simp only[evz,hlt,h1,h2,jmq,jfw];rw[List.length_map]at hend;simp only[evz,hend,happ]
 .have hend2:(x.args.zip y.args).take x.args.length=x.args.zip y.args:=jfU (by rw[List.length_zip];omega)
  rw[hend2,jBs];have hlt:¬((x.args.length:Nat):Int)<((x.args.length:Nat):Int):=by omega
  rw[hzl,List.length_map]at hend;simp only[evz,hlt,h1,h2,jmq,happ];rw[List.length_zip,Nat.min_eq_left (by omega)];simp only[evz,hend]
 .intro i hi ih;have hi2:i<y.args.length:=by omega
  have hlt:((i:Nat):Int)<((x.args.length:Nat):Int):=by omega
  have ta:=step i hi hi2;have li:(((x.args.zip y.args).take i).map ec).length=i:=take_len (by rw[List.length_zip];omega);have hf:jbB (i+1) 80=true:=jpo (by omega);have hck:ck ((i:Int)+1)=some (vi ((i+1:Nat):Int)):=jgA (by omega) (by omega);generalize ((x.args.zip y.args).take i).map ec=R at *;rw[jBs,<-ih];simp only[evz,hlt,jfY hi,jfY hi2,jga];generalize hB:Jt _ _ _=B;have hB':B=some (.agg [sv x.args[i].name,tms x.args[i].args,sv y.args[i].name,tms y.args[i].args]):=by rw[<-hB];kernel_rfl
  rw[hB'];simp only[evz,li,hf,ta,hck,h1,h2]
theorem jEo(W:Eqs)(off:Nat)(hW:W.length<=1000)(x y:T)(hl:x.args.length=y.args.length)(h4:x.args.length<=4) :
  jsN (nA off) (nA (W.length-off)) (vb true) (vi 0) (sv x.name) (tms x.args) (sv y.name) (tms y.args) (W.map ec) [] [] [] []=jm9 ((x.args.zip y.args++W.drop off).map ec) [] [] []:=by
 have h1:nOf (nA off)=off:=rfl;have h2:nOf (nA (W.length-off))=W.length-off:=rfl;have hend:jbB (((x.args.zip y.args).map ec).length+((W.drop off).map ec).length) 80=true:=by
  rw[List.length_map,List.length_map,List.length_zip,List.length_drop];exact jpo (by omega)
 have hzl:((x.args.zip y.args).map ec).length=x.args.length:=by rw[List.length_map,List.length_zip];omega
 have happ:jeV ((x.args.zip y.args).map ec) ((W.drop off).map ec)=(x.args.zip y.args++W.drop off).map ec:=by rw[List.map_append];rfl
 have step:∀i,(hi:i<x.args.length)->(hi2:i<y.args.length)->jeV (((x.args.zip y.args).take i).map ec) [[sv x.args[i].name,tms x.args[i].args,sv y.args[i].name,tms y.args[i].args]]=((x.args.zip y.args).take (i+1)).map ec:=λi hi hi2=>jok hi hi2;have key:=upto (P:=λi=>jww (nA off) (nA (W.length-off)) (vb true) (vi (i:Nat)) (sv x.name) (tms x.args) (sv y.name) (tms y.args) (W.map ec) (((x.args.zip y.args).take i).map ec) [] [] []=jm9 ((x.args.zip y.args++W.drop off).map ec) [] [] []) (n:=x.args.length) ?_ ?_
 .have hend2:(x.args.zip y.args).take x.args.length=x.args.zip y.args:=jfU (by rw[List.length_zip];omega)
  rw[jGz];by_cases h0:0<x.args.length
  .have hi:=h0;have hi2:0<y.args.length:=by omega
   have hlt:(0:Int)<((x.args.length:Nat):Int):=by omega
   have ix:=jfY (k:=2) (f:=jgi) hi;have ix2:=jfY (k:=2) (f:=jgi) hi2;have ta:=step 0 hi hi2;simp only[List.take_zero,List.map_nil,Int.natCast_zero,je8]at ta ix ix2;have hf:jbB 1 80=true:=jpo (by omega);have hck:ck (0+1)=some (vi ((1:Nat):Int)):=jgA (n:=0+1) (by omega) (by omega);have key:=key 1 (by omega);rw[<-key];simp only[evz,hlt,ix,ix2,jga,hf,hck,h1,h2];generalize hB:Jt _ _ _=B;have hB':B=some (.agg [sv x.args[0].name,tms x.args[0].args,sv y.args[0].name,tms y.args[0].args]):=by rw[<-hB];kernel_rfl
   rw[hB'];simp only[evz,ta]
  .have hlt:¬(0:Int)<((x.args.length:Nat):Int):=by omega
   have he:x.args=[]:=jfN (by omega);have hz:x.args.zip y.args=[]:=by rw[he];rfl
   rw[hz]at hend happ⊢;have hend:jbB ((W.drop off).map ec).length 80=true:=by simpa using hend
   have happ:jeV [] ((W.drop off).map ec)=(W.drop off).map ec:=rfl;simp only[evz,hlt,h1,h2,jmq,jfw];rw[List.length_map]at hend;simp only[evz,hend,happ]
 .have hend2:(x.args.zip y.args).take x.args.length=x.args.zip y.args:=jfU (by rw[List.length_zip];omega)
  rw[hend2,jBr];have hlt:¬((x.args.length:Nat):Int)<((x.args.length:Nat):Int):=by omega
  rw[hzl,List.length_map]at hend;simp only[evz,hlt,h1,h2,jmq,happ];rw[List.length_zip,Nat.min_eq_left (by omega)];simp only[evz,hend]
 .intro i hi ih;have hi2:i<y.args.length:=by omega
  have hlt:((i:Nat):Int)<((x.args.length:Nat):Int):=by omega
  have ta:=step i hi hi2;have li:(((x.args.zip y.args).take i).map ec).length=i:=take_len (by rw[List.length_zip];omega);have hf:jbB (i+1) 80=true:=jpo (by omega);have hck:ck ((i:Int)+1)=some (vi ((i+1:Nat):Int)):=jgA (by omega) (by omega);generalize ((x.args.zip y.args).take i).map ec=R at *;rw[jBr,<-ih];simp only[evz,hlt,jfY hi,jfY hi2,jga];generalize hB:Jt _ _ _=B;have hB':B=some (.agg [sv x.args[i].name,tms x.args[i].args,sv y.args[i].name,tms y.args[i].args]):=by rw[<-hB];kernel_rfl
  rw[hB'];simp only[evz,li,hf,ta,hck,h1,h2]
def USS(s:jgn)(es:Eqs)(o:Xe):Prop:=
 (∀(W:Eqs)(off:Nat),W.drop off=es->off<=W.length->W.length<=1000->jk3 (nA off) (nA (W.length-off)) (sbs s) (W.map ec) [] []=o)/\joq (sbs s) (es.map ec) [] []=o/\
 (s=[]->(∀(W:Eqs)(off:Nat),W.drop off=es->off<=W.length->W.length<=1000->jpY (nA off) (nA (W.length-off)) (W.map ec) [] [] []=o)/\jm9 (es.map ec) [] [] []=o)
theorem jIr(k:Nat)(ih:∀(s:jgn)(es:Eqs)(res:Option jgn),jjk s es->Hgt s 126 es->jgX k s es=some res->USS s es (jhI res))(s:jgn)(l r:T)(rest:Eqs)(hi:jjk s ((l,r)::rest))(hg:Hgt s 126 ((l,r)::rest))(res:Option jgn)(hu:jgX (k+1) s ((l,r)::rest)=some res)(W:Eqs)(off:Nat)(hW:W.drop off=(l,r)::rest)(hlen:W.length<=1000):jk3 (nA off) (nA (W.length-off)) (sbs s) (W.map ec) [] []=jhI res:=by
 obtain⟨d1,d2,d3⟩:=jiX hW;obtain⟨r1,r2⟩:=jmk d1;obtain⟨al,ar,nl,nr⟩:=jls hi;have hv:=hi.1;have e1:=jkj s hv l al (by omega);have e2:=jkj s hv r ar (by omega);have w1:nOf (nA off)=off:=rfl;have w2:nOf (nA (W.length-off))=W.length-off:=rfl;have g1:jdl .gtr false (nA (W.length-off)) (vi 0)=some (vb true):=by
  show some (vb (decide ((0:Int)<((W.length-off:Nat):Int))))=_;rw[decide_eq_true (by omega)]
 have g2:pIx (W.length-off) (vi 0)=some 0:=jgZ (i:=0) (by omega);have g3:pB (W.length-off) (jd6 (W.map ec) off) none=some (W.length-off):=by
  rw[show jd6 (W.map ec) off=W.length-off by rw[jh2,List.length_map]];exact jhe (jdB _)
 have g4:pB 0 (W.length-off) (some (vi 1))=some 1:=jiq (n:=1) (by omega);have hn:jeQ (W.length-off) 1=W.length-(off+1):=by unfold jeQ;omega
 rw[jwQ];cases sl:jgr (sub s l)<;>rw[sl]at e1
 .have e1:G 211 [sb s,tm l]=some (.tup [.agg [sv [],.sl 2 []],vb false],[]):=e1;have hr:res=none:=jgP (by unfold jhy;rw[jbZ (Or.inl sl)]) hu;subst hr;obtain⟨q,e2⟩:∃q:T×Bool,G 211 [sb s,tm r]=some (.tup [tm q.1,vb q.2],[]):=by
   cases h:jgr (sub s r)<;>rw[h]at e2
   .exact ⟨(.mk [] [],false),e2⟩
   .exact ⟨(sub s r,true),e2⟩
  simp only[evz,w1,w2,g1,g2,g3,g4,jfg,r1,r2,e1,e2];rfl
 have e1:G 211 [sb s,tm l]=some (.tup [tm (sub s l),vb true],[]):=e1;cases sr:jgr (sub s r)<;>rw[sr]at e2
 .have e2:G 211 [sb s,tm r]=some (.tup [.agg [sv [],.sl 2 []],vb false],[]):=e2;have hr:res=none:=jgP (by unfold jhy;rw[jbZ (Or.inr sr)]) hu;subst hr;simp only[evz,w1,w2,g1,g2,g3,g4,jfg,r1,r2,e1,e2];rfl
 have e2:G 211 [sb s,tm r]=some (.tup [tm (sub s r),vb true],[]):=e2;have xl:AxT (sub s l):=AxT.sub hv al;have xr:AxT (sub s r):=AxT.sub hv ar;have ml:=jha sl;have mr:=jha sr;have tl:=xl.tz (by omega);have tr:=xr.tz (by omega);have e3:=jiU (sub s l) tl.wf (sub s r) tr.wf;have ll:=(jgE hv).1;cases hd:dq (sub s l) (sub s r)<;>rw[hd]at e3
 rotate_left
 .have hst:=jmE (rest:=rest) sl sr hd;have hnext:=ih _ _ res (jhp hi hst).1 (jh6 hi hg hst) (jhu hst hu);have hnext:=hnext.1 W (off+1) d2 (by omega) hlen;simp only[evz,w1,w2,g1,g2,g3,g4,jfg,r1,r2,e1,e2,e3,hn];exact hnext
 have v1:=jg9 (sub s l).name ((jgK _).1 tl.wf).1;have v2:=jg9 (sub s r).name ((jgK _).1 tr.wf).1;have bindC:jgk (sub s l).name=true\/jgk (sub s r).name=true-> ∃q2:Bool,∃u:jgn,G 212 [sb s,sv (jgq (sub s l) (sub s r)).1,tm (jgq (sub s l) (sub s r)).2]=some (.tup [sb u,vb q2],[])/\(q2=false->jhI res=jhI none)/\(q2=true->jk3 (nA (off+1)) (nA (W.length-(off+1))) (sbs u) (W.map ec) [] []=jhI res):=by
  intro hvar;have hst:=jmC (rest:=rest) sl sr hd hvar;obtain⟨bv,hor⟩:=jqk hvar;have bz:Tz (jgq (sub s l) (sub s r)).2:=hor.elim (λh=>by rw[h.2];exact tl) λh=>by rw[h.2];exact tr
  have bk:(jgq (sub s l) (sub s r)).1∈jgN (jgq (sub s l) (sub s r)).2\/(jgq (sub s l) (sub s r)).2.name≠(jgq (sub s l) (sub s r)).1:=by
   by_cases hnm:(jgq (sub s l) (sub s r)).2.name=(jgq (sub s l) (sub s r)).1
   .left;rw[vsv (by rw[hnm];exact bv),hnm];simp
   .exact Or.inr hnm
  obtain⟨z,eb⟩:=jr6 s hv _ _ bv bz bk;rw[<-Bool.and_assoc]at eb;cases hc:(!decide ((jgq (sub s l) (sub s r)).1∈jgN (jgq (sub s l) (sub s r)).2) && jgv [jgq (sub s l) (sub s r)]) && jgv (jg4 s [jgq (sub s l) (sub s r)])
  .rw [hc,ja0 Bool.false_ne_true]at hst;have eb:=eb.trans (by rw[show((jgq (sub s l) (sub s r)).1,(jgq (sub s l) (sub s r)).2)=jgq (sub s l) (sub s r) from rfl,hc,ja0 Bool.false_ne_true]);exact⟨false,z,eb,λ_=>by rw[jgP hst hu],λh=>by cases h⟩
  .rw [hc,jbZ rfl]at hst;have eb:=eb.trans (by rw[show((jgq (sub s l) (sub s r)).1,(jgq (sub s l) (sub s r)).2)=jgq (sub s l) (sub s r) from rfl,hc,jbZ rfl]);refine⟨true,_,eb,(λh=>by cases h),λ_=>?_⟩;have hnext:=ih _ _ res (jhp hi hst).1 (jh6 hi hg hst) (jhu hst hu);exact hnext.1 W (off+1) d2 (by omega) hlen
 cases vl:jgk (sub s l).name<;>rw[vl]at v1
 rotate_left
 .cases vr:jgk (sub s r).name<;>rw[vr]at v2
  .obtain ⟨q2,u,b1,b2,b3⟩:=bindC (Or.inl vl);have hbd:jgq (sub s l) (sub s r)=((sub s l).name,sub s r):=ja0 (by rw[vl,vr];simp);rw[hbd]at b1;cases q2
   .rw [b2 rfl];simp only[evz,w1,w2,g1,g2,g3,g4,jfg,r1,r2,e1,e2,e3,v1,v2,b1];rfl
   .rw [<-b3 rfl];simp only[evz,w1,w2,g1,g2,g3,g4,jfg,r1,r2,e1,e2,e3,v1,v2,b1,hn]
  .cases hc:sLt (sub s l).name (sub s r).name
   .obtain ⟨q2,u,b1,b2,b3⟩:=bindC (Or.inl vl);have hbd:jgq (sub s l) (sub s r)=((sub s l).name,sub s r):=ja0 (by rw[vl,vr,hc];simp);rw[hbd]at b1;cases q2
    .rw [b2 rfl];simp only[evz,w1,w2,g1,g2,g3,g4,jfg,r1,r2,e1,e2,e3,v1,v2,hc,b1];rfl
    .rw [<-b3 rfl];simp only[evz,w1,w2,g1,g2,g3,g4,jfg,r1,r2,e1,e2,e3,v1,v2,hc,b1,hn]
   .obtain ⟨q2,u,b1,b2,b3⟩:=bindC (Or.inl vl);have hbd:jgq (sub s l) (sub s r)=((sub s r).name,sub s l):=jbZ (Or.inr ⟨vr,hc⟩);rw[hbd]at b1;cases q2
    .rw [b2 rfl];simp only[evz,w1,w2,g1,g2,g3,g4,jfg,r1,r2,e1,e2,e3,v1,v2,hc,b1];rfl
    .rw [<-b3 rfl];simp only[evz,w1,w2,g1,g2,g3,g4,jfg,r1,r2,e1,e2,e3,v1,v2,hc,b1,hn]
 cases vr:jgk (sub s r).name<;>rw[vr]at v2
 rotate_left
 .obtain ⟨q2,u,b1,b2,b3⟩:=bindC (Or.inr vr);have hbd:jgq (sub s l) (sub s r)=((sub s r).name,sub s l):=jbZ (Or.inl vl);rw[hbd]at b1;cases q2
  .rw [b2 rfl];simp only[evz,w1,w2,g1,g2,g3,g4,jfg,r1,r2,e1,e2,e3,v1,v2,b1];rfl
  .rw [<-b3 rfl];simp only[evz,w1,w2,g1,g2,g3,g4,jfg,r1,r2,e1,e2,e3,v1,v2,b1,hn]
 have hst:=jmD (rest:=rest) sl sr hd vl vr;by_cases hnm:(sub s l).name=(sub s r).name;rotate_left
 .rw [ja0 (λh=>hnm h.1)]at hst;have hnd:=decide_eq_false hnm;rw[jgP hst hu];simp only[evz,w1,w2,g1,g2,g3,g4,jfg,r1,r2,e1,e2,e3,v1,v2,hnd];rfl
 have hnd:=decide_eq_true hnm;by_cases hal:(sub s l).args.length=(sub s r).args.length;rotate_left
 .rw [ja0 (λh=>hal h.2)]at hst;have hal':decide ((((sub s l).args.length:Nat):Int)=(((sub s r).args.length:Nat):Int))=false:=decide_eq_false (by omega);rw[jgP hst hu];simp only[evz,w1,w2,g1,g2,g3,g4,jfg,r1,r2,e1,e2,e3,v1,v2,hnd,hal'];rfl
 rw[jbZ ⟨hnm,hal⟩]at hst;have hnext:=ih _ _ res (jhp hi hst).1 (jh6 hi hg hst) (jhu hst hu);have hnext:=hnext.2.1;have hin:=jEp s W (off+1) hlen (sub s l) (sub s r) hal (jn1 xl);rw[d2]at hin;rw[hnext]at hin;have hal':decide ((((sub s l).args.length:Nat):Int)=(((sub s r).args.length:Nat):Int))=true:=decide_eq_true (by omega);simp only[evz,w1,w2,g1,g2,g3,g4,jfg,r1,r2,e1,e2,e3,v1,v2,hnd,hal',hn];exact hin
theorem jLr(k:Nat)(ih:∀(s:jgn)(es:Eqs)(res:Option jgn),jjk s es->Hgt s 126 es->jgX k s es=some res->USS s es (jhI res))(s:jgn)(l r:T)(rest:Eqs)(hi:jjk s ((l,r)::rest))(hg:Hgt s 126 ((l,r)::rest))(res:Option jgn)(hu:jgX (k+1) s ((l,r)::rest)=some res)(W:Eqs)(hW:W=(l,r)::rest)(hlen:W.length<=1000):joq (sbs s) (W.map ec) [] []=jhI res:=by
 have hW0:W.drop 0=(l,r)::rest:=hW;rw[<-jIr k ih s l r rest hi hg res hu W 0 hW0 hlen];obtain⟨d1,d2,d3⟩:=jiX hW0;obtain⟨r1,r2⟩:=jmk d1;have w1:nOf (nA 0)=0:=rfl;have w2:nOf (nA W.length)=W.length:=rfl;have f1:jdl .gtr false (nA W.length) (vi 0)=some (vb true):=by
  show some (vb (decide ((0:Int)<((W.length:Nat):Int))))=_;rw[decide_eq_true (by omega)]
 have f3:pB W.length (jd6 (W.map ec) 0) none=some W.length:=by
  rw[show jd6 (W.map ec) 0=W.length by rw[jh2,List.length_map];rfl];exact jhe (jdB _)
 have g2:pIx W.length (vi 0)=some 0:=jgZ (i:=0) (by omega);have g3:pB (jaJ (W.map ec)) (jd6 (W.map ec) 0) none=some W.length:=by
  rw[jhY,f3]
 have g4:pB 0 W.length (some (vi 1))=some 1:=jiq (n:=1) (by omega);have g0:(0:Int)<((W.length:Nat):Int):=by omega
 rw[jBt,jwQ,Nat.sub_zero];simp only[evz,w1,w2,f1,f3,g0,g2,g3,g4,r1,r2]
theorem jIq(k:Nat)(ih:∀(s:jgn)(es:Eqs)(res:Option jgn),jjk s es->Hgt s 126 es->jgX k s es=some res->USS s es (jhI res))(l r:T)(rest:Eqs)(hi:jjk [] ((l,r)::rest))(hg:Hgt [] 126 ((l,r)::rest))(res:Option jgn)(hu:jgX (k+1) [] ((l,r)::rest)=some res)(W:Eqs)(off:Nat)(hW:W.drop off=(l,r)::rest)(hlen:W.length<=1000):jpY (nA off) (nA (W.length-off)) (W.map ec) [] [] []=jhI res:=by
 obtain⟨d1,d2,d3⟩:=jiX hW;obtain⟨r1,r2⟩:=jmk d1;obtain⟨al,ar,nl,nr⟩:=jls hi;have hv:=hi.1;have e1:=jkj [] hv l al (by omega);have e2:=jkj [] hv r ar (by omega);have w1:nOf (nA off)=off:=rfl;have w2:nOf (nA (W.length-off))=W.length-off:=rfl;have g1:jdl .gtr false (nA (W.length-off)) (vi 0)=some (vb true):=by
  show some (vb (decide ((0:Int)<((W.length-off:Nat):Int))))=_;rw[decide_eq_true (by omega)]
 have g2:pIx (W.length-off) (vi 0)=some 0:=jgZ (i:=0) (by omega);have g3:pB (W.length-off) (jd6 (W.map ec) off) none=some (W.length-off):=by
  rw[show jd6 (W.map ec) off=W.length-off by rw[jh2,List.length_map]];exact jhe (jdB _)
 have g4:pB 0 (W.length-off) (some (vi 1))=some 1:=jiq (n:=1) (by omega);have hn:jeQ (W.length-off) 1=W.length-(off+1):=by unfold jeQ;omega
 rw[jwP];cases sl:jgr (sub [] l)<;>rw[sl]at e1
 .have e1:G 211 [.agg [.sl 3 []],tm l]=some (.tup [.agg [sv [],.sl 2 []],vb false],[]):=e1;have hr:res=none:=jgP (by unfold jhy;rw[jbZ (Or.inl sl)]) hu;subst hr;obtain⟨q,e2⟩:∃q:T×Bool,G 211 [.agg [.sl 3 []],tm r]=some (.tup [tm q.1,vb q.2],[]):=by
   cases h:jgr (sub [] r)<;>rw[h]at e2
   .exact ⟨(.mk [] [],false),e2⟩
   .exact ⟨(sub [] r,true),e2⟩
  simp only[evz,w1,w2,g1,g2,g3,g4,jfg,r1,r2,e1,e2];rfl
 have e1:G 211 [.agg [.sl 3 []],tm l]=some (.tup [tm (sub [] l),vb true],[]):=e1;cases sr:jgr (sub [] r)<;>rw[sr]at e2
 .have e2:G 211 [.agg [.sl 3 []],tm r]=some (.tup [.agg [sv [],.sl 2 []],vb false],[]):=e2;have hr:res=none:=jgP (by unfold jhy;rw[jbZ (Or.inr sr)]) hu;subst hr;simp only[evz,w1,w2,g1,g2,g3,g4,jfg,r1,r2,e1,e2];rfl
 have e2:G 211 [.agg [.sl 3 []],tm r]=some (.tup [tm (sub [] r),vb true],[]):=e2;have xl:AxT (sub [] l):=AxT.sub hv al;have xr:AxT (sub [] r):=AxT.sub hv ar;have ml:=jha sl;have mr:=jha sr;have tl:=xl.tz (by omega);have tr:=xr.tz (by omega);have e3:=jiU (sub [] l) tl.wf (sub [] r) tr.wf;have ll:=(jgE hv).1;cases hd:dq (sub [] l) (sub [] r)<;>rw[hd]at e3
 rotate_left
 .have hst:=jmE (rest:=rest) sl sr hd;have hnext:=ih _ _ res (jhp hi hst).1 (jh6 hi hg hst) (jhu hst hu);have hnext:=(hnext.2.2 rfl).1 W (off+1) d2 (by omega) hlen;simp only[evz,w1,w2,g1,g2,g3,g4,jfg,r1,r2,e1,e2,e3,hn];exact hnext
 have v1:=jg9 (sub [] l).name ((jgK _).1 tl.wf).1;have v2:=jg9 (sub [] r).name ((jgK _).1 tr.wf).1;have bindC:jgk (sub [] l).name=true\/jgk (sub [] r).name=true-> ∃q2:Bool,∃u:jgn,G 212 [.agg [.sl 3 []],sv (jgq (sub [] l) (sub [] r)).1,tm (jgq (sub [] l) (sub [] r)).2]=some (.tup [sb u,vb q2],[])/\(q2=false->jhI res=jhI none)/\(q2=true->jk3 (nA (off+1)) (nA (W.length-(off+1))) (sbs u) (W.map ec) [] []=jhI res):=by
  intro hvar;have hst:=jmC (rest:=rest) sl sr hd hvar;obtain⟨bv,hor⟩:=jqk hvar;have bz:Tz (jgq (sub [] l) (sub [] r)).2:=hor.elim (λh=>by rw[h.2];exact tl) λh=>by rw[h.2];exact tr
  have bk:(jgq (sub [] l) (sub [] r)).1∈jgN (jgq (sub [] l) (sub [] r)).2\/(jgq (sub [] l) (sub [] r)).2.name≠(jgq (sub [] l) (sub [] r)).1:=by
   by_cases hnm:(jgq (sub [] l) (sub [] r)).2.name=(jgq (sub [] l) (sub [] r)).1
   .left;rw[vsv (by rw[hnm];exact bv),hnm];simp
   .exact Or.inr hnm
  obtain⟨z,eb⟩:=jr6 [] hv _ _ bv bz bk;rw[<-Bool.and_assoc]at eb;cases hc:(!decide ((jgq (sub [] l) (sub [] r)).1∈jgN (jgq (sub [] l) (sub [] r)).2) && jgv [jgq (sub [] l) (sub [] r)]) && jgv (jg4 [] [jgq (sub [] l) (sub [] r)])
  .rw [hc,ja0 Bool.false_ne_true]at hst;have eb:=eb.trans (by rw[show((jgq (sub [] l) (sub [] r)).1,(jgq (sub [] l) (sub [] r)).2)=jgq (sub [] l) (sub [] r) from rfl,hc,ja0 Bool.false_ne_true]);exact⟨false,z,eb,λ_=>by rw[jgP hst hu],λh=>by cases h⟩
  .rw [hc,jbZ rfl]at hst;have eb:=eb.trans (by rw[show((jgq (sub [] l) (sub [] r)).1,(jgq (sub [] l) (sub [] r)).2)=jgq (sub [] l) (sub [] r) from rfl,hc,jbZ rfl]);refine⟨true,_,eb,(λh=>by cases h),λ_=>?_⟩;have hnext:=ih _ _ res (jhp hi hst).1 (jh6 hi hg hst) (jhu hst hu);exact hnext.1 W (off+1) d2 (by omega) hlen
 cases vl:jgk (sub [] l).name<;>rw[vl]at v1
 rotate_left
 .cases vr:jgk (sub [] r).name<;>rw[vr]at v2
  .obtain ⟨q2,u,b1,b2,b3⟩:=bindC (Or.inl vl);have hbd:jgq (sub [] l) (sub [] r)=((sub [] l).name,sub [] r):=ja0 (by rw[vl,vr];simp);rw[hbd]at b1;cases q2
   .rw [b2 rfl];simp only[evz,w1,w2,g1,g2,g3,g4,jfg,r1,r2,e1,e2,e3,v1,v2,b1];rfl
   .rw [<-b3 rfl];simp only[evz,w1,w2,g1,g2,g3,g4,jfg,r1,r2,e1,e2,e3,v1,v2,b1,hn]
  .cases hc:sLt (sub [] l).name (sub [] r).name
   .obtain ⟨q2,u,b1,b2,b3⟩:=bindC (Or.inl vl);have hbd:jgq (sub [] l) (sub [] r)=((sub [] l).name,sub [] r):=ja0 (by rw[vl,vr,hc];simp);rw[hbd]at b1;cases q2
    .rw [b2 rfl];simp only[evz,w1,w2,g1,g2,g3,g4,jfg,r1,r2,e1,e2,e3,v1,v2,hc,b1];rfl
    .rw [<-b3 rfl];simp only[evz,w1,w2,g1,g2,g3,g4,jfg,r1,r2,e1,e2,e3,v1,v2,hc,b1,hn]
   .obtain ⟨q2,u,b1,b2,b3⟩:=bindC (Or.inl vl);have hbd:jgq (sub [] l) (sub [] r)=((sub [] r).name,sub [] l):=jbZ (Or.inr ⟨vr,hc⟩);rw[hbd]at b1;cases q2
    .rw [b2 rfl];simp only[evz,w1,w2,g1,g2,g3,g4,jfg,r1,r2,e1,e2,e3,v1,v2,hc,b1];rfl
    .rw [<-b3 rfl];simp only[evz,w1,w2,g1,g2,g3,g4,jfg,r1,r2,e1,e2,e3,v1,v2,hc,b1,hn]
 cases vr:jgk (sub [] r).name<;>rw[vr]at v2
 rotate_left
 .obtain ⟨q2,u,b1,b2,b3⟩:=bindC (Or.inr vr);have hbd:jgq (sub [] l) (sub [] r)=((sub [] r).name,sub [] l):=jbZ (Or.inl vl);rw[hbd]at b1;cases q2
  .rw [b2 rfl];simp only[evz,w1,w2,g1,g2,g3,g4,jfg,r1,r2,e1,e2,e3,v1,v2,b1];rfl
  .rw [<-b3 rfl];simp only[evz,w1,w2,g1,g2,g3,g4,jfg,r1,r2,e1,e2,e3,v1,v2,b1,hn]
 have hst:=jmD (rest:=rest) sl sr hd vl vr;by_cases hnm:(sub [] l).name=(sub [] r).name;rotate_left
 .rw [ja0 (λh=>hnm h.1)]at hst;have hnd:=decide_eq_false hnm;rw[jgP hst hu];simp only[evz,w1,w2,g1,g2,g3,g4,jfg,r1,r2,e1,e2,e3,v1,v2,hnd];rfl
 have hnd:=decide_eq_true hnm;by_cases hal:(sub [] l).args.length=(sub [] r).args.length;rotate_left
 .rw [ja0 (λh=>hal h.2)]at hst;have hal':decide ((((sub [] l).args.length:Nat):Int)=(((sub [] r).args.length:Nat):Int))=false:=decide_eq_false (by omega);rw[jgP hst hu];simp only[evz,w1,w2,g1,g2,g3,g4,jfg,r1,r2,e1,e2,e3,v1,v2,hnd,hal'];rfl
 rw[jbZ ⟨hnm,hal⟩]at hst;have hnext:=ih _ _ res (jhp hi hst).1 (jh6 hi hg hst) (jhu hst hu);have hnext:=(hnext.2.2 rfl).2;have hin:=jEo W (off+1) hlen (sub [] l) (sub [] r) hal (jn1 xl);rw[d2]at hin;rw[hnext]at hin;have hal':decide ((((sub [] l).args.length:Nat):Int)=(((sub [] r).args.length:Nat):Int))=true:=decide_eq_true (by omega);simp only[evz,w1,w2,g1,g2,g3,g4,jfg,r1,r2,e1,e2,e3,v1,v2,hnd,hal',hn];exact hin
theorem jLq(k:Nat)(ih:∀(s:jgn)(es:Eqs)(res:Option jgn),jjk s es->Hgt s 126 es->jgX k s es=some res->USS s es (jhI res))(l r:T)(rest:Eqs)(hi:jjk [] ((l,r)::rest))(hg:Hgt [] 126 ((l,r)::rest))(res:Option jgn)(hu:jgX (k+1) [] ((l,r)::rest)=some res)(W:Eqs)(hW:W=(l,r)::rest)(hlen:W.length<=1000):jm9 (W.map ec) [] [] []=jhI res:=by
 have hW0:W.drop 0=(l,r)::rest:=hW;rw[<-jIq k ih l r rest hi hg res hu W 0 hW0 hlen];obtain⟨d1,d2,d3⟩:=jiX hW0;obtain⟨r1,r2⟩:=jmk d1;have w1:nOf (nA 0)=0:=rfl;have w2:nOf (nA W.length)=W.length:=rfl;have f1:jdl .gtr false (nA W.length) (vi 0)=some (vb true):=by
  show some (vb (decide ((0:Int)<((W.length:Nat):Int))))=_;rw[decide_eq_true (by omega)]
 have f3:pB W.length (jd6 (W.map ec) 0) none=some W.length:=by
  rw[show jd6 (W.map ec) 0=W.length by rw[jh2,List.length_map];rfl];exact jhe (jdB _)
 have g2:pIx W.length (vi 0)=some 0:=jgZ (i:=0) (by omega);have g3:pB (jaJ (W.map ec)) (jd6 (W.map ec) 0) none=some W.length:=by
  rw[jhY,f3]
 have g4:pB 0 W.length (some (vi 1))=some 1:=jiq (n:=1) (by omega);have g0:(0:Int)<((W.length:Nat):Int):=by omega
 rw[jwR,jwP,Nat.sub_zero];simp only[evz,w1,w2,f1,f3,g0,g2,g3,g4,r1,r2]
theorem jDs(s:jgn):USS s [] (jhI (some s)):=by
 refine⟨λW off hW h1 h2=>?_,?_,λhs=>?_⟩
 .have h3:=congrArg List.length hW;rw[List.length_drop,jfJ]at h3;have w2:nOf (nA (W.length-off))=W.length-off:=rfl;have g1:jdl .gtr false (nA (W.length-off)) (vi 0)=some (vb false):=by
   show some (vb (decide ((0:Int)<((W.length-off:Nat):Int))))=_;rw[decide_eq_false (by omega)]
  rw[jwQ];simp only[evz,w2,g1];rfl
 .rw [jBt];have g1:jdl .gtr false (jaK (List.map ec [])) (vi 0)=some (vb false):=rfl;simp only[evz];rfl
 .subst hs;refine⟨λW off hW h1 h2=>?_,?_⟩
  .have h3:=congrArg List.length hW;rw[List.length_drop,jfJ]at h3;have w2:nOf (nA (W.length-off))=W.length-off:=rfl;have g1:jdl .gtr false (nA (W.length-off)) (vi 0)=some (vb false):=by
    show some (vb (decide ((0:Int)<((W.length-off:Nat):Int))))=_;rw[decide_eq_false (by omega)]
   rw[jwP];simp only[evz,w2,g1];rfl
  .rw [jwR];have g1:jdl .gtr false (jaK (List.map ec [])) (vi 0)=some (vb false):=rfl;simp only[evz];rfl
theorem jG5:∀(k:Nat)(s:jgn)(es:Eqs)(res:Option jgn),jjk s es->Hgt s 126 es->jgX k s es=some res->USS s es (jhI res):=by
 intro k;induction k with
 |zero=>
  intro s es res hi hg hu;cases es with
  |nil=>simp only[jgX,jb4]at hu;rw[<-hu];exact jDs s
  |cons p es=>simp[jgX]at hu
 |succ k ih=>
  intro s es res hi hg hu;cases es with
  |nil=>simp only[jgX,jb4]at hu;rw[<-hu];exact jDs s
  |cons p rest=>
   obtain⟨l,r⟩:=p;have hl:=hg.len;refine⟨λW off hW _ hlen=>jIr k ih s l r rest hi hg res hu W off hW hlen,jLr k ih s l r rest hi hg res hu _ rfl (by omega),λhs=>?_⟩;subst hs;exact⟨λW off hW _ hlen=>jIq k ih l r rest hi hg res hu W off hW hlen,jLq k ih l r rest hi hg res hu _ rfl (by omega)⟩
theorem jIp(W:Eqs):jwv (W.map ec) [] [] []=jm9 (W.map ec) [] [] []:=by
 rw[jGy,jwR]
theorem jlj(a b:T)(ha:Exx a)(hb:Exx b):G 173 [tm a,tm b]=jhI (jiu a b):=by
 obtain⟨k,hk⟩:=jjr ha hb;have h:=((jG5 k [] [(a,b)] _ (jsr ha hb) (jH2 a b) hk).2.2 rfl).2;rw[<-jIp]at h;rw[jJE];simp only[evz];exact h
theorem jrR(d:Cls)(h:jgu d=true):G 191 [cm d]=some (cm (jgp d),[]):=by
 obtain⟨hc,_,_,hnm⟩:=jgG h;have hl:=jio hc;have e1:=jsc d hc;have e2:=jm3 89 d hc (jgU d) (λn=>jno) (hc.ren_tz (by decide));have e2:G 227 [cm d,.mp ((jjb 89 0 (jgU d)).map kn)]=some (cm (jgp d),[]):=by rw[e2,<-apart_eq h];rfl
 have hnd:=jlm d;have hnum:∀i (hi:i<(jgU d).length),(jgU d)[i]=jiG 88 i:=λi hi=>by
  obtain⟨j,hj,e,e'⟩:=jnp hnm (jfL hi);rw[jrU hnd hi]at e';rw[e,jCz e']
 generalize jgU d=ns at *;have key:=upto (P:=λi=>∀m:Nm',(∀n∈ns.drop i,jhq m n=none)->m++jjb 89 i (ns.drop i)=jjb 89 0 ns->jsS (strs ns) (vi (ns.length:Nat)) (vi (i:Nat)) (.sl 3 (d.map ltc)) (m.map kn) []=some (cm (jgp d),[])) (n:=ns.length) ?_ ?_ 0 (Nat.zero_le _) [] (λn _=>rfl) (by rw[List.drop_zero];rfl)
 .simp only[Int.natCast_zero,List.map_nil]at key;rw[jJQ];simp only[evz,e1,key]
 .intro m _ hm;rw[List.drop_length,jjb,jf4]at hm;subst hm;rw[jBy];simp only[evz,e2]
 .intro i hi ih m hm hp;have hlt:(i:Int)<((ns.length:Nat):Int):=by omega
  have h5:=jgj hi (by show ns.length<=9223372036854775807;omega)
  have ld:QO (.elt (cs ns[i]) 0)=some (sv ns[i]):=rfl;have hd:(ns.drop i).Nodup:=hnd.sublist (List.drop_sublist i ns);rw[jgg hi]at hm hd hp;have pt:=jFz (hm ns[i] (List.mem_cons_self ..)) (jiG 89 i);have e3:Kb (sv ns[i]) (some (vi 1)) none=some (sv (Lib.decDigits i)):=by
   rw[hnum i hi];have hlen:(jiG 88 i).length=(Lib.decDigits i).length+1:=rfl;show(if(0:Int)<=1/\(1:Int)<=(((jiG 88 i).length:Nat):Int)/\(((jiG 88 i).length:Nat):Int)<=(((jiG 88 i).length:Nat):Int)then some (sv (((jiG 88 i).take ((((jiG 88 i).length:Nat):Int).toNat)).drop 1))else none)=_;rw[jbZ ⟨by omega,by omega,by omega⟩,Int.toNat_natCast,List.take_length];rfl
  have e4:=jGM 89 i (by omega);have ih:=ih (m++[(ns[i],jiG 89 i)]) (λn hn'=>by
   rw[joI,hm n (List.mem_cons_of_mem _ hn')];show(if ns[i]=n then _ else none)=none;rw[ja0];rintro e;exact(jfP.1 hd).1 (e ▸ hn')) (by rw[jet];exact hp)
  rw[jBy];simp only[evz,hlt,jfY hi,ld,e3,e4,pt,h5,ih]
theorem joz(d:Cls)(h:jgu d=true):G 172 [cm d]=some (cm (jgp d),[]):=by
 obtain⟨hc,_,_,_⟩:=jgG h;have e1:=jsd d hc;have e2:=jo8 89 (by decide) d hc;rw[apart_eq h]at e2;rw[jJD];simp only[evz,e1,e2]
theorem jAB(c:Cls)(hl:c.length<=1000):jwo (.sl 3 (c.map ltc))=some (.top,[.sl 3 (c.map ltc)]):=by
 have e1:jd4 (.sl 3 (c.map ltc))=some (c.map ltc):=rfl;have f:jbB c.length 48=true:=jkR (by omega);rw[jF2];cases c with
 |nil=>
  have f0:jbB 0 48=true:=jkR (by omega);have hz:nz (jaJ [])=true:=rfl;have e1:jd4 (.sl 3 [])=some []:=rfl;simp only[evz,e1,hz,f0,List.map_nil,jdO]
 |cons l r=>
  have hz:nz (jaJ (List.map ltc (l::r)))=false:=rfl;generalize l::r=x at *;simp only[evz,e1,hz,f]
theorem jyU(c:Cls)(hl:c.length<=1000)(i:Nat)(hi:i<c.length):jwn (vi (i:Nat)) (vi ((i+1:Nat):Int)) (c.map ltc)=some (.top,[.sl 3 ((c.eraseIdx i).map ltc)]):=by
 have e1:jaJ (c.map ltc)=c.length:=jhY ltc c;have e2:jd6 (c.map ltc) 0=c.length:=by rw[jh2,List.length_map];rfl
 have hne:¬((i:Nat):Int)=((i+1:Nat):Int):=by omega
 have k1:pB 0 c.length (some (vi (c.length:Nat)))=some c.length:=jiq (jdB _);have k2:pB 0 c.length (some (vi ((i+1:Nat):Int)))=some (i+1):=jiq (by omega);have k3:pB 0 (i+1) (some (vi (i:Nat)))=some i:=jiq (by omega);have k4:pB c.length c.length (some (vi (i:Nat)))=some i:=jiq (by omega);have k5:pB c.length c.length none=some c.length:=jhe (jdB _);have w1:jeX (c.map ltc) (0+(i+1)) (jeQ c.length (i+1))=(c.drop (i+1)).map ltc:=by
  rw[jn8,jie,je8,<-List.map_drop,jfU (by rw[List.length_map,List.length_drop];omega)]
 have w2:jaJ ((c.drop (i+1)).map ltc)=c.length-(i+1):=by rw[jhY,List.length_drop]
 have rm:jcY 0 (jeQ i 0) ((c.drop (i+1)).map ltc) (c.map ltc)=true:=by
  rw[jCR,jie];exact decide_eq_true (by rw[List.length_map,List.length_map,List.length_drop];omega)
 generalize hov:yn (c.map ltc) (0+jeQ i 0) ((c.drop (i+1)).map ltc)=O at *;have hO:O=(c.eraseIdx i).map ltc++(c.map ltc).drop (c.length-1):=by
  rw[<-hov,jkT,jie,Nat.sub_zero,je8,List.eraseIdx_eq_take_drop_succ,List.map_append,List.map_take,List.length_map,List.length_drop];congr 2;omega
 have hOl:O.length=c.length:=by
  rw[hO,jf7,List.length_map,List.length_eraseIdx_of_lt hi,List.length_drop,List.length_map];omega
 have k6:pB (jeQ i 0+(c.length-(i+1))) (jd6 O 0) (some (vi (c.length:Nat)))=some c.length:=by
  rw[jh2,hOl];exact jiq (by omega)
 have k7:pB 0 c.length (some (nA (jeQ i 0+(c.length-(i+1)))))=some (c.length-1):=by
  rw[jie,show i-0+(c.length-(i+1))=c.length-1 by omega];exact jiq (by omega)
 have fin:List.take (jeQ i 0+(c.length-(i+1))) (yn O (0+(c.length-1)) (QP (jeQ c.length (c.length-1)) [vb false,sv [],.sl 2 []]))=(c.eraseIdx i).map ltc:=by
  have hlen:((c.eraseIdx i).map ltc).length=c.length-1:=by rw[List.length_map,List.length_eraseIdx_of_lt hi]
  rw[jie,show i-0+(c.length-(i+1))=c.length-1 by omega,jkT,je8,jet,jf5 (by rw[List.length_take,hOl];omega),List.take_take,Nat.min_self,hO,jf5 (by omega),jfU (by omega)]
 rw[jF1];simp only[cev];rw[e1,e2,jn7,List.length_map,k1,Option.bind_some,k2,Option.bind_some,k3,Option.bind_some,jvu,decide_eq_false hne,Option.bind_some,jj1,Option.bind_some,jjO,k4,Option.bind_some,k5,Option.bind_some,k2,Option.bind_some,w1,rm,jql,hov,w2,k6,Option.bind_some,k7,Option.bind_some,fin]
theorem jji(c:Cls)(hl:c.length<=1000)(i:Nat)(hi:i<c.length):G 194 [cm c,vi (i:Nat)]=some (.sl 3 ((c.eraseIdx i).map ltc),[]):=by
 have e1:=jAB c hl;have e2:=jyU c hl i hi;have r1:∀x:Cls,hR 3 (A.top,[.sl 3 (x.map ltc)]) 0=some (x.map ltc):=λx=>rfl;have h5:=jgj hi (by show c.length<=9223372036854775807;omega);rw[jJS];simp only[evz,e1,r1,h5,e2]
theorem jiZ(c:Cls)(hl:c.length<=1000)(i:Nat)(hi:i<c.length):jm7 (.sl 3 (c.map ltc)) (vi (i:Nat))=some (.top,[.sl 3 ((c.eraseIdx i).map ltc)]):=by
 have s1:Jy 3 (.sl 3 (c.map ltc)) none (some (vi (i:Nat)))=some (.sl 3 ((c.map ltc).take i)):=jiW (by rw[List.length_map];omega)
 have s2:Jy 3 (.sl 3 (c.map ltc)) (some (vi ((i+1:Nat):Int))) none=some (.sl 3 ((c.map ltc).drop (i+1))):=jhJ (by rw[List.length_map];omega)
 have hck:ck ((i:Int)+1)=some (vi ((i+1:Nat):Int)):=jgA (by omega) (by omega);have f1:jbB ((c.map ltc).take i).length 48=true:=jkR (by rw[List.length_take,List.length_map];omega);have f2:jbB (((c.map ltc).take i).length+((c.map ltc).drop (i+1)).length) 48=true:=jkR (by rw[List.length_take,List.length_drop,List.length_map];omega);have fin:jeV ((c.map ltc).take i) ((c.map ltc).drop (i+1))=(c.eraseIdx i).map ltc:=by
  rw[List.eraseIdx_eq_take_drop_succ,List.map_append,List.map_take,List.map_drop];rfl
 rw[jFY];simp only[evz,s1,s2,hck,f1,f2,fin]
theorem jEn(n:Nat)(hn:n<=1000):jwm (vi (n:Nat))=some (.top,[.sl 3 []]):=by
 have h0:¬((n:Nat):Int)<0:=by omega
 have c1:ck (0-0)=some (vi 0):=jgA (n:=0-0) (by omega) (by omega);have c2:ck (((n:Nat):Int)-0)=some (vi (n:Nat)):=by rw[Int.sub_zero];exact jgA (by omega) (by omega)
 rw[jF0];by_cases hz:n=0
 .have hz':¬(0:Int)<((n:Nat):Int):=by omega
  simp only[evz,h0,c1,c2,hz']
 .have hz':(0:Int)<((n:Nat):Int):=by omega
  have k1:pB 0 0 (some (vi 0))=some 0:=rfl;have k2:=jic (b:=48) (n:=n) (by omega) (by omega);have k3:jbB n 48=true:=jkR (by omega);have k4:∀X:Xc,pB (jaJ X) (jd6 X 0) (some (vi 0))=some 0:=λX=>jiq (n:=0) (Nat.zero_le _);simp only[evz,h0,c1,c2,hz',k1,k2,k3,k4,jie];rfl
theorem jrX(ls:List Cls)(hn:ls.length<=10)(hl:∀c∈ls,c.length<=50):jon (ls.map clc)=some (.top,[.sl 3 (ls.flatten.map ltc)]):=by
 have r1:∀x:Cls,hR 3 (A.top,[.sl 3 (x.map ltc)]) 0=some (x.map ltc):=λx=>rfl;have rp:∀i,(hi:i<ls.length)->jc0 (ls.map clc) i 0=some (.sl 3 (ls[i].map ltc)):=λi hi=>by unfold jc0;simp[hi]
 have hix:∀i,i<ls.length->pIx ls.length (vi (i:Nat))=some i:=λi hi=>jgZ hi;have hend:jlN (vi (ls.length:Nat)) (vi 0) [] (ls.map clc)=some (.top,[.sl 3 (ls.flatten.map ltc)]):=by
  have key:=upto (P:=λi=>∀R:Cls,R.length<=50*i->R++(ls.drop i).flatten=ls.flatten->jlN (vi (ls.length:Nat)) (vi (i:Nat)) (R.map ltc) (ls.map clc)=some (.top,[.sl 3 (ls.flatten.map ltc)])) (n:=ls.length) ?_ ?_ 0 (Nat.zero_le _) [] (Nat.zero_le _) (by rw[List.drop_zero];rfl)
  .exact key
  .intro R _ hR;rw[List.drop_length,List.flatten_nil,jf4]at hR;rw[ju2,hR];simp only[evz]
  .intro i hi ih R hRl hR;have hlt:(i:Int)<((ls.length:Nat):Int):=by omega
   have hck:ck ((i:Int)+1)=some (vi ((i+1:Nat):Int)):=jgA (by omega) (by omega);have hc:=hl _ (jfL hi);have hf:jbB (R.length+ls[i].length) 48=true:=jkR (by omega);have ha:jeV (R.map ltc) (ls[i].map ltc)=(R++ls[i]).map ltc:=by rw[List.map_append];rfl
   have:=ih (R++ls[i]) (by rw[jf7];omega) (by rw[jet,<-jdT,<-jgg hi];exact hR)
   rw[ju2];simp only[evz,hlt,hix i hi,rp i hi,hf,ha,hck,this]
 have key:=upto (P:=λi=>∀z:Nat,z<=50*i->jnA (vi (z:Nat)) (vi (ls.length:Nat)) (vi (i:Nat)) (ls.map clc)=some (.top,[.sl 3 (ls.flatten.map ltc)])) (n:=ls.length) ?_ ?_ 0 (Nat.zero_le _) 0 (Nat.zero_le _)
 .rw [jFZ,jn7,List.length_map];exact key
 .intro z hz;have e:=jEn z (by omega);have r0:hR 3 (A.top,[.sl 3 []]) 0=some []:=rfl;rw[ju1];simp only[evz,e,r0,hend]
 .intro i hi ih z hz;have hlt:(i:Int)<((ls.length:Nat):Int):=by omega
  have hck:ck ((i:Int)+1)=some (vi ((i+1:Nat):Int)):=jgA (by omega) (by omega);have hc:=hl _ (jfL hi);have c1:ck ((z:Int)+((ls[i].length:Nat):Int))=some (vi ((z+ls[i].length:Nat):Int)):=jgA (by omega) (by omega);have hneg:¬((z+ls[i].length:Nat):Int)<0:=by omega
  have:=ih (z+ls[i].length) (by omega);rw[ju1];simp only[evz,hlt,hix i hi,rp i hi,c1,hneg,hck,this]
def LN(l:Cls):Prop:=l.length<=40/\ ∀x∈l,Bx x.2/\nodes x.2<=100
theorem LN.app{s:jgn}(hs:jgv s=true){l:Cls}(h:LN l):∀x∈l.map (λx=>(x.1,Go.Proofs.YthlhadhipnokfaaGreatDoor.sub s x.2)),Bx x.2/\Tz x.2:=λx hx=>by
 obtain⟨y,hy,rfl⟩:=jfx.1 hx;have hb:=(h.2 y hy).1;exact⟨hb.sub hs,AxT.sub_tz hs hb.ax (by have:=(h.2 y hy).2;omega)⟩
theorem jrS{s:jgn}{l c:Cls}(h:jjR s l=some c):CN c/\Asc cmpL c:=⟨(jiz (jk8 h).1).1,(jk8 h).2⟩
theorem jAn(s:jgn)(hs:jgv s=true)(l:Cls)(h:LN l):G 206 [sb s,.sl 3 (l.map ltc)]=jiQ (jjR s l):=by
 have hl:=h.1;have happ:=h.app hs;have e1:=jo0 (l.map λx=>(x.1,sub s x.2)) (by rw[List.length_map];omega) (λx hx=>(happ x hx).1.rx) λx hx=>(happ x hx).2;have e2:=juP (jhA cmpL (l.map λx=>(x.1,sub s x.2))) (by have:=joJ cmpL (l.map λx=>(x.1,sub s x.2));rw[List.length_map]at this;omega) λx hx=>(happ x (jmx.1 hx)).2;generalize hd:l.map (λx=>(x.1,sub s x.2))=d at *;have hdl:d.length=l.length:=by rw[<-hd,List.length_map]
 have key:=upto (P:=λi=>jsX (.sl 3 (l.map ltc)) (vi (l.length:Nat)) (vi (i:Nat)) (sbs s) ((d.take i).map ltc) []=jiQ (if((l.drop i).all λx=>jgr (sub s x.2)) && jhP (jhA cmpL d)then some (jhA cmpL d)else none)) (n:=l.length) ?_ ?_ 0 (Nat.zero_le _)
 .simp only[Int.natCast_zero,List.take_zero,List.map_nil,List.drop_zero]at key;unfold jjR;rw[hd,<-key,jJ1];simp only[evz]
 .rw [jBF,<-hdl,List.take_length,hdl,List.drop_length,List.all_nil,Bool.true_and];rw[<-hdl];cases hv:jhP (jhA cmpL d)<;>rw[hv]at e2
  .rw [ja0 Bool.false_ne_true]at e2⊢;have e2:G 244 [cm (jhA cmpL d)]=some (.tup [cz,vb false],[]):=e2;simp only[evz,e1,e2];rfl
  .rw [jbZ rfl]at e2⊢;have e2:G 244 [cm (jhA cmpL d)]=some (.tup [cm (jhA cmpL d),vb true],[]):=e2;simp only[evz,e1,e2];rfl
 .intro i hi ih;have hi2:i<d.length:=by omega
  have hlt:(i:Int)<((l.length:Nat):Int):=by omega
  have h5:=jgj hi (by show l.length<=9223372036854775807;omega)
  have hb:=h.2 _ (jfL hi);have e3:=jik s hs l[i].2 hb.1.ax (by omega);have hdi:d[i]=(l[i].1,sub s l[i].2):=by simp only[<-hd,List.getElem_map]
  have ta:=jkX (f:=ltc) hi2;have tl:=take_len (f:=ltc) (Nat.le_of_lt hi2);have hf:jbB (i+1) 48=true:=jkR (by omega);rw[hdi]at ta;rw[jBF,jgg hi,jev];cases hsm:jgr (sub s l[i].2)<;>rw[hsm]at e3
  .rw [Bool.false_and,Bool.false_and,ja0 Bool.false_ne_true];have e3:G 198 [sb s,tm l[i].2]=some (.tup [.agg [sv [],.sl 2 []],vb false],[]):=e3;simp only[evz,hlt,jfY hi,jgS,e3];rfl
  .rw [Bool.true_and];have e3:G 198 [sb s,tm l[i].2]=some (.tup [tm (sub s l[i].2),vb true],[]):=e3;generalize (d.take i).map ltc=R at *;generalize sub s l[i].2=u at *;rw[<-ih];simp only[evz,hlt,jfY hi,jgS,e3,tl,hf,ta,h5]
theorem jAo(s:jgn)(hs:jgv s=true)(l:Cls)(h:LN l):G 213 [sb s,.sl 3 (l.map ltc)]=jiQ (jjR s l):=by
 have hl:=h.1;have happ:=h.app hs;have e1:=joH (l.map λx=>(x.1,sub s x.2)) (by rw[List.length_map];omega) λx hx=>(happ x hx).2;have e2:=jmv (jhA cmpL (l.map λx=>(x.1,sub s x.2))) (by have:=joJ cmpL (l.map λx=>(x.1,sub s x.2));rw[List.length_map]at this;omega) λx hx=>(happ x (jmx.1 hx)).2;generalize hd:l.map (λx=>(x.1,sub s x.2))=d at *;have hdl:d.length=l.length:=by rw[<-hd,List.length_map]
 have ld:∀l:Lt,QO (.elt (ltc l) 0)=some (vb l.1):=λl=>rfl;have ad:∀(l:Lt)(n:Nat),jdk (.elt (ltc l) 0) n=some (.elt (ltc l) n):=λl n=>by rw[jip,je8]
 have ld2:∀l:Lt,QN 2 (.elt (ltc l) 1)=some (tm l.2):=λl=>rfl;have key:=upto (P:=λi=>js1 (.sl 3 (l.map ltc)) (vi (i:Nat)) (sbs s) ((d.take i).map ltc) []=jiQ (if((l.drop i).all λx=>jgr (sub s x.2)) && jhP (jhA cmpL d)then some (jhA cmpL d)else none)) (n:=l.length) ?_ ?_ 0 (Nat.zero_le _)
 .simp only[Int.natCast_zero,List.take_zero,List.map_nil,List.drop_zero]at key;unfold jjR;rw[hd,<-key,jJ8];simp only[evz]
 .have hlt:¬((l.length:Nat):Int)<((l.length:Nat):Int):=by omega
  rw[jBJ,jfU (by omega),List.drop_length,List.all_nil,Bool.true_and];cases hv:jhP (jhA cmpL d)<;>rw[hv]at e2
  .rw [ja0 Bool.false_ne_true];simp only[evz,e1,e2];rfl
  .rw [jbZ rfl];simp only[evz,e1,e2];rfl
 .intro i hi ih;have hi2:i<d.length:=by omega
  have hlt:(i:Int)<((l.length:Nat):Int):=by omega
  have h5:=jgj hi (by show l.length<=9223372036854775807;omega)
  have hb:=h.2 _ (jfL hi);have tz:=hb.1.tz (by omega);have tz2:=AxT.sub_tz hs hb.1.ax (by omega);have e3:=jjg s (jhs hs).sz l[i].2 tz;have e4:=jr2 (sub s l[i].2) tz2.wf tz2;rw[(hb.1.sub hs).atom]at e4;have hdi:d[i]=(l[i].1,sub s l[i].2):=by simp only[<-hd,List.getElem_map]
  have ta:=jkX (f:=ltc) hi2;have tl:=take_len (f:=ltc) (Nat.le_of_lt hi2);have hf:jbB (i+1) 48=true:=jkR (by omega);rw[hdi]at ta;rw[jBJ,jgg hi,jev];cases hsm:jgr (sub s l[i].2)<;>rw[hsm]at e4
  .rw [Bool.false_and,Bool.false_and,ja0 Bool.false_ne_true];simp only[evz,hlt,jfY hi,ad,ld2,e3,e4];rfl
  .rw [Bool.true_and];generalize (d.take i).map ltc=R at *;generalize sub s l[i].2=u at *;rw[<-ih];simp only[evz,hlt,jfY hi,ad,ld,ld2,e3,e4,tl,hf,ta,h5]
theorem jjo(s:jgn)(hs:jgv s=true)(l:Cls)(h:LN l):G 163 [sb s,.sl 3 (l.map ltc)]=jiQ (jhZ s l):=by
 have e1:=jAn s hs l h;unfold jhZ;rw[jJv];cases ha:jjR s l with
 |none=>
  rw[ha]at e1;have e1:G 206 [sb s,.sl 3 (l.map ltc)]=some (.tup [cz,vb false],[]):=e1;simp only[evz,e1];rfl
 |some c=>
  rw[ha]at e1;have e1:G 206 [sb s,.sl 3 (l.map ltc)]=some (.tup [cm c,vb true],[]):=e1;have hc:=(jrS ha).1;have e2:=jtX c hc;have e3:=jho (normC c) (by have:=hc.normC.1;omega) hc.normC.tz;rw[Option.bind_some];cases hn:jgu (normC c)<;>rw[hn]at e3
  .rw [ja0 Bool.false_ne_true];simp only[evz,e1,e2,e3];rfl
  .rw [jbZ rfl];simp only[evz,e1,e2,e3];rfl
theorem ji5(s:jgn)(hs:jgv s=true)(l:Cls)(h:LN l):G 174 [sb s,.sl 3 (l.map ltc)]=jiQ (jhZ s l):=by
 have e1:=jAo s hs l h;unfold jhZ;rw[jJF];cases ha:jjR s l with
 |none=>
  rw[ha]at e1;have e1:G 213 [sb s,.sl 3 (l.map ltc)]=some (.tup [cz,vb false],[]):=e1;simp only[evz,e1];rfl
 |some c=>
  rw[ha]at e1;have e1:G 213 [sb s,.sl 3 (l.map ltc)]=some (.tup [cm c,vb true],[]):=e1;obtain⟨hc,hasc⟩:=jrS ha;have e2:=jvh c hc hasc;have e3:=jkA (normC c) hc.normC;rw[Option.bind_some];unfold jgu;cases hv:jhP (normC c)<;>rw[hv]at e2
  .rw [Bool.false_and,ja0 Bool.false_ne_true];simp only[evz,e1,e2];rfl
  .rw [Bool.true_and];cases hn:ji4 (normC c)<;>rw[hn]at e3
   .rw [ja0 Bool.false_ne_true];simp only[evz,e1,e2,e3];rfl
   .rw [jbZ rfl];simp only[evz,e1,e2,e3];rfl
theorem jg2(r:Option Cls):∃(c:Cls)(b:Bool),jiQ r=some (.tup [cm c,vb b],[]):=by
 cases r with
 |none=>exact⟨[],false,rfl⟩
 |some c=>exact⟨c,true,rfl⟩
theorem jmy(r:Option jgn):∃(u:jgn)(b:Bool),jhI r=some (.tup [sb u,vb b],[])/\(b=true->r=some u)/\(b=false->r=none):=by
 cases r with
 |none=>exact⟨[],false,rfl,(λh=>by cases h),λ_=>rfl⟩
 |some u=>exact⟨u,true,rfl,(λ_=>rfl),λh=>by cases h⟩
def jLE(f g:FuncId)(args:Xd):Prop:=∃r:Option Cls,G f args=jiQ r/\G g args=jiQ r/\ ∀x,r=some x->jgu x=true
def jjK(c:Cls)(i:Int):Bool:=inB 0 (((c.length:Nat):Int)-1) i
theorem jiT{c:Cls}{i:Int}(h:jjK c i=true):∃k:Nat,i=(k:Int)/\k<c.length:=by
 unfold jjK inB at h;rw[jbX,jfH,jfH]at h;exact⟨i.toNat,by omega,by omega⟩
theorem jg6(c:Cls)(hl:c.length<=1000)(i:Int):G 190 [cm c,vi i]=some (vb (jjK c i),[]):=by
 have c1:ck (((c.length:Nat):Int)-1)=some (vi (((c.length:Nat):Int)-1)):=jgA (by omega) (by omega);have e:=jhz i 0 (((c.length:Nat):Int)-1);rw[jJP];simp only[evz,c1,e];rfl
theorem LN.erase{c:Cls}(h:CN c)(i:Nat):LN (c.eraseIdx i):=⟨by have:=List.length_eraseIdx_le c i;have:=h.1;omega,λx hx=>by
 have:=h.2 x (List.mem_of_mem_eraseIdx hx);exact⟨this.1,by omega⟩⟩
theorem LN.append{a b:Cls}(ha:CN a)(hb:CN b)(i k:Nat):LN (a.eraseIdx i++b.eraseIdx k):=⟨by
 have:=List.length_eraseIdx_le a i;have:=List.length_eraseIdx_le b k;have:=ha.1;have:=hb.1;rw[jf7];omega,λx hx=>by
 rcases jeO.1 hx with hx|hx
 .exact (LN.erase ha i).2 x hx
 .exact (LN.erase hb k).2 x hx⟩
theorem ldB(l:Lt):QO (.elt (ltc l) 0)=some (vb l.1):=rfl
theorem adL(l:Lt)(n:Nat):jdk (.elt (ltc l) 0) n=some (.elt (ltc l) n):=by rw[jip,je8]
theorem ldT(l:Lt):QN 2 (.elt (ltc l) 1)=some (tm l.2):=rfl
theorem hRl(x:Cls):hR 3 (A.top,[.sl 3 (x.map ltc)]) 0=some (x.map ltc):=rfl
theorem jyO(d:Cls)(n:Nat)(h:n<(jgp d).length)(h':n<d.length):(jgp d)[n].1=d[n].1:=by simp only[jgp,List.getElem_map]
theorem ldA(l:Lt):QO (.elt (ltc l) 2)=some (tms l.2.args):=rfl
theorem jkF(l:Lt):jdk (.elt (ltc l) 1) 1=some (.elt (ltc l) 2):=rfl
theorem jl1(l:Lt)(b:Bool):G 176 [ltm l,vb b]=some (vb (decide (l.1=b) && decide (l.2.name=[61])),[]):=by
 rw[jJG];by_cases h:l.1=b
 .rw [decide_eq_true h,Bool.true_and];simp only[evz,h]
 .rw [decide_eq_false h,Bool.false_and];simp only[evz,h]
theorem juD{t:T}(hb:Bx t)(he:t.name=[61])(hn:nodes t<=30):t.args.length=2/\okT (jjS t)=true/\okT (jkx t)=true/\nodes (jjS t)<=30/\nodes (jkx t)<=30/\kL 2 (tms t.args) (vi 0)=some (.elt (jgi (jjS t)) 0)/\kL 2 (tms t.args) (vi 1)=some (.elt (jgi (jkx t)) 0):=by
 rcases hb with hb|hb
 rotate_left
 .rw [he]at hb;exact absurd hb.1 (by decide)
 obtain⟨f1,f2,f3,f4⟩:=jjd hb.2.1;have g1:=jh9 f3;have g2:=jh9 f4;exact⟨hb.2.1,hb.2.2 _ f3,hb.2.2 _ f4,by omega,by omega,f1,f2⟩
theorem jkB(n:Int):QO (.elt (ci n) 0)=some (vi n):=rfl
theorem jtH(n:Nat)(x:Int):inB 0 (((n:Nat):Int)-1) x=decide (0<=x/\x<(n:Int)):=by
 unfold inB;rw[<-Bool.decide_and];exact decide_eq_decide.2 ⟨λh=>⟨h.1,by omega⟩,λh=>⟨h.1,by omega⟩⟩
theorem jFP(t:T)(p:Xi)(ht:Tz t)(hl:p.length<=1048576):G 196 [tm t,ints p]=outT (atI p t):=by
 have key:=upto (P:=λi=>∀t:T,Tz t->jsV (ints p) (vi (p.length:Nat)) (vi (i:Nat)) (sv t.name) (tms t.args) (sv []) []=outT (atI (p.drop i) t)) (n:=p.length) ?_ ?_ 0 (Nat.zero_le _) t ht
 .simp only[Int.natCast_zero,List.drop_zero]at key;rw[jJU];simp only[evz,key]
 .intro t ht;rw[jBC,List.drop_length,atI];simp only[evz];rfl
 .intro i hi ih t ht;have hz:=ht;unfold Tz at hz;rw[jgL]at hz;have hlt:(i:Int)<((p.length:Nat):Int):=by omega
  have h5:=jgj hi (by show p.length<=9223372036854775807;omega)
  have c1:ck (((t.args.length:Nat):Int)-1)=some (vi (((t.args.length:Nat):Int)-1)):=jgA (by omega) (by omega);have e1:=jhz p[i] 0 (((t.args.length:Nat):Int)-1);rw[jtH]at e1;have ix:=jiI hi;rw[jBC,jgg hi,atI];by_cases hc:0<=p[i]/\p[i]<(t.args.length:Int)
  .rw [decide_eq_true hc]at e1;rw[jbZ hc];have hn:p[i].toNat<t.args.length:=by omega
   have ix2:=jfY (k:=2) (f:=jgi) hn;rw[show((p[i].toNat:Nat):Int)=p[i] by omega]at ix2;rw[jhC hn];have:=ih t.args[p[i].toNat] (ht.args _ (jfL hn));simp only[evz,hlt,ix,c1,e1,ix2,jga,h5,this]
  .rw [decide_eq_false hc]at e1;rw[ja0 hc];simp only[evz,hlt,ix,c1,e1];rfl
theorem jFQ(t:T)(p:Xi)(ht:Tz t)(hl:p.length<=1048576):G 177 [tm t,ints p]=outT (atI p t):=by
 have key:=upto (P:=λi=>∀t:T,Tz t->jpZ (ints p) (vi (i:Nat)) (sv t.name) (tms t.args) (sv []) []=outT (atI (p.drop i) t)) (n:=p.length) ?_ ?_ 0 (Nat.zero_le _) t ht
 .simp only[Int.natCast_zero,List.drop_zero]at key;rw[jHK];simp only[evz,key]
 .intro t ht;have e1:=jmh t ht;rw[jtK,List.drop_length,atI];simp only[evz,e1];rfl
 .intro i hi ih t ht;have hz:=ht;unfold Tz at hz;rw[jgL]at hz;have hlt:(i:Int)<((p.length:Nat):Int):=by omega
  have h5:=jgj hi (by show p.length<=9223372036854775807;omega)
  have c1:ck (((t.args.length:Nat):Int)-1)=some (vi (((t.args.length:Nat):Int)-1)):=jgA (by omega) (by omega);have e1:=jhd p[i] 0 (((t.args.length:Nat):Int)-1);rw[jtH]at e1;have ix:=jiI hi;rw[jtK,jgg hi,atI];by_cases hc:0<=p[i]/\p[i]<(t.args.length:Int)
  .rw [decide_eq_true hc]at e1;rw[jbZ hc];have hn:p[i].toNat<t.args.length:=by omega
   have ix2:=jfY (k:=2) (f:=jgi) hn;rw[show((p[i].toNat:Nat):Int)=p[i] by omega]at ix2;rw[jhC hn];have:=ih t.args[p[i].toNat] (ht.args _ (jfL hn));simp only[evz,hlt,ix,c1,e1,ix2,jga,h5,this]
  .rw [decide_eq_false hc]at e1;rw[ja0 hc];simp only[evz,hlt,ix,c1,e1];rfl
theorem jA4(q:Xf):ints (q.map λn:Nat=>(n:Int))=pln q:=by
 show A.sl 1 ((q.map _).map ci)=_;rw[jfs];rfl
theorem juy(t:T)(ht:Tz t):jom (sv t.name) (tms t.args)=some (.top,[sv t.name,tms t.args]):=by
 have hz:=ht;unfold Tz at hz;rw[jgL]at hz;have e1:=jlf t.args (by omega) λu hu=>jim u (ht.args u hu);have r1:hR 2 (A.top,[tms t.args]) 0=some (t.args.map jgi):=rfl;rw[jAs];simp only[evz,e1,r1]
theorem jpg(s:T)(hs:Tz s):∀(p:Xf)(t:T),Tz t->okP p t->p.length<=2000000->G 200 [tm t,pln p,tm s]=some (tm (jgM s p t),[])
 | [],t,_,_,_=>by
  have e1:=juy s hs;have hz:(((0:Nat):Int)=0)=True:=by simp
  rw[jHO,jgM];simp only[evz,hz,e1,List.map_nil,List.getElem?_cons_zero]
 |i::p,t,ht,hp,hl=>by
  obtain⟨h1,h2⟩:=hp;have e:t.args.getD i (.mk [] [])=t.args[i]:=jhC h1;rw[e]at h2;have e1:=juy t ht;have e2:=jpg s hs p t.args[i] (ht.args _ (jfL h1)) h2 (by rw[jfC]at hl;omega);have hz:¬((p.length+1:Nat):Int)=0:=by omega
  have i0:kL 1 (pln (i::p)) (vi 0)=some (.elt [vi (i:Nat)] 0):=jj2 (p:=i::p) (i:=0) (by simp);have sl:Jy 1 (pln (i::p)) (some (vi 1)) none=some (pln p):=by
   have:=jhJ (k:=1) (xs:=(i::p).map λn:Nat=>[vi (n:Nat)]) (i:=1) (by simp);exact this
  have ix:pIx t.args.length (vi (i:Nat))=some i:=jgZ h1;have rg:jbF (t.args.map jgi) i=some (jgi t.args[i]):=by unfold jbF;simp[h1]
  have co:Zj (jgi t.args[i]) 0 [sv (jgM s p t.args[i]).name,tms (jgM s p t.args[i]).args]=jgi (jgM s p t.args[i]):=by rw[jgT,jgT];rfl
  have rs:Y9 (t.args.map jgi) i (jgi (jgM s p t.args[i]))=(t.args.set i (jgM s p t.args[i])).map jgi:=by unfold Y9;rw[List.map_set]
  have ll:(jcV (pln (i::p)))=some (vi ((p.length+1:Nat):Int)):=by rw[jvC];simp only[evz]
  rw[jHO,jgM,e];simp only[evz,ll,hz,e1,i0,jfY h1,jga,sl,e2,ix,rg,co,rs,List.getElem?_cons_zero];rfl
theorem jnq{t:T}(hk:okT t=true)(hn:nodes t<=30):Tz t/\Exx t:=⟨AxT.tz (Or.inl hk) (by omega),Or.inl hk,by omega⟩
theorem jmJ{s:jgn}(hs:jgv s=true){t:T}(hk:okT t=true):jgR (sub s t)=jgr (sub s t):=by
 unfold jgR;rw[jkc (jiA hs) t hk,Bool.and_true]
noncomputable def rwL(rs:Xg):Cls->Option Cls
 | []=>some []
 |x::r=>(match rwN rs false 51 0 x.2 with
  |none=>none
  |some q=>(rwL rs r).map ((x.1,q.1)::·))
theorem jvU{rs:Xg}{c:Cls}{i:Nat}(h:i<c.length):rwL rs (c.drop i)=(match rwN rs false 51 0 c[i].2 with|none=>none|some q=>(rwL rs (c.drop (i+1))).map ((c[i].1,q.1)::·)):=by
 rw[jgg h];rfl
noncomputable def jnR(rs:Xg)(R:Cls)(l:Cls):Option Cls:=(rwL rs l).bind λr=>jhZ [] (R++r)
def Cz(c:Cls):Prop:=c.length<=1048576/\ ∀l∈c,Tz l.2
noncomputable def wfP(p:Prf):Bool:=decide (p.ax.length<=30) && p.ax.all jgu && decide (p.st.length<=60)
theorem jru(c:Cls)(hc:Cz c):G 104 [cm c]=some (vb (!jgu c),[]):=by
 have e:=jho c hc.1 hc.2;rw[jIT];simp only[evz,e]
theorem juQ(l:List Cls)(hl:l.length<=1048576)(hz:∀c∈l,Cz c):∃k:Int,jpS (cls l) (.fn 104 []) (vi (l.length:Nat)) (vi 0)=some (vi k,[])/\decide (k>=0)=l.any (λc=> !jgu c):=by
 have key:=upto (P:=λi=>∃k:Int,jpS (cls l) (.fn 104 []) (vi (l.length:Nat)) (vi (i:Nat))=some (vi k,[])/\decide (k>=0)=(l.drop i).any (λc=> !jgu c)) (n:=l.length) ?_ ?_ 0 (Nat.zero_le _)
 .simpa only[Int.natCast_zero,List.drop_zero]using key
 .refine ⟨-1,?_,?_⟩
  .rw [jBa];simp only[evz]
  .rw [List.drop_length];rfl
 .intro i hi ⟨k,ih1,ih2⟩;have hlt:(i:Int)<((l.length:Nat):Int):=by omega
  have h5:=jgj hi (by show l.length<=9223372036854775807;omega)
  have e1:=jru l[i] (hz _ (jfL hi));have hp:K.pureF 104=true:=rfl;have cc:DX.run K (MM K) (.callc (.fn 104 []) [cm l[i]] false)=some (vb (!jgu l[i])):=by
   rw[jhU hp,jf4,e1];rfl
  rw[jBa,jgg hi,List.any_cons];cases hn:jgu l[i]<;>rw[hn]at cc
  .refine ⟨i,?_,?_⟩
   .simp only[evz,hlt,jfY hi,jiy,cc]
   .rw [decide_eq_true (by omega)];rfl
  .refine ⟨k,?_,?_⟩
   .simp only[evz,hlt,jfY hi,jiy,cc,h5,ih1]
   .rw [ih2];rfl
theorem jtu(l:List Cls)(hl:l.length<=1048576)(hz:∀c∈l,Cz c):G 85 [cls l]=some (vb (l.all jgu),[]):=by
 obtain⟨k,h1,h2⟩:=juQ l hl hz;have e2:G 125 [cls l,.fn 104 []]=some (vi k,[]):=by
  rw[jI5];simp only[evz,h1]
 have e3:G 103 [cls l,.fn 104 []]=some (vb (l.any (λc=> !jgu c)),[]):=by
  rw[jIS];simp only[evz,e2,h2]
 have e4:(!l.any (λc=> !jgu c))=l.all jgu:=by rw[List.all_eq_not_any_not]
 rw[g85];simp only[evz,e3,e4]
theorem jrJ(p:Prf)(ha:p.ax.length<=1048576)(hz:∀c∈p.ax,Cz c):G 57 [prm p]=some (vb (wfP p),[]):=by
 have e:=jtu p.ax ha hz;unfold wfP;rw[g57];by_cases h1:((p.ax.length:Nat):Int)<=30
 .rw [decide_eq_true (p:=p.ax.length<=30) (by omega),Bool.true_and];cases h2:p.ax.all jgu<;>rw[h2]at e
  .rw [Bool.false_and];simp only[evz,h1,e]
  .rw [Bool.true_and,show decide (p.st.length<=60)=decide (((p.st.length:Nat):Int)<=60) from decide_eq_decide.2 (by omega)];simp only[evz,h1,e]
 .rw [decide_eq_false (p:=p.ax.length<=30) (by omega),Bool.false_and,Bool.false_and];simp only[evz,h1]
theorem juX(p:Prf)(ha:p.ax.length<=1048576)(hz:∀c∈p.ax,Cz c):G 43 [prm p]=some (vb (wfP p),[]):=by
 have key:=upto (P:=λi=>jxO (vi (i:Nat)) (cls p.ax) (jhT p.st)=some (vb ((p.ax.drop i).all jgu),[])) (n:=p.ax.length) ?_ ?_ 0 (Nat.zero_le _)
 .simp only[Int.natCast_zero,List.drop_zero]at key;unfold wfP;rw[g43];by_cases h1:((p.ax.length:Nat):Int) > 30
  .rw [decide_eq_false (p:=p.ax.length<=30) (by omega),Bool.false_and,Bool.false_and];simp only[evz,h1]
  .by_cases h2:((p.st.length:Nat):Int) > 60
   .rw [decide_eq_false (p:=p.st.length<=60) (by omega),Bool.and_false];simp only[evz,h1,h2]
   .rw [decide_eq_true (p:=p.st.length<=60) (by omega),decide_eq_true (p:=p.ax.length<=30) (by omega),Bool.true_and,Bool.and_true];simp only[evz,h1,h2,key]
 .rw [jFk,List.drop_length];simp only[evz]
 .intro i hi ih;have hlt:(i:Int)<((p.ax.length:Nat):Int):=by omega
  have h5:=jgj hi (by show p.ax.length<=9223372036854775807;omega)
  have hc:=hz _ (jfL hi);have e1:=jhH p.ax[i] hc.1 hc.2;rw[jFk,jgg hi,jev];cases hn:jgu p.ax[i]<;>rw[hn]at e1
  .rw [Bool.false_and];simp only[evz,hlt,jfY hi,jiy,e1]
  .rw [Bool.true_and,<-ih];simp only[evz,hlt,jfY hi,jiy,e1,h5]
theorem jjm(a:A):eqA a a=true:=by unfold eqA;exact @decide_eq_true _ (Classical.propDecidable _) rfl
def Pok(p:Prf)(s:Stp):Prop:=∀x∈s.par,0<=x/\x<((p.st.length:Nat):Int)
theorem adS(q:Stp):jdk (.elt (stc q) 0) 3=some (.elt (stc q) 3):=by rw[jip,je8]
theorem ldC(q:Stp):QN 1 (.elt (stc q) 3)=some (cm q.cls):=rfl
theorem ixN{l:Xi}{j:Nat}(h:j<l.length){k:Int}(hk:k=(j:Int)):kL 1 (ints l) (vi k)=some (.elt (ci l[j]) 0):=by
 rw[hk];exact jfY h
theorem jh1{p:Prf}{l:Xi}(hr:∀x∈l,0<=x/\x<((p.st.length:Nat):Int))(j:Nat)(hj:j<l.length):∃q∈p.st,p.st[l[j].toNat]? = some q/\kL 4 (jhT p.st) (vi l[j])=some (.elt (stc q) 0):=by
 have h:=hr _ (jfL hj);generalize l[j]=x at h⊢;obtain⟨n,rfl⟩:=jfX h.1;have hlt:n<p.st.length:=by omega
 exact⟨p.st[n],jfL hlt,by rw[Int.toNat_natCast,jam hlt],jfY hlt⟩
theorem jnb{p:Prf}{s:Stp}(j:Nat)(hj:j<s.par.length){k:Int}(hk:k=(j:Int)){q:Stp}(hq:kL 4 (jhT p.st) (vi s.par[j])=some (.elt (stc q) 0)) :
  jkw (vi k) (cls p.ax) (jhT p.st) (vi s.rule) (ints s.par) (ints s.whr) (.sl 3 (s.cls.map ltc))=some (.top,[cls p.ax,jhT p.st,vi s.rule,ints s.par,ints s.whr,.sl 3 (s.cls.map ltc),.sl 3 (q.cls.map ltc)]):=by
 have e:=ixN hj hk;rw[jFU];simp only[evz,e,hq,ldC]
section
variable(a b c d e f g:A)
theorem juH:([a,b,c,d,e,f,g]:Xd)[0]? = some a:=rfl
theorem juI:([a,b,c,d,e,f,g]:Xd)[1]? = some b:=rfl
theorem juJ:([a,b,c,d,e,f,g]:Xd)[2]? = some c:=rfl
theorem juK:([a,b,c,d,e,f,g]:Xd)[3]? = some d:=rfl
theorem juL:([a,b,c,d,e,f,g]:Xd)[4]? = some e:=rfl
theorem juM:([a,b,c,d,e,f,g]:Xd)[5]? = some f:=rfl
theorem juN:([a,b,c,d,e,f,g]:Xd)[6]? = some g:=rfl
end
def Res(o:Xe)(r:Option Cls):Prop:=∃(c:Cls)(b:Bool),o=some (.tup [cm c,vb b],[])/\(b=true->r=some c)/\(b=false->r=none)
theorem Res.of{o:Xe}{r:Option Cls}{c:Cls}{b:Bool}(h:jiQ r=some (.tup [cm c,vb b],[]))(ho:o=some (.tup [cm c,vb b],[])):Res o r:=by
 cases r with
 |none=>exact⟨[],false,by rw[ho,<-h];rfl,(λh=>by cases h),λ_=>rfl⟩
 |some c'=>exact⟨c',true,by rw[ho,<-h];rfl,(λ_=>rfl),λh=>by cases h⟩
def jLF(p:Prf)(s:Stp):Prop:=∃r:Option Cls,Res (G 108 [prm p,stm s]) r/\Res (G 93 [prm p,stm s]) r/\ ∀c,r=some c->Cz c/\(wfP p=true->jgu c=true)
theorem jG7{p:Prf}(h:wfP p=true):∀c∈p.ax,jgu c=true:=by
 unfold wfP at h;rw[jbX,jbX]at h;exact λc hc=>jfn.1 h.1.2 c hc
theorem jjZ{c:Cls}(h:jgu c=true):Cz c:=⟨by have:=(jgG h).1.1;omega,(jgG h).1.tz⟩
theorem jrH(c d:Cls)(zc:Cz c)(zd:Cz d)(i side k:Int):G 132 [cm c,vi i,vi side,cm d,vi k,ints []]=some (.tup [cz,vb false],[]):=by
 have n1:=jho c zc.1 zc.2;have n2:=jho d zd.1 zd.2;rw[jEl];cases hc:jgu c<;>rw[hc]at n1
 .simp only[evz,n1]
 cases hd:jgu d<;>rw[hd]at n2
 .simp only[evz,n1,n2]
 have key:G 159 [cm c,vi i,vi side,cm d,vi k,ints []]=some (.tup [cz,vb false],[]):=by
  obtain⟨cc,_,_,_⟩:=jgG hc;obtain⟨cd,_,_,_⟩:=jgG hd;have lc:=cc.1;have ld:=cd.1;have p1:=jg6 c (by omega) i;have p2:=jg6 d (by omega) k;have p3:=jhz side 0 1;rw[juG];cases hi:jjK c i<;>rw[hi]at p1
  .simp only[evz,p1]
  cases hk:jjK d k<;>rw[hk]at p2
  .simp only[evz,p1,p2]
  cases hs:inB 0 1 side<;>rw[hs]at p3
  .simp only[evz,p1,p2,p3]
  obtain⟨m,rfl,hm⟩:=jiT hi;have x1:=jfY (k:=3) (f:=ltc) hm;have e3:=jhL c[m].2;cases hp:c[m].1
  .simp only[evz,p1,p2,p3,x1,hp]
  have hl:jcV (ints [])=some (vi 0):=rfl;cases he:decide (c[m].2.name=[61])<;>rw[he]at e3
  .simp only[evz,p1,p2,p3,x1,ldT,hp,e3]
  .simp only[evz,p1,p2,p3,x1,ldT,hp,e3,hl]
 simp only[evz,n1,n2,key]
def jmp:Cls->Option T
 | [l]=>if l.1=true then some l.2 else none
 |_=>none
def jh3(p:Prf):Xi->Option Xg
 | []=>some []
 |x::xs=>match p.st[x.toNat]? with
  |some q=>(match jmp q.cls with
   |some t=>(jh3 p xs).map (t::·)
   |none=>none)
  |none=>none
theorem joa{p:Prf}(hz:∀q∈p.st,Cz q.cls):∀{l:Xi}{rs:Xg},jh3 p l=some rs->rs.length=l.length/\ ∀r∈rs,Tz r
 | [],rs,h=>by cases h;exact⟨rfl,λr hr=>by cases hr⟩
 |x::xs,rs,h=>by
  unfold jh3 at h;split at h
  .rename_i q hq;split at h
   .rename_i t ht;rw[jeq]at h;obtain⟨rs',h1,rfl⟩:=h;obtain⟨i1,i2⟩:=joa hz h1;refine⟨by simp[i1],λr hr=>?_⟩;rcases ja1.1 hr with rfl|hr
    .have hm:=hz q (jec hq);unfold jmp at ht;split at ht
     .rename_i l hl;split at ht
      .cases ht;exact hm.2 l (by rw[hl];exact List.mem_cons_self ..)
      .cases ht
     .cases ht
    .exact i2 r hr
   .cases h
  .cases h
theorem jks{p:Prf}{x:Int}{xs:Xi}{q:Stp}(eq:p.st[x.toNat]? = some q)(hu:jmp q.cls=none):jh3 p (x::xs)=none:=by
 rw[jh3,eq];dsimp only;rw[hu]
theorem jph{p:Prf}{x:Int}{xs:Xi}{q:Stp}{t:T}(eq:p.st[x.toNat]? = some q)(hu:jmp q.cls=some t):jh3 p (x::xs)=(jh3 p xs).map (t::·):=by
 rw[jh3,eq];dsimp only;rw[hu]
theorem jrq(c:Cls):(¬((c.length:Nat):Int)=1/\jmp c=none)\/ ∃t:Lt,((c.length:Nat):Int)=1/\kL 3 (.sl 3 (c.map ltc)) (vi 0)=some (.elt (ltc t) 0)/\jmp c=if t.1=true then some t.2 else none:=by
 match c with
 | []=>exact Or.inl ⟨by simp,rfl⟩
 | [t]=>exact Or.inr ⟨t,rfl,rfl,rfl⟩
 |t::t'::r=>exact Or.inl ⟨by simp only[jfC];omega,rfl⟩
theorem jt4(p:Prf)(l:Xi)(hl:l.length<=1048576)(hr:∀x∈l,0<=x/\x<((p.st.length:Nat):Int)) :
  joo (ints l) (vi (l.length:Nat)) (vi 0) (cls p.ax) (jhT p.st) []=match jh3 p l with|some rs=>some (.tup [tms rs,vb true],[])|none=>some (.tup [.sl 2 [],vb false],[]):=by
 have key:=upto (P:=λi=>∀R:Xg,R.length<=i->joo (ints l) (vi (l.length:Nat)) (vi (i:Nat)) (cls p.ax) (jhT p.st) (R.map jgi)=match jh3 p (l.drop i)with|some rs=>some (.tup [tms (R++rs),vb true],[])|none=>some (.tup [.sl 2 [],vb false],[])) (n:=l.length) ?_ ?_ 0 (Nat.zero_le _) [] (jdB _)
 .simpa only[Int.natCast_zero,List.drop_zero,List.map_nil,jfw]using key
 .intro R hR;rw[jBe,List.drop_length];simp only[evz,jh3,jf4]
 .intro i hi ih R hR;have hlt:(i:Int)<((l.length:Nat):Int):=by omega
  have h5:=jgj hi (by show l.length<=9223372036854775807;omega)
  have y:=ixN (l:=l) (j:=i) hi (k:=i) rfl;obtain⟨q,mq,eq,xq⟩:=jh1 hr i hi;have hf:jbB (R.length+1) 40=true:=jvw (by omega);rw[jBe,jgg hi];rcases jrq q.cls with⟨hne,hu⟩|⟨t,he,hx,hu⟩
  .rw [jks eq hu];simp only[evz,hlt,y,xq,ldC,hne]
  .cases hb:t.1<;>rw[hb]at hu
   .have hu:jmp q.cls=none:=hu;rw[jks eq hu];simp only[evz,hlt,y,xq,ldC,he,hx,hb]
   .have hu:jmp q.cls=some t.2:=hu;rw[jph eq hu];have:=ih (R++[t.2]) (by rw[jf7];simp only[jfC,jfJ];omega);have ha:jeV (R.map jgi) [[sv t.2.name,tms t.2.args]]=(R++[t.2]).map jgi:=by rw[List.map_append,List.map_singleton,jgT];rfl
    simp only[evz,hlt,y,xq,ldC,he,hx,ldT,hb,hf,ha,h5,this];cases jh3 p (l.drop (i+1))with
    |none=>rfl
    |some rs=>simp only[jen,jet,jf0,jfw]
theorem jrh(p:Prf)(l:Xi)(hl:l.length<=1048576)(hr:∀x∈l,0<=x/\x<((p.st.length:Nat):Int))(h1:1<=l.length) :
  jju (ints l) (vi 1) (cls p.ax) (jhT p.st) [] [] []=match jh3 p (l.drop 1)with|some rs=>jju (ints l) (vi (l.length:Nat)) (cls p.ax) (jhT p.st) (rs.map jgi) [] []|none=>some (.tup [cz,vb false],[]):=by
 have key:=upto (P:=λi=>∀R:Xg,R.length<=i->jju (ints l) (vi (i:Nat)) (cls p.ax) (jhT p.st) (R.map jgi) [] []=match jh3 p (l.drop i)with|some rs=>jju (ints l) (vi (l.length:Nat)) (cls p.ax) (jhT p.st) ((R++rs).map jgi) [] []|none=>some (.tup [cz,vb false],[])) (n:=l.length) ?_ ?_ 1 h1 [] (Nat.zero_le _)
 .simpa only[Int.natCast_one,List.map_nil,jfw]using key
 .intro R hR;rw[List.drop_length];simp only[jh3,jf4]
 .intro i hi ih R hR;have hlt:(i:Int)<((l.length:Nat):Int):=by omega
  have h5:=jgj hi (by show l.length<=9223372036854775807;omega)
  have y:=ixN (l:=l) (j:=i) hi (k:=i) rfl;obtain⟨q,mq,eq,xq⟩:=jh1 hr i hi;have hf:jbB (R.length+1) 40=true:=jvw (by omega);generalize hend:jju (ints l) (vi (l.length:Nat)) (cls p.ax) (jhT p.st)=E at ih⊢;rw[jqE,jgg hi];rcases jrq q.cls with⟨hne,hu⟩|⟨t,he,hx,hu⟩
  .rw [jks eq hu];simp only[evz,hlt,y,xq,ldC,hne]
  .cases hb:t.1<;>rw[hb]at hu
   .have hu:jmp q.cls=none:=hu;rw[jks eq hu];simp only[evz,hlt,y,xq,ldC,he,hx,hb]
   .have hu:jmp q.cls=some t.2:=hu;rw[jph eq hu];have:=ih (R++[t.2]) (by rw[jf7];simp only[jfC,jfJ];omega);have ha:jeV (R.map jgi) [[sv t.2.name,tms t.2.args]]=(R++[t.2]).map jgi:=by rw[List.map_append,List.map_singleton,jgT];rfl
    simp only[evz,hlt,y,xq,ldC,he,hx,ldT,hb,hf,ha,h5,this];cases jh3 p (l.drop (i+1))with
    |none=>rfl
    |some rs=>simp only[jen,jet,jf0,jfw]
theorem jt3(c:Cls)(zc:Cz c)(rs:Xg)(hl:rs.length<=1048576)(hz:∀r∈rs,Tz r)(hm:10<rs.length):G 150 [cm c,tms rs]=some (.tup [cz,vb false],[]):=by
 have m1:=jhH c zc.1 zc.2;obtain⟨b,r1,r2,hb⟩:=jvT rs hl hz;rw[jEm];cases hc:jgu c<;>rw[hc]at m1
 .simp only[evz,m1]
 cases b
 .simp only[evz,m1,r1]
 .have:=(hb rfl).1.1;omega
structure Pz(p:Prf):Prop where
 ax:p.ax.length<=1048576
 st:p.st.length<=1048576
 axs:∀c∈p.ax,Cz c
 par:∀s∈p.st,s.par.length<=1048576
 whr:∀s∈p.st,s.whr.length<=1048576
 wI:∀s∈p.st,∀x∈s.whr,I64 x
 cls:∀s∈p.st,Cz s.cls
theorem Cz.of{c:Cls}(h:csz c<=1048576):Cz c:=⟨by unfold csz at h;omega,λl hl=>by have:=jpL hl;unfold csz at h;show tsz l.2<=1048576;omega⟩
theorem Pz.of{p:Prf}(hw:pwf p)(h:psz p<=1048576):Pz p:=by
 unfold psz at h;refine⟨by omega,by omega,λc hc=>?_,λs hs=>?_,λs hs=>?_,λs hs=>(hw.2.1 s hs).2.2.1.1,λs hs=>?_⟩
 .have:=jqn hc;exact Cz.of (by omega)
 .have:=jml hs;unfold ssz at this;omega
 .have:=jml hs;unfold ssz at this;omega
 .have:=jml hs;unfold ssz at this;exact Cz.of (by omega)
theorem juv(i:Nat)(hi:i<=1048576)(x:Int):G 107 [vi x,.elt [vi (i:Nat)] 0]=some (vb (!inB 0 ((i:Int)-1) x),[]):=by
 have c1:ck ((i:Int)-1)=some (vi ((i:Int)-1)):=jgA (by omega) (by omega);have e:=jhz x 0 ((i:Int)-1);have ld:QO (.elt [vi (i:Nat)] 0)=some (vi (i:Nat)):=rfl;rw[jIW];simp only[evz,ld,c1,e]
theorem jtA(i:Nat)(hi:i<=1048576)(l:Xi)(hl:l.length<=1048576):G 106 [ints l,.fn 107 [.elt [vi (i:Nat)] 0]]=some (vb (!l.all (inB 0 ((i:Int)-1))),[]):=by
 have key:=upto (P:=λj=>∃k:Int,jsG (ints l) (.fn 107 [.elt [vi (i:Nat)] 0]) (vi (l.length:Nat)) (vi (j:Nat))=some (vi k,[])/\decide (k>=0)=!(l.drop j).all (inB 0 ((i:Int)-1))) (n:=l.length) ?_ ?_ 0 (Nat.zero_le _)
 .obtain ⟨k,h1,h2⟩:=key;simp only[Int.natCast_zero,List.drop_zero]at h1 h2;have e2:G 128 [ints l,.fn 107 [.elt [vi (i:Nat)] 0]]=some (vi k,[]):=by
   rw[jI8];simp only[evz,h1]
  rw[jIV,<-h2];simp only[evz,e2]
 .refine ⟨-1,?_,?_⟩
  .rw [jBd];simp only[evz]
  .rw [List.drop_length];rfl
 .intro j hj ⟨k,ih1,ih2⟩;have hlt:(j:Int)<((l.length:Nat):Int):=by omega
  have h5:=jgj hj (by show l.length<=9223372036854775807;omega)
  have e1:=juv i hi l[j];have hp:K.pureF 107=true:=rfl;have cc:DX.run K (MM K) (.callc (.fn 107 [.elt [vi (i:Nat)] 0]) [vi l[j]] false)=some (vb (!inB 0 ((i:Int)-1) l[j])):=by
   rw[jhU hp,List.singleton_append,e1];rfl
  rw[jBd,jgg hj,jev];cases hn:inB 0 ((i:Int)-1) l[j]<;>rw[hn]at cc
  .refine ⟨j,?_,?_⟩
   .simp only[evz,hlt,jfY hj,jkB,cc]
   .rw [decide_eq_true (by omega)];rfl
  .refine ⟨k,?_,?_⟩
   .simp only[evz,hlt,jfY hj,jkB,cc,h5,ih1]
   .rw [ih2,Bool.true_and]
theorem jmU(p:Prf)(s:Stp)(i:Nat)(hi:i<=1048576)(hl:s.par.length<=1048576) :
  jnJ (vi (i:Nat)) (vi 0) (cls p.ax) (jhT p.st) (vi s.rule) (ints s.par) (ints s.whr) (.sl 3 (s.cls.map ltc))=if s.par.all (inB 0 ((i:Int)-1))then jnJ (vi (i:Nat)) (vi (s.par.length:Nat)) (cls p.ax) (jhT p.st) (vi s.rule) (ints s.par) (ints s.whr) (.sl 3 (s.cls.map ltc))else some (vb false,[]):=by
 generalize hend:jnJ (vi (i:Nat)) (vi (s.par.length:Nat)) (cls p.ax) (jhT p.st) (vi s.rule) (ints s.par) (ints s.whr) (.sl 3 (s.cls.map ltc))=E;have key:=upto (P:=λj=>jnJ (vi (i:Nat)) (vi (j:Nat)) (cls p.ax) (jhT p.st) (vi s.rule) (ints s.par) (ints s.whr) (.sl 3 (s.cls.map ltc))=if(s.par.drop j).all (inB 0 ((i:Int)-1))then E else some (vb false,[])) (n:=s.par.length) ?_ ?_ 0 (Nat.zero_le _)
 .simpa only[Int.natCast_zero,List.drop_zero]using key
 .rw [List.drop_length,hend];rfl
 .intro j hj ih;have c1:ck ((i:Int)-1)=some (vi ((i:Int)-1)):=jgA (by omega) (by omega);have hlt:(j:Int)<((s.par.length:Nat):Int):=by omega
  have h5:=jgj hj (by show s.par.length<=9223372036854775807;omega)
  have e1:=jhd s.par[j] 0 ((i:Int)-1);rw[jCp,jgg hj,jev];cases hn:inB 0 ((i:Int)-1) s.par[j]<;>rw[hn]at e1
  .rw [Bool.false_and];simp only[evz,hlt,jfY hj,jkB,c1,e1]
  .rw [Bool.true_and,<-ih];simp only[evz,hlt,jfY hj,jkB,c1,e1,h5]
structure Mdl where
 M:Xb->Xi->Int
 Q:Xb->Xi->Bool
 good:Int->Prop
 ok:∀n vs,good (M n vs)
def jkn(m:Mdl)(e:Xb->Int)(t:T):Bool:=if t.name=[61]/\t.args.length=2 then decide (val m.M e (ji6 t)=val m.M e (jkC t))else m.Q t.name (t.args.map (val m.M e))
def clV(m:Mdl)(e:Xb->Int)(c:Cls):Prop:=∃l∈c,jkn m e l.2=l.1
def juj(m:Mdl)(e:Xb->Int):Prop:=∀x,m.good (e x)
def trM(m:Mdl)(c:Cls):Prop:=∀e,juj m e->clV m e c
def Sd(ps:List Cls)(x:Cls):Prop:=∀m:Mdl,(∀c∈ps,trM m c)->trM m x
theorem jx0{t:T}(h:t.args.length=2):t.args=[ji6 t,jkC t]:=by
 obtain⟨n,us⟩:=t
 match us,h with
 | [a,b],_=>rfl
theorem jkJ{m:Mdl}{e e':Xb->Int}{a b:T}(hn:a.name=b.name)(hv:a.args.map (val m.M e)=b.args.map (val m.M e')):jkn m e a=jkn m e' b:=by
 have hl:a.args.length=b.args.length:=by have:=congrArg List.length hv;simpa using this
 unfold jkn;rw[hn,hl];by_cases c:b.name=[61]/\b.args.length=2
 .rw [jbZ c,jbZ c];have ha:=jx0 (t:=a) (by rw[hl];exact c.2);have hb:=jx0 c.2;rw[ha,hb]at hv;simp only[jd1,List.map_nil,jfk]at hv;rw[hv.1,hv.2.1]
 .rw [ja0 c,ja0 c,hv]
section
variable(m:Mdl)
theorem jA0(u:jgn)(e:Xb->Int){t:T}(h:Bx t):jkn m e (sub u t)=jkn m (λx=>val m.M e (jid u x)) t:=by
 have hv:=h.nv;refine jkJ (job hv) ?_;rw[jmm hv,jfs];exact List.map_congr_left λa ha=>joh u e a (h.args a ha)
theorem jjn{e:Xb->Int}(he:juj m e)(u:jgn):juj m (λx=>val m.M e (jid u x)):=λ_=>jwa m.ok he _
theorem jGg{u:jgn}{e:Xb->Int}{l:Cls}(hb:∀y∈l,Bx y.2)(h:clV m (λx=>val m.M e (jid u x)) l):clV m e (l.map λx=>(x.1,sub u x.2)):=by
 obtain⟨x,hx,hh⟩:=h;exact⟨(x.1,sub u x.2),jfx.2 ⟨x,hx,rfl⟩,by show jkn m e (sub u x.2)=x.1;rw[jA0 m u e (hb x hx)];exact hh⟩
theorem jE3{f:Xb->Xb}(hf:∀n,jgk n=true->jgk (f n)=true)(e:Xb->Int):∀t:T,okT t=true->val m.M e (jgV f t)=val m.M (λx=>e (f x)) t:=by
 refine T.ind λt ih=>?_;intro ht;rw[jkr];cases hv:jgk t.name with
 |true=>
  rw[jbZ rfl,jmG (t:=t) ht hv,jlt];show(if([]:Xg).isEmpty && upN (f t.name)then e (f t.name)else _)=_;rw[jud (hf _ hv)];rfl
 |false=>
  have hs:=jog (jq0 ht hv);rw[ja0 Bool.false_ne_true,jku (t:= .mk t.name (t.args.map (jgV f))) hs,jku (t:=t) hs];show m.M t.name ((t.args.map (jgV f)).map (val m.M e))=_;rw[jfs];exact congrArg _ (List.map_congr_left λa ha=>ih a ha (jgQ ht a ha))
theorem jAZ{f:Xb->Xb}(hf:∀n,jgk n=true->jgk (f n)=true)(e:Xb->Int){t:T}(h:Bx t):jkn m e (jgV f t)=jkn m (λx=>e (f x)) t:=by
 have hv:=h.nv;refine jkJ (jmj hv) ?_;rw[jkU hv,jfs];exact List.map_congr_left λa ha=>jE3 m hf e a (h.args a ha)
variable{m}
theorem jDq{f:Xb->Xb}(hf:∀n,jgk n=true->jgk (f n)=true){c:Cls}(hb:∀y∈c,Bx y.2)(h:trM m c):trM m (c.map λl=>(l.1,jgV f l.2)):=by
 intro e he;obtain⟨x,hx,hh⟩:=h (λx=>e (f x)) λx=>he _;exact⟨(x.1,jgV f x.2),jfx.2 ⟨x,hx,rfl⟩,by show jkn m e (jgV f x.2)=x.1;rw[jAZ m hf e (hb x hx)];exact hh⟩
theorem jyJ{l:Cls}(h:trM m l):trM m (jhA cmpL l):=λe he=>by
 obtain⟨x,hx,hh⟩:=h e he;exact⟨x,jmx.2 hx,hh⟩
theorem juu{p:UInt8}(hp:upc p=true){c:Cls}(hc:CN c):∀n,jgk n=true->jgk (jgY p (jgU c) n)=true:=λn hn=>joB hp (by have:=jio hc;omega) hn
theorem jEZ{p:UInt8}(hp:upc p=true){c:Cls}(hc:CN c)(h:trM m c):trM m (renC p c):=jyJ (jDq (juu hp hc) (λy hy=>(hc.2 y hy).1) h)
theorem jv7:∀(k:Nat){c:Cls},CN c->trM m c->trM m (normF k c)
 |0,_,_,h=>h
 |k+1,c,hc,h=>by
  rw[normF];split
  .exact h
  .exact jv7 k (hc.renC (by decide)) (jEZ (by decide) hc h)
theorem jv6{d:Cls}(hd:jgu d=true)(h:trM m d):trM m (jgp d):=jDq (juu (by decide) (jgG hd).1) (λy hy=>((jgG hd).1.2 y hy).1) h
theorem jn9{u:jgn}{l x:Cls}(hx:jhZ u l=some x)(hb:∀y∈l,Bx y.2)(hl:∀e,juj m e->clV m (λx=>val m.M e (jid u x)) l):trM m x:=by
 unfold jhZ at hx;rw[jcv]at hx;obtain⟨d,hd,hx⟩:=hx;have hv:=(jk8 hd).1;split at hx
 .cases hx;refine jv7 10 (jiz hv).1 ?_;unfold jjR at hd;split at hd
  .cases hd;exact jyJ λe he=>jGg m hb (hl e he)
  .cases hd
 .cases hx
end
def jtr(M:Xb->Xi->Int)(e:Xb->Int)(s:jgn):Prop:=∀q∈s,e q.1=val M e q.2
section
variable{M:Xb->Xi->Int}{e:Xb->Int}
theorem jC9{s:jgn}(h:jtr M e s){n:Xb}(hn:jgk n=true):val M e (jid s n)=e n:=by
 rw[jid];cases hl:look s n with
 |some r=>exact(h _ (jiw hl)).symm
 |none=>
  show val M e (.mk n [])=e n;rw[jlt];show(if([]:Xg).isEmpty && upN n then e n else _)=_;rw[jud hn];rfl
theorem jt6{s:jgn}(h:jtr M e s){t:T}(ht:okT t=true):val M e (sub s t)=val M e t:=by
 rw[joh s e t ht];exact jzW t ht λx hx=>jC9 h (jwd t hx)
theorem jDt{a b:T}(ha:okT a=true)(hb:okT b=true)(va:jgk a.name=false)(vb:jgk b.name=false)(hn:a.name=b.name)(hv:a.args.map (val M e)=b.args.map (val M e)):val M e a=val M e b:=by
 rw[jku (t:=a) (jog (jq0 ha va)),jku (t:=b) (jog (jq0 hb vb)),hn,hv]
theorem jug:∀{us bs:Xg},us.length=bs.length->(∀p∈us.zip bs,val M e p.1=val M e p.2)->us.map (val M e)=bs.map (val M e)
 | [],[],_,_=>rfl
 |a::us,b::bs,hl,h=>by
  rw[jd1,jd1,h (a,b) (by simp),jug (by simpa using hl) λp hp=>h p (by simp[hp])]
 | [],b::bs,hl,_=>by cases hl
 |a::us,[],hl,_=>by cases hl
theorem jv8:∀(k:Nat)(s:jgn)(es:Eqs){u:jgn},jjk s es->(∀p∈es,okT p.1=true/\okT p.2=true)->jgX k s es=some (some u)->jtr M e u->jtr M e s/\ ∀p∈es,val M e p.1=val M e p.2:=by
 intro k;induction k with
 |zero=>
  intro s es u h ho hu hs;cases es with
  |nil=>simp only[jgX,jb4]at hu;rw[hu];exact⟨hs,λp hp=>by cases hp⟩
  |cons p es=>simp[jgX]at hu
 |succ k ih=>
  intro s es u h ho hu hs;cases es with
  |nil=>simp only[jgX,jb4]at hu;rw[hu];exact⟨hs,λp hp=>by cases hp⟩
  |cons p es=>
   obtain⟨l,r⟩:=p;rw[jgX]at hu;cases hst:jhy s l r es with
   |none=>
    have hst:jhy s (l,r).1 (l,r).2 es=none:=hst;rw[hst]at hu;simp at hu
   |some q=>
    have hst':jhy s (l,r).1 (l,r).2 es=some q:=hst;rw[hst']at hu;obtain⟨s',es'⟩:=q;have hu:jgX k s' es'=some (some u):=hu;have hinv:=(jhp h hst).1;obtain⟨ol,or'⟩:=ho (l,r) (List.mem_cons_self ..);have ores:∀p∈es,okT p.1=true/\okT p.2=true:=λp hp=>ho p (List.mem_cons_of_mem _ hp);obtain⟨hv,hi,he⟩:=h;have hk:=jiA hv;have kl:=jkc hk l ol;have kr:=jkc hk r or';have fin:∀{es0:Eqs},jtr M e s->val M e (sub s l)=val M e (sub s r)->(∀p∈es,val M e p.1=val M e p.2)->jtr M e s/\ ∀p∈(l,r)::es,val M e p.1=val M e p.2:=by
     intro _ h1 h2 h3;refine⟨h1,λp hp=>?_⟩;rcases ja1.1 hp with rfl|hp
     .rw [jt6 h1 ol,jt6 h1 or']at h2;exact h2
     .exact h3 p hp
    unfold jhy at hst;split at hst
    .cases hst
    split at hst
    .rename_i heq;cases hst;obtain⟨h1,h2⟩:=ih s es hinv ores hu hs;exact fin (es0:=[]) h1 (by rw[jhF.1 heq]) h2
    split at hst
    .rename_i hvar;split at hst
     .cases hst
     rename_i hno;cases hst;obtain⟨h1,h2⟩:=ih _ es hinv ores hu hs;have c1:(jgq (sub s l) (sub s r)).1 ∉ jgN (jgq (sub s l) (sub s r)).2:=λh=>hno (Or.inl h);have c3:jgv [jgq (sub s l) (sub s r)]=true:=by
      cases h:jgv [jgq (sub s l) (sub s r)]with
      |true=>rfl
      |false=>exact absurd (Or.inr (Or.inl h)) hno
     obtain⟨_,_,h4⟩:=jgE c3;obtain⟨k1,_,k3⟩:=h4 _ (List.mem_singleton_self _);have hb:look s (jgq (sub s l) (sub s r)).1=none/\(∀x∈jgN (jgq (sub s l) (sub s r)).2,look s x=none)/\(e (jgq (sub s l) (sub s r)).1=val M e (jgq (sub s l) (sub s r)).2->val M e (sub s l)=val M e (sub s r)):=by
      unfold jgq;split
      .rename_i hc;have hy:jgk (sub s r).name=true:=by
        rcases hc with hc|hc
        .rcases hvar with h|h
         .rw [hc]at h;cases h
         .exact h
        .exact hc.1
       exact⟨jkf hi r (by rw[vsv hy];simp),λx hx=>jkf hi l hx,λh=>by rw[jmG kr hy];exact h.symm⟩
      .rename_i hc;have hx:jgk (sub s l).name=true:=by
        cases h:jgk (sub s l).name with
        |true=>rfl
        |false=>exact absurd (Or.inl h) hc
       exact⟨jkf hi l (by rw[vsv hx];simp),λx hx=>jkf hi r hx,λh=>by rw[jmG kl hx];exact h⟩
     generalize jgq (sub s l) (sub s r)=b at *;obtain⟨n,t⟩:=b;obtain⟨_,_,c5,_⟩:=jqo hv hi k1 hb.1 hb.2.1 c1 k3;have hb1:e n=val M e t:=h1 (n,t) ((c5 _).2 (Or.inr rfl));have hsb:jtr M e [(n,t)]:=λq hq=>by rw[jdC.1 hq];exact hb1
     have hss:jtr M e s:=λq hq=>by
      have:=h1 _ ((c5 _).2 (Or.inl ⟨q,hq,rfl⟩));have h6:val M e (sub [(n,t)] q.2)=val M e q.2:=jt6 hsb (hk q hq);rw[<-h6];exact this
     exact fin (es0:=[]) hss (hb.2.2 hb1) h2
    .rename_i hnv;split at hst
     .rename_i hnm;cases hst;have v1:jgk (sub s l).name=false:=by
       cases h:jgk (sub s l).name with
       |false=>rfl
       |true=>exact absurd (Or.inl h) hnv
      have v2:jgk (sub s r).name=false:=by
       cases h:jgk (sub s r).name with
       |false=>rfl
       |true=>exact absurd (Or.inr h) hnv
      obtain⟨h1,h2⟩:=ih s _ hinv (λp hp=>by
       rcases jeO.1 hp with hp|hp
       .have hm:=List.of_mem_zip (a:=p.1) (b:=p.2) hp;exact⟨jgQ kl _ hm.1,jgQ kr _ hm.2⟩
       .exact ores p hp) hu hs
      exact fin (es0:=[]) h1 (jDt kl kr v1 v2 hnm.1 (jug hnm.2 λp hp=>h2 p (jfv _ hp))) λp hp=>h2 p (jfZ _ hp)
     .cases hst
theorem jqR:∀{u:jgn}{q:Xb×T},(u.map Prod.fst).Nodup->q∈u->look u q.1=some q.2
 |p::u,q,hn,hq=>by
  rw[look];rcases ja1.1 hq with rfl|hq
  .rw [jbZ rfl]
  .rw [jd1,jfP]at hn;rw[ja0 (λe=>hn.1 (by rw[e];exact jfx.2 ⟨q,hq,rfl⟩))];exact jqR hn.2 hq
theorem jC8{u:jgn}(hv:jgv u=true)(hi:IdS u):jtr M (λx=>val M e (jid u x)) u:=by
 intro q hq;have hk:=jiA hv;have hl:=jqR (jmd hv) hq;show val M e (jid u q.1)=val M (λx=>val M e (jid u x)) q.2;rw[<-joh u e q.2 (hk q hq),joT q.2 (hk q hq) λx hx=>hi q hq x hx,jid,hl];rfl
theorem jrp{a b:T}(ha:Bx a)(hb:Bx b)(na:nodes a<=31)(nb:nodes b<=31){u:jgn}(hu:jiu a b=some u):a.name=b.name/\a.args.map (val M λx=>val M e (jid u x))=b.args.map (val M λx=>val M e (jid u x)):=by
 obtain⟨k,hk⟩:=jjr (ha.exx na) (hb.exx nb);rw[hu]at hk;have hinv:=jsr (ha.exx na) (hb.exx nb);obtain⟨hv,hi⟩:=jro k _ _ hinv hk;have hs:=jC8 (M:=M) (e:=e) hv hi;cases k with
 |zero=>simp[jgX]at hk
 |succ k=>
  rw[jgX]at hk;have v1:=ha.nv;have v2:=hb.nv;have i1:∀t∈a.args,sub [] t=t:=λt ht=>joT t (ha.args t ht) λx _=>rfl;have i2:∀t∈b.args,sub [] t=t:=λt ht=>joT t (hb.args t ht) λx _=>rfl;have e1:sub [] a=a:=by rw[jhK v1,List.map_congr_left i1,List.map_id',T.eta]
  have e2:sub [] b=b:=by rw[jhK v2,List.map_congr_left i2,List.map_id',T.eta]
  cases hst:jhy [] a b []with
  |none=>
   have hst:jhy [] (a,b).1 (a,b).2 []=none:=hst;rw[hst]at hk;simp at hk
  |some q=>
   have hst':jhy [] (a,b).1 (a,b).2 []=some q:=hst;rw[hst']at hk;obtain⟨s',es'⟩:=q;have hk:jgX k s' es'=some (some u):=hk;have hinv2:=(jhp hinv hst).1;unfold jhy at hst;rw[e1,e2]at hst;split at hst
   .cases hst
   split at hst
   .rename_i heq;rw[jhF.1 heq];exact⟨rfl,rfl⟩
   split at hst
   .rename_i hvar;rw[v1,v2]at hvar;rcases hvar with h|h<;>cases h
   .split at hst
    .rename_i hnm;cases hst;rw[jf4]at hk hinv2;obtain⟨_,h2⟩:=jv8 k _ _ hinv2 (λp hp=>by
      have hm:=List.of_mem_zip (a:=p.1) (b:=p.2) hp;exact⟨ha.args _ hm.1,hb.args _ hm.2⟩) hk hs
     exact⟨hnm.1,jug hnm.2 h2⟩
    .cases hst
end
theorem jjQ{α:Type}{c:List α}{m:Nat}(h:m<c.length){l:α}(hl:l∈c):l=c[m]\/l∈c.eraseIdx m:=by
 obtain⟨i,hi,rfl⟩:=List.getElem_of_mem hl;by_cases e:i=m
 .subst e;exact Or.inl rfl
 .exact Or.inr (List.mem_eraseIdx_iff_getElem.2 ⟨i,hi,e,rfl⟩)
theorem jyY{α:Type}{c:List α}{m n:Nat}(h:m<c.length)(e:m≠n):c[m]∈c.eraseIdx n:=List.mem_eraseIdx_iff_getElem.2 ⟨m,h,e,rfl⟩
theorem jkH{c:Cls}(h:CN c)(m:Nat):∀y∈c.eraseIdx m,Bx y.2:=λy hy=>(h.2 y (List.mem_of_mem_eraseIdx hy)).1
theorem jss{M:Xb->Xi->Int}{e:Xb->Int}{a b:T}(ka:okT a=true)(kb:okT b=true)(na:nodes a<=31)(nb:nodes b<=31){u:jgn}(hu:jiu a b=some u):val M (λx=>val M e (jid u x)) a=val M (λx=>val M e (jid u x)) b:=by
 have xa:Exx a:=⟨Or.inl ka,na⟩;have xb:Exx b:=⟨Or.inl kb,nb⟩;obtain⟨k,hk⟩:=jjr xa xb;rw[hu]at hk;have hinv:=jsr xa xb;obtain⟨hv,hi⟩:=jro k _ _ hinv hk;exact(jv8 k _ _ hinv (λp hp=>by rw[jdC.1 hp];exact⟨ka,kb⟩) hk (jC8 (M:=M) (e:=e) hv hi)).2 (a,b) (List.mem_singleton_self _)
theorem jxu{c d:Cls}(hc:CN c)(hd:jgu d=true){m n:Nat}(hm:m<c.length)(hn:n<(jgp d).length)(hs:¬c[m].1=(jgp d)[n].1){u:jgn}(hu:jiu c[m].2 (jgp d)[n].2=some u){x:Cls}(hx:jhZ u (c.eraseIdx m++(jgp d).eraseIdx n)=some x):Sd [c,d] x:=by
 intro M hM;have tc:=hM c (by simp);have td:=jv6 hd (hM d (by simp));have ce:=jnM hd;refine jn9 hx (λy hy=>(jeO.1 hy).elim (jkH hc m y) (jkH ce n y)) λe he=>?_;obtain⟨l,hl,h1⟩:=tc _ (jjn M he u);obtain⟨l',hl',h2⟩:=td _ (jjn M he u);rcases jjQ hm hl with h|h
 .rcases jjQ hn hl' with h'|h'
  .exfalso;have b1:=hc.2 _ (jfL hm);have b2:=ce.2 _ (jfL hn);obtain⟨e1,e2⟩:=jrp (M:=M.M) (e:=e) b1.1 b2.1 (by omega) (by omega) hu;have:=jkJ (m:=M) e1 e2;rw[h]at h1;rw[h']at h2;exact hs (by rw[<-h1,<-h2,this])
  .exact ⟨l',jfZ _ h',h2⟩
 .exact ⟨l,jfv _ h,h1⟩
theorem jzF{c:Cls}(hc:CN c){m n:Nat}(hm:m<c.length)(hn:n<c.length)(hmn:m≠n)(hs:c[m].1=c[n].1){u:jgn}(hu:jiu c[m].2 c[n].2=some u){x:Cls}(hx:jhZ u (c.eraseIdx n)=some x):Sd [c] x:=by
 intro M hM;have tc:=hM c (by simp);refine jn9 hx (jkH hc n) λe he=>?_;obtain⟨l,hl,h1⟩:=tc _ (jjn M he u);rcases jjQ hn hl with h|h
 .have b1:=hc.2 _ (jfL hm);have b2:=hc.2 _ (jfL hn);obtain⟨e1,e2⟩:=jrp (M:=M.M) (e:=e) b1.1 b2.1 (by omega) (by omega) hu;have:=jkJ (m:=M) e1 e2;rw[h]at h1;exact⟨c[m],jyY hm hmn,by rw[this,h1,hs]⟩
 .exact ⟨l,h,h1⟩
theorem jqx(M:Mdl)(e:Xb->Int){t:T}(hn:t.name=[61])(hl:t.args.length=2):jkn M e t=decide (val M.M e (ji6 t)=val M.M e (jkC t)):=by
 unfold jkn;rw[jbZ ⟨hn,hl⟩]
theorem jt7{c:Cls}(hc:CN c){m:Nat}(hm:m<c.length)(hs:c[m].1=false)(he:c[m].2.name=[61])(hl:c[m].2.args.length=2)(k0:okT (jjS c[m].2)=true)(k1:okT (jkx c[m].2)=true)(n0:nodes (jjS c[m].2)<=30)(n1:nodes (jkx c[m].2)<=30){u:jgn}(hu:jiu (jjS c[m].2) (jkx c[m].2)=some u){x:Cls}(hx:jhZ u (c.eraseIdx m)=some x):Sd [c] x:=by
 intro M hM;have tc:=hM c (by simp);refine jn9 hx (jkH hc m) λe hg=>?_;obtain⟨l,hl',h1⟩:=tc _ (jjn M hg u);rcases jjQ hm hl' with h|h
 .exfalso;have hv:=jss (M:=M.M) (e:=e) k0 k1 (by omega) (by omega) hu;rw[h,jqx M _ he hl,hs]at h1;exact absurd (decide_eq_true (show val M.M _ (ji6 c[m].2)=val M.M _ (jkC c[m].2) from hv)) (by rw[h1];decide)
 .exact ⟨l,h,h1⟩
theorem jwg{M:Xb->Xi->Int}{e:Xb->Int}{r:T} :∀(p:Xf)(t:T),okP p t->val M e r=val M e (atT p t)->val M e (jgM r p t)=val M e t/\(p≠ []->(jgM r p t).name=t.name/\(jgM r p t).args.map (val M e)=t.args.map (val M e))
 | [],t,_,h=>⟨h,λh=>absurd rfl h⟩
 |i::p,t,hk,h=>by
  obtain⟨h1,h2⟩:=hk;rw[atT]at h;obtain⟨q,_⟩:=jwg p _ h2 h;have hargs:(jgM r (i::p) t).args.map (val M e)=t.args.map (val M e):=by
   rw[jgM];show(t.args.set i (jgM r p (t.args.getD i (.mk [] [])))).map (val M e)=_;rw[List.map_set,q,jhC h1];have:(t.args.map (val M e))[i]'(by rw[List.length_map];exact h1)=val M e t.args[i]:=List.getElem_map _;rw[<-this];exact List.set_getElem_self _
  have hlen:(jgM r (i::p) t).args.isEmpty=false/\t.args.isEmpty=false:=by
   constructor
   .rw [jgM];show(t.args.set i _).isEmpty=false;cases hq:t.args with
    |nil=>rw[hq]at h1;simp at h1
    |cons a l=>cases i<;>rfl
   .cases hq:t.args with
    |nil=>rw[hq]at h1;simp at h1
    |cons a l=>rfl
  refine⟨?_,λ_=>⟨rfl,hargs⟩⟩;rw[jlt,jlt M e t,hlen.1,hlen.2,hargs];rfl
theorem jt8{c d:Cls}(hc:CN c)(hd:jgu d=true){m n:Nat}(hm:m<c.length)(hn:n<(jgp d).length)(hs:c[m].1=true)(he:c[m].2.name=[61])(hl2:c[m].2.args.length=2){l r:T}(hlr:(l=ji6 c[m].2/\r=jkC c[m].2)\/(l=jkC c[m].2/\r=ji6 c[m].2))(kl:okT l=true)(kr:okT r=true)(nl:nodes l<=30){q:Xf}(hq:q≠ [])(hk:okP q (jgp d)[n].2)(kw:okT (atT q (jgp d)[n].2)=true)(nw:nodes (atT q (jgp d)[n].2)<=31){u:jgn}(hu:jiu l (atT q (jgp d)[n].2)=some u){x:Cls}(hx:jhZ u (c.eraseIdx m++(jgp d).eraseIdx n++[((jgp d)[n].1,jgM r q (jgp d)[n].2)])=some x):Sd [c,d] x:=by
 intro M hM;have tc:=hM c (by simp);have td:=jv6 hd (hM d (by simp));have ce:=jnM hd;have b2:=ce.2 _ (jfL hn);refine jn9 hx (λy hy=>?_) λe hg=>?_
 .rcases jeO.1 hy with hy|hy
  .exact (jeO.1 hy).elim (jkH hc m y) (jkH ce n y)
  .rw [jdC.1 hy];exact jyK kr hq hk b2.1
 obtain⟨y,hy,h1⟩:=tc _ (jjn M hg u);obtain⟨z,hz,h2⟩:=td _ (jjn M hg u);rcases jjQ hm hy with h|h
 .rcases jjQ hn hz with h'|h'
  .have hv:=jss (M:=M.M) (e:=e) kl kw (by omega) nw hu;rw[h,jqx M _ he hl2,hs,jfH]at h1;have hr:val M.M (λx=>val M.M e (jid u x)) r=val M.M (λx=>val M.M e (jid u x)) (atT q (jgp d)[n].2):=by
    rcases hlr with⟨rfl,rfl⟩|⟨rfl,rfl⟩
    .rw [<-hv,h1]
    .rw [<-hv,h1]
   obtain⟨w1,w2⟩:=(jwg q _ hk hr).2 hq;refine⟨_,jfZ _ (List.mem_singleton_self _),?_⟩;show jkn M _ (jgM r q (jgp d)[n].2)=(jgp d)[n].1;rw[jkJ w1 w2,<-h',h2]
  .exact ⟨z,jfv _ (jfZ _ h'),h2⟩
 .exact ⟨y,jfv _ (jfv _ h),h1⟩
def jrL(ps:List Cls)(f g:FuncId)(args:Xd):Prop:=∃r:Option Cls,G f args=jiQ r/\G g args=jiQ r/\ ∀x,r=some x->jgu x=true/\Sd ps x
theorem jil{ps:List Cls}{f g:FuncId}{args:Xd}(h1:G f args=some (.tup [cz,vb false],[]))(h2:G g args=some (.tup [cz,vb false],[])):jrL ps f g args:=⟨none,h1,h2,λx h=>by cases h⟩
theorem jxo(c d:Cls)(hc:jgu c=true)(hd:jgu d=true)(i k:Int):∃r:Option Cls,G 157 [cm c,vi i,cm d,vi k]=jiQ r/\G 146 [cm c,vi i,cm d,vi k]=jiQ r/\ ∀x,r=some x->(jgu x=true/\Sd [c,d] x)/\ ∃(u:jgn)(m n:Nat),i=(m:Nat)/\m<c.length/\n<d.length/\jhZ u (c.eraseIdx m++(jgp d).eraseIdx n)=some x:=by
 obtain⟨cc,_,_,_⟩:=jgG hc;obtain⟨cd,_,_,_⟩:=jgG hd;have lc:=cc.1;have ld:=cd.1;have ce:=jnM hd;have le:=joA d;have a1:=jrR d hd;have a2:=joz d hd;have p1:=jg6 c (by omega) i;have p2:=jg6 d (by omega) k;have c1:ck (((c.length:Nat):Int)-1)=some (vi (((c.length:Nat):Int)-1)):=jgA (by omega) (by omega);have c2:ck ((((jgp d).length:Nat):Int)-1)=some (vi ((((jgp d).length:Nat):Int)-1)):=jgA (by omega) (by omega);have q1:=jhd i 0 (((c.length:Nat):Int)-1);have q2:=jhd k 0 ((((jgp d).length:Nat):Int)-1);have hi':inB 0 (((c.length:Nat):Int)-1) i=jjK c i:=rfl;have hk':inB 0 ((((jgp d).length:Nat):Int)-1) k=jjK d k:=by rw[le];rfl
 rw[hi']at q1;rw[hk']at q2;rw[jJq,jJj];cases hi:jjK c i<;>rw[hi]at p1 q1
 .exact ⟨none,by simp only[evz,p1];rfl,by simp only[evz,a2,c1,q1];rfl,λx h=>by cases h⟩
 cases hk:jjK d k<;>rw[hk]at p2 q2
 .exact ⟨none,by simp only[evz,p1,p2];rfl,by simp only[evz,a2,c1,q1,c2,q2];rfl,λx h=>by cases h⟩
 obtain⟨m,rfl,hm⟩:=jiT hi;obtain⟨n,rfl,hn⟩:=jiT hk;have hn2:n<(jgp d).length:=by omega
 have sg:(jgp d)[n].1=d[n].1:=jyO d n hn2 hn;have x1:=jfY (k:=3) (f:=ltc) hm;have x2:=jfY (k:=3) (f:=ltc) hn;have x3:=jfY (k:=3) (f:=ltc) hn2;have hb1:=cc.2 _ (jfL hm);have hb2:=ce.2 _ (jfL hn2);have u1:=jof c[m].2 (jgp d)[n].2 (hb1.1.exx (by omega)) (hb2.1.exx (by omega));have u2:=jlj c[m].2 (jgp d)[n].2 (hb1.1.exx (by omega)) (hb2.1.exx (by omega));have hval:∀s,jiu c[m].2 (jgp d)[n].2=some s->jgv s=true:=λs hs=>jjL (hb1.1.exx (by omega)) (hb2.1.exx (by omega)) hs;by_cases hs:c[m].1=d[n].1
 .have hs2:c[m].1=(jgp d)[n].1:=by rw[sg];exact hs
  exact⟨none,by simp only[evz,p1,p2,x1,x2,adL,ldB,hs];rfl,by simp only[evz,a2,c1,q1,c2,q2,x1,x3,adL,ldB,hs2];rfl,λx h=>by cases h⟩
 have hs1:=decide_eq_false hs;have hs2:decide (c[m].1=(jgp d)[n].1)=false:=by rw[sg];exact hs1
 obtain⟨u,b,hu,hut,huf⟩:=jmy (jiu c[m].2 (jgp d)[n].2);rw[hu]at u1 u2;cases b
 .exact ⟨none,by simp only[evz,p1,p2,x1,x2,x3,adL,ldB,ldT,hs1,a1,u1];rfl,by simp only[evz,a2,c1,q1,c2,q2,x1,x3,adL,ldB,ldT,hs2,u2];rfl,λx h=>by cases h⟩
 have hv:=hval u (hut rfl);have hln:=LN.append cc ce m n;have w1:=jji c (by omega) m hm;have w2:=jji (jgp d) (by omega) n hn2;have w3:=jiZ c (by omega) m hm;have w4:=jiZ (jgp d) (by omega) n hn2;have cat:=jrX [c.eraseIdx m,(jgp d).eraseIdx n] (by simp) (λx hx=>by
  simp only[ja1,List.not_mem_nil,or_false]at hx;rcases hx with rfl|rfl
  .have:=(LN.erase cc m).1;omega
  .have:=(LN.erase ce n).1;omega)
 have hfl: [c.eraseIdx m,(jgp d).eraseIdx n].flatten=c.eraseIdx m++(jgp d).eraseIdx n:=by simp
 rw[hfl]at cat;have cat:jon [[.sl 3 ((c.eraseIdx m).map ltc)],[.sl 3 (((jgp d).eraseIdx n).map ltc)]]=some (.top,[.sl 3 ((c.eraseIdx m++(jgp d).eraseIdx n).map ltc)]):=cat;have e1:=jjo u hv _ hln;have e2:=ji5 u hv _ hln;have hf:jbB ((c.eraseIdx m).length+((jgp d).eraseIdx n).length) 48=true:=jkR (by have:=(LN.erase cc m).1;have:=(LN.erase ce n).1;omega);have ha:jeV ((c.eraseIdx m).map ltc) (((jgp d).eraseIdx n).map ltc)=(c.eraseIdx m++(jgp d).eraseIdx n).map ltc:=by rw[List.map_append];rfl
 refine⟨jhZ u (c.eraseIdx m++(jgp d).eraseIdx n),?_,?_,λx hx=>⟨⟨jjp hx,jxu cc hd hm hn2 (by rw[sg];exact hs) (hut rfl) hx⟩,u,m,n,rfl,hm,hn,hx⟩⟩
 .obtain ⟨c',b',hr⟩:=jg2 (jhZ u (c.eraseIdx m++(jgp d).eraseIdx n));rw[hr]at e1⊢;generalize c.eraseIdx m++(jgp d).eraseIdx n=L at *;simp only[evz,p1,p2,x1,x2,x3,adL,ldB,ldT,hs1,a1,u1,w1,w2,cat,hRl,e1]
 .obtain ⟨c',b',hr⟩:=jg2 (jhZ u (c.eraseIdx m++(jgp d).eraseIdx n));rw[hr]at e2⊢;generalize c.eraseIdx m++(jgp d).eraseIdx n=L at *;simp only[evz,a2,c1,q1,c2,q2,x1,x3,adL,ldB,ldT,hs2,u2,w3,w4,hRl,hf,ha,e2]
theorem jzD(c d:Cls)(hc:jgu c=true)(hd:jgu d=true)(i k:Int):∃r:Option Cls,G 157 [cm c,vi i,cm d,vi k]=jiQ r/\G 146 [cm c,vi i,cm d,vi k]=jiQ r/\ ∀x,r=some x->jgu x=true/\Sd [c,d] x:=by
 obtain⟨r,h1,h2,h3⟩:=jxo c d hc hd i k;exact⟨r,h1,h2,λx hx=>(h3 x hx).1⟩
theorem jrF(c d:Cls)(lc:c.length<=1048576)(zc:∀l∈c,Tz l.2)(ld:d.length<=1048576)(zd:∀l∈d,Tz l.2)(i k:Int):jrL [c,d] 130 116 [cm c,vi i,cm d,vi k]:=by
 have n1:=jho c lc zc;have n2:=jho d ld zd;have m1:=jhH c lc zc;have m2:=jhH d ld zd;cases hc:jgu c<;>rw[hc]at n1 m1
 .exact jil (by rw[jGr];simp only[evz,n1]) (by rw[jGp];simp only[evz,m1])
 cases hd:jgu d<;>rw[hd]at n2 m2
 .exact jil (by rw[jGr];simp only[evz,n1,n2]) (by rw[jGp];simp only[evz,m1,m2])
 obtain⟨r,e1,e2,e3⟩:=jzD c d hc hd i k;obtain⟨c',b',hr⟩:=jg2 r;refine⟨r,?_,?_,e3⟩
 .rw [hr]at e1⊢;rw[jGr];simp only[evz,n1,n2,e1]
 .rw [hr]at e2⊢;rw[jGp];simp only[evz,m1,m2,e2]
theorem jAW(c:Cls)(hc:jgu c=true)(i k:Int)(ib: -9223372036854775808<=i/\i<=9223372036854775807):∃r:Option Cls,G 158 [cm c,vi i,vi k]=jiQ r/\G 147 [cm c,vi i,vi k]=jiQ r/\ ∀x,r=some x->jgu x=true/\Sd [c] x:=by
 obtain⟨cc,_,_,_⟩:=jgG hc;have lc:=cc.1;have p1:=jg6 c (by omega) i;have p2:=jg6 c (by omega) k;have c1:ck (((c.length:Nat):Int)-1)=some (vi (((c.length:Nat):Int)-1)):=jgA (by omega) (by omega);have q1:=jhd i 0 (((c.length:Nat):Int)-1);have q2:=jhd k (i+1) (((c.length:Nat):Int)-1);have hi':inB 0 (((c.length:Nat):Int)-1) i=jjK c i:=rfl;rw[hi']at q1;rw[jJr,jJk];cases hi:jjK c i<;>rw[hi]at p1 q1
 .exact ⟨none,by simp only[evz,p1];rfl,by simp only[evz,c1,q1];rfl,λx h=>by cases h⟩
 obtain⟨m,rfl,hm⟩:=jiT hi;have cm1:ck ((m:Int)+1)=some (vi ((m:Int)+1)):=jgA (by omega) (by omega);have hk':inB ((m:Int)+1) (((c.length:Nat):Int)-1) k=(jjK c k && !decide (k<=(m:Int))):=by
  unfold jjK inB;by_cases h1:k<=(m:Int)
  .rw [decide_eq_false (show ¬(m:Int)+1<=k by omega),decide_eq_true h1,Bool.false_and,Bool.not_true,Bool.and_false]
  .rw [decide_eq_true (show(m:Int)+1<=k by omega),decide_eq_false h1,decide_eq_true (show(0:Int)<=k by omega),Bool.not_false,Bool.and_true]
 rw[hk']at q2;cases hk:jjK c k<;>rw[hk]at p2 q2
 .rw [Bool.false_and]at q2;exact⟨none,by simp only[evz,p1,p2];rfl,by simp only[evz,c1,q1,cm1,q2];rfl,λx h=>by cases h⟩
 rw[Bool.true_and]at q2;by_cases hik:k<=(m:Int)
 .rw [decide_eq_true hik]at q2;exact⟨none,by simp only[evz,p1,p2,hik];rfl,by simp only[evz,c1,q1,cm1,q2];rfl,λx h=>by cases h⟩
 have hik':=decide_eq_false hik;rw[hik']at q2;obtain⟨n,rfl,hn⟩:=jiT hk;have x1:=jfY (k:=3) (f:=ltc) hm;have x2:=jfY (k:=3) (f:=ltc) hn;have hb1:=cc.2 _ (jfL hm);have hb2:=cc.2 _ (jfL hn);have u1:=jof c[m].2 c[n].2 (hb1.1.exx (by omega)) (hb2.1.exx (by omega));have u2:=jlj c[m].2 c[n].2 (hb1.1.exx (by omega)) (hb2.1.exx (by omega));by_cases hs:c[m].1=c[n].1;rotate_left
 .have hs1:=decide_eq_false hs;exact⟨none,by simp only[evz,p1,p2,hik',x1,x2,adL,ldB,hs1];rfl,by simp only[evz,c1,q1,cm1,q2,x1,x2,adL,ldB,hs1];rfl,λx h=>by cases h⟩
 have hs1:=decide_eq_true hs;obtain⟨u,b,hu,hut,huf⟩:=jmy (jiu c[m].2 c[n].2);rw[hu]at u1 u2;cases b
 .exact ⟨none,by simp only[evz,p1,p2,hik',x1,x2,adL,ldB,ldT,hs1,u1];rfl,by simp only[evz,c1,q1,cm1,q2,x1,x2,adL,ldB,ldT,hs1,u2];rfl,λx h=>by cases h⟩
 have hv:=jjL (hb1.1.exx (by omega)) (hb2.1.exx (by omega)) (hut rfl);have hln:=LN.erase cc n;have w1:=jji c (by omega) n hn;have w3:=jiZ c (by omega) n hn;have e1:=jjo u hv _ hln;have e2:=ji5 u hv _ hln;refine⟨jhZ u (c.eraseIdx n),?_,?_,λx hx=>⟨jjp hx,jzF cc hm hn (by omega) hs (hut rfl) hx⟩⟩
 .obtain ⟨c',b',hr⟩:=jg2 (jhZ u (c.eraseIdx n));rw[hr]at e1⊢;simp only[evz,p1,p2,hik',x1,x2,adL,ldB,ldT,hs1,u1,w1,e1]
 .obtain ⟨c',b',hr⟩:=jg2 (jhZ u (c.eraseIdx n));rw[hr]at e2⊢;simp only[evz,c1,q1,cm1,q2,x1,x2,adL,ldB,ldT,hs1,u2,w3,hRl,e2]
theorem jtE(c:Cls)(lc:c.length<=1048576)(zc:∀l∈c,Tz l.2)(i k:Int)(ib: -9223372036854775808<=i/\i<=9223372036854775807):jrL [c] 131 117 [cm c,vi i,vi k]:=by
 have n1:=jho c lc zc;have m1:=jhH c lc zc;cases hc:jgu c<;>rw[hc]at n1 m1
 .exact jil (by rw[jHI];simp only[evz,n1]) (by rw[jHF];simp only[evz,m1])
 obtain⟨r,e1,e2,e3⟩:=jAW c hc i k ib;obtain⟨c',b',hr⟩:=jg2 r;refine⟨r,?_,?_,e3⟩
 .rw [hr]at e1⊢;rw[jHI];simp only[evz,n1,e1]
 .rw [hr]at e2⊢;rw[jHF];simp only[evz,m1,e2]
theorem jvL(c:Cls)(hc:jgu c=true)(i:Int):∃r:Option Cls,G 160 [cm c,vi i]=jiQ r/\G 149 [cm c,vi i]=jiQ r/\ ∀x,r=some x->jgu x=true/\Sd [c] x:=by
 obtain⟨cc,_,_,_⟩:=jgG hc;have lc:=cc.1;have p1:=jg6 c (by omega) i;have c1:ck (((c.length:Nat):Int)-1)=some (vi (((c.length:Nat):Int)-1)):=jgA (by omega) (by omega);have q1:=jhd i 0 (((c.length:Nat):Int)-1);have hi':inB 0 (((c.length:Nat):Int)-1) i=jjK c i:=rfl;rw[hi']at q1;rw[jJs,jJl];cases hi:jjK c i<;>rw[hi]at p1 q1
 .exact ⟨none,by simp only[evz,p1];rfl,by simp only[evz,c1,q1];rfl,λx h=>by cases h⟩
 obtain⟨m,rfl,hm⟩:=jiT hi;have x1:=jfY (k:=3) (f:=ltc) hm;have hb1:=cc.2 _ (jfL hm);have e3:=jhL c[m].2;have e4:=jl1 c[m] false;generalize hl:c[m]=l at *;have e4:G 176 [ltm l,vb false]=_:=e4;cases hs:l.1<;>rw[hs]at e4
 rotate_left
 .exact ⟨none,by simp only[evz,p1,x1,adL,ldB,hs];rfl,by simp only[evz,c1,q1,x1,jgS,hs,e4,Bool.false_and];rfl,λx h=>by cases h⟩
 by_cases he:l.2.name=[61];rotate_left
 .rw [decide_eq_false he]at e3 e4;exact⟨none,by simp only[evz,p1,x1,adL,ldB,ldT,hs,e3];rfl,by simp only[evz,c1,q1,x1,jgS,hs,e4,Bool.and_false];rfl,λx h=>by cases h⟩
 rw[decide_eq_true he]at e3 e4;obtain⟨l2,k0,k1,n0,n1,i0,i1⟩:=juD hb1.1 he hb1.2;have u1:=jof (jjS l.2) (jkx l.2) ⟨Or.inl k0,by omega⟩ ⟨Or.inl k1,by omega⟩;have u2:=jlj (jjS l.2) (jkx l.2) ⟨Or.inl k0,by omega⟩ ⟨Or.inl k1,by omega⟩;obtain⟨u,b,hu,hut,huf⟩:=jmy (jiu (jjS l.2) (jkx l.2));rw[hu]at u1 u2;cases b
 .exact ⟨none,by simp only[evz,p1,x1,adL,jkF,ldA,ldB,ldT,hs,e3,i0,i1,jga,u1];rfl,by simp only[evz,c1,q1,x1,jgS,hs,e4,Bool.and_self,adL,jkF,ldA,i0,i1,jga,u2];rfl,λx h=>by cases h⟩
 have hv:=jjL ⟨Or.inl k0,by omega⟩ ⟨Or.inl k1,by omega⟩ (hut rfl);have hln:=LN.erase cc m;have w1:=jji c (by omega) m hm;have w3:=jiZ c (by omega) m hm;have e1:=jjo u hv _ hln;have e2:=ji5 u hv _ hln;refine⟨jhZ u (c.eraseIdx m),?_,?_,λx hx=>⟨jjp hx,jt7 cc hm (by rw[hl];exact hs) (by rw[hl];exact he) (by rw[hl];exact l2) (by rw[hl];exact k0) (by rw[hl];exact k1) (by rw[hl];exact n0) (by rw[hl];exact n1) (by rw[hl];exact hut rfl) hx⟩⟩
 .obtain ⟨c',b',hr⟩:=jg2 (jhZ u (c.eraseIdx m));rw[hr]at e1⊢;simp only[evz,p1,x1,adL,jkF,ldA,ldB,ldT,hs,e3,i0,i1,jga,u1,w1,e1]
 .obtain ⟨c',b',hr⟩:=jg2 (jhZ u (c.eraseIdx m));rw[hr]at e2⊢;simp only[evz,c1,q1,x1,jgS,hs,e4,Bool.and_self,adL,jkF,ldA,i0,i1,jga,u2,w3,hRl,e2]
theorem jpp(c:Cls)(lc:c.length<=1048576)(zc:∀l∈c,Tz l.2)(i:Int):jrL [c] 133 119 [cm c,vi i]:=by
 have n1:=jho c lc zc;have m1:=jhH c lc zc;cases hc:jgu c<;>rw[hc]at n1 m1
 .exact jil (by rw[jHJ];simp only[evz,n1]) (by rw[jHG];simp only[evz,m1])
 obtain⟨r,e1,e2,e3⟩:=jvL c hc i;obtain⟨c',b',hr⟩:=jg2 r;refine⟨r,?_,?_,e3⟩
 .rw [hr]at e1⊢;rw[jHJ];simp only[evz,n1,e1]
 .rw [hr]at e2⊢;rw[jHG];simp only[evz,m1,e2]
theorem jlx(c d:Cls)(cc:CN c)(hd:jgu d=true)(m n:Nat)(hm:m<c.length)(hn:n<d.length)(hs:c[m].1=true)(he:c[m].2.name=[61])(hl2:c[m].2.args.length=2)(l r:T)(hlr:(l=ji6 c[m].2/\r=jkC c[m].2)\/(l=jkC c[m].2/\r=ji6 c[m].2))(side:Int)(hside:inB 0 1 side=true)(sl:kL 2 (tms c[m].2.args) (vi side)=some (.elt (jgi l) 0))(sr:kL 2 (tms c[m].2.args) (vi (1-side))=some (.elt (jgi r) 0))(kl:okT l=true)(kr:okT r=true)(nl:nodes l<=30)(nr:nodes r<=30)(p:Xi)(hpl:p.length<=1048576)(hp:p≠ []) :
  ∃o:Option Cls,G 159 [cm c,vi (m:Nat),vi side,cm d,vi (n:Nat),ints p]=jiQ o/\G 148 [cm c,vi (m:Nat),vi side,cm d,vi (n:Nat),ints p]=jiQ o/\ ∀x,o=some x->jgu x=true/\Sd [c,d] x:=by
 obtain⟨cd,_,_,_⟩:=jgG hd;have lc:=cc.1;have ld:=cd.1;have ce:=jnM hd;have le:=joA d;have a1:=jrR d hd;have a2:=joz d hd;have p1:=jg6 c (by omega) (m:Nat);have p2:=jg6 d (by omega) (n:Nat);have hi:jjK c (m:Nat)=true:=by unfold jjK;rw[jtH];exact decide_eq_true ⟨by omega,by omega⟩
 have hk:jjK d (n:Nat)=true:=by unfold jjK;rw[jtH];exact decide_eq_true ⟨by omega,by omega⟩
 have c1:ck (((c.length:Nat):Int)-1)=some (vi (((c.length:Nat):Int)-1)):=jgA (by omega) (by omega);have c2:ck ((((jgp d).length:Nat):Int)-1)=some (vi ((((jgp d).length:Nat):Int)-1)):=jgA (by omega) (by omega);have q1:=jhd (m:Nat) 0 (((c.length:Nat):Int)-1);have q2:=jhd (n:Nat) 0 ((((jgp d).length:Nat):Int)-1);have q3:=jhd side 0 1;have p3:=jhz side 0 1;have hi':inB 0 (((c.length:Nat):Int)-1) (m:Nat)=true:=hi;have hk':inB 0 ((((jgp d).length:Nat):Int)-1) (n:Nat)=true:=by rw[le];exact hk
 rw[hi']at q1;rw[hk']at q2;rw[hside]at q3 p3;rw[hi]at p1;rw[hk]at p2;have hn2:n<(jgp d).length:=by omega
 have x1:=jfY (k:=3) (f:=ltc) hm;have x3:=jfY (k:=3) (f:=ltc) hn2;have hb2:=ce.2 _ (jfL hn2);have e3:=jhL c[m].2;have e4:=jl1 c[m] true;rw[hs,he,decide_eq_true rfl,decide_eq_true rfl,Bool.and_self]at e4;rw[decide_eq_true he]at e3;have e4:G 176 [.agg [vb c[m].1,sv c[m].2.name,tms c[m].2.args],vb true]=some (vb true,[]):=e4;have hp0:¬((p.length:Nat):Int)=0:=by
  cases p with
  |nil=>exact(hp rfl).elim
  |cons _ _=>simp only[jfC];omega
 have cs:ck (1-side)=some (vi (1-side)):=by
  unfold inB at hside;rw[jbX,jfH,jfH]at hside;exact jgA (by omega) (by omega)
 have sdx:∀{q:Xf},q≠ []->okP q (jgp d)[n].2->okT (atT q (jgp d)[n].2)=true->nodes (atT q (jgp d)[n].2)<=31-> ∀{u:jgn},jiu l (atT q (jgp d)[n].2)=some u-> ∀{x:Cls},jhZ u (c.eraseIdx m++(jgp d).eraseIdx n++[((jgp d)[n].1,jgM r q (jgp d)[n].2)])=some x->Sd [c,d] x:=λ{q} hq hk kw nw {u} hu {x} hx=>jt8 cc hd hm hn2 hs he hl2 hlr kl kr nl hq hk kw nw hu hx;generalize hL:c[m]=L at *;generalize hE:(jgp d)[n]=E at *;have tE:=hb2.1.tz (by omega);have t1:=jFP E.2 p tE hpl;have t2:=jFQ E.2 p tE hpl;rw[juG,jwM];cases hat:atI p E.2 with
 |none=>
  rw[hat]at t1 t2;have t1:G 196 [tm E.2,ints p]=some (.tup [.agg [sv [],.sl 2 []],vb false],[]):=t1;have t2:G 177 [tm E.2,ints p]=some (.tup [.agg [sv [],.sl 2 []],vb false],[]):=t2;refine⟨none,?_,?_,λx h=>by cases h⟩
  .simp only[evz,p1,p2,p3,x1,x3,adL,jkF,ldA,ldB,ldT,hs,e3,hp0,sl,sr,cs,jga,a1,t1];rfl
  .simp only[evz,a2,c1,q1,c2,q2,q3,x1,x3,jgS,e4,hp0,adL,jkF,ldA,ldB,ldT,sl,sr,cs,jga,t2];rfl
 |some w=>
  rw[hat]at t1 t2;have t1:G 196 [tm E.2,ints p]=some (.tup [tm w,vb true],[]):=t1;have t2:G 177 [tm E.2,ints p]=some (.tup [tm w,vb true],[]):=t2;obtain⟨q,hpe,hq,hw⟩:=jAp hat;have hqne:q≠ []:=λh=>hp (by rw[hpe,h];rfl);have hql:q.length<=2000000:=by rw[hpe,List.length_map]at hpl;omega
  obtain⟨kw,nw⟩:=jCB hqne hq hb2.1.args;rw[<-hw]at kw nw;obtain⟨tzw,exw⟩:=jnq kw (by omega);obtain⟨tzl,exl⟩:=jnq kl nl;obtain⟨tzr,exr⟩:=jnq kr nr;have v1:=jh8 w (Or.inl kw);have v2:=jg9 w.name ((jgK w).1 tzw.wf).1;cases hv:jgk w.name<;>rw[hv]at v1 v2
  rotate_left
  .refine ⟨none,?_,?_,λx h=>by cases h⟩
   .simp only[evz,p1,p2,p3,x1,x3,adL,jkF,ldA,ldB,ldT,hs,e3,hp0,sl,sr,cs,jga,a1,t1,v1];rfl
   .simp only[evz,a2,c1,q1,c2,q2,q3,x1,x3,jgS,e4,hp0,adL,jkF,ldA,ldB,ldT,sl,sr,cs,jga,t2,v2];rfl
  have u1:=jof l w exl exw;have u2:=jlj l w exl exw;obtain⟨u,b,hu,hut,huf⟩:=jmy (jiu l w);rw[hu]at u1 u2;cases b
  .refine ⟨none,?_,?_,λx h=>by cases h⟩
   .simp only[evz,p1,p2,p3,x1,x3,adL,jkF,ldA,ldB,ldT,hs,e3,hp0,sl,sr,cs,jga,a1,t1,v1,u1];rfl
   .simp only[evz,a2,c1,q1,c2,q2,q3,x1,x3,jgS,e4,hp0,adL,jkF,ldA,ldB,ldT,sl,sr,cs,jga,t2,v2,u2];rfl
  have hval:=jjL exl exw (hut rfl);have b1:=jik u hval l (Or.inl kl) (by omega);have b2:=jik u hval r (Or.inl kr) (by omega);have b3:=jjg u (jhs hval).sz l tzl;have b4:=jjg u (jhs hval).sz r tzr;have tsl:=AxT.sub_tz hval (Or.inl kl) (by omega);have tsr:=AxT.sub_tz hval (Or.inl kr) (by omega);have b5:=jjf (sub u l) tsl.wf tsl;have b6:=jjf (sub u r) tsr.wf tsr;rw[jmJ hval kl]at b5;rw[jmJ hval kr]at b6;cases s1:jgr (sub u l)<;>rw[s1]at b1 b5
  .have b1:G 198 [sb u,tm l]=some (.tup [.agg [sv [],.sl 2 []],vb false],[]):=b1;obtain⟨z,hz⟩:∃z:T×Bool,G 198 [sb u,tm r]=some (.tup [tm z.1,vb z.2],[]):=by
    cases h:jgr (sub u r)<;>rw[h]at b2
    .exact ⟨(.mk [] [],false),b2⟩
    .exact ⟨(sub u r,true),b2⟩
   refine⟨none,?_,?_,λx h=>by cases h⟩
   .simp only[evz,p1,p2,p3,x1,x3,adL,jkF,ldA,ldB,ldT,hs,e3,hp0,sl,sr,cs,jga,a1,t1,v1,u1,b1,hz];rfl
   .simp only[evz,a2,c1,q1,c2,q2,q3,x1,x3,jgS,e4,hp0,adL,jkF,ldA,ldB,ldT,sl,sr,cs,jga,t2,v2,u2,b3,b4,b5];rfl
  have b1:G 198 [sb u,tm l]=some (.tup [tm (sub u l),vb true],[]):=b1;cases s2:jgr (sub u r)<;>rw[s2]at b2 b6
  .have b2:G 198 [sb u,tm r]=some (.tup [.agg [sv [],.sl 2 []],vb false],[]):=b2;refine⟨none,?_,?_,λx h=>by cases h⟩
   .simp only[evz,p1,p2,p3,x1,x3,adL,jkF,ldA,ldB,ldT,hs,e3,hp0,sl,sr,cs,jga,a1,t1,v1,u1,b1,b2];rfl
   .simp only[evz,a2,c1,q1,c2,q2,q3,x1,x3,jgS,e4,hp0,adL,jkF,ldA,ldB,ldT,sl,sr,cs,jga,t2,v2,u2,b3,b4,b5,b6];rfl
  have b2:G 198 [sb u,tm r]=some (.tup [tm (sub u r),vb true],[]):=b2;obtain⟨o,o1,o2,_⟩:=jvs (sub u l) (sub u r) tsl.wf tsr.wf tsl tsr (by rw[jmJ hval kl];exact s1) (by rw[jmJ hval kr];exact s2);by_cases h1:o=1
  .refine ⟨none,?_,?_,λx h=>by cases h⟩
   .simp only[evz,p1,p2,p3,x1,x3,adL,jkF,ldA,ldB,ldT,hs,e3,hp0,sl,sr,cs,jga,a1,t1,v1,u1,b1,b2,o2,h1];rfl
   .simp only[evz,a2,c1,q1,c2,q2,q3,x1,x3,jgS,e4,hp0,adL,jkF,ldA,ldB,ldT,sl,sr,cs,jga,t2,v2,u2,b3,b4,b5,b6,o1,h1];rfl
  by_cases h3:o=3
  .refine ⟨none,?_,?_,λx h=>by cases h⟩
   .have h13:¬(3:Int)=1:=by decide
    simp only[evz,p1,p2,p3,x1,x3,adL,jkF,ldA,ldB,ldT,hs,e3,hp0,sl,sr,cs,jga,a1,t1,v1,u1,b1,b2,o2,h3,h13];rfl
   .have h13:¬(3:Int)=1:=by decide
    simp only[evz,a2,c1,q1,c2,q2,q3,x1,x3,jgS,e4,hp0,adL,jkF,ldA,ldB,ldT,sl,sr,cs,jga,t2,v2,u2,b3,b4,b5,b6,o1,h3,h13];rfl
  have hint:=jA4 q;have rp1:=jpg r tzr q E.2 tE hq hql;have rp2:=jue r tzr q E.2 tE hq hql;rw[<-hint,<-hpe]at rp1 rp2;have hbw:=jyK kr hqne hq hb2.1;have hnw:=jrr r q E.2 hq;have hlnA:=LN.append cc ce m n;have hlen8:(c.eraseIdx m).length<=8/\((jgp d).eraseIdx n).length<=8:=⟨by have:=List.length_eraseIdx_le c m;omega,by have:=List.length_eraseIdx_le (jgp d) n;have:=ce.1;omega⟩;have hln:LN (c.eraseIdx m++(jgp d).eraseIdx n++[(E.1,jgM r q E.2)]):=⟨by
   rw[jf7,jf7];simp only[jfC,jfJ];omega,λx hx=>by
   rcases jeO.1 hx with hx|hx
   .exact hlnA.2 x hx
   .rw [jdC.1 hx];exact⟨hbw,by show nodes (jgM r q E.2)<=100;omega⟩⟩
  have w1:=jji c (by omega) m hm;have w2:=jji (jgp d) (by omega) n hn2;have w3:=jiZ c (by omega) m hm;have w4:=jiZ (jgp d) (by omega) n hn2;have cat:=jrX [c.eraseIdx m,(jgp d).eraseIdx n,[(E.1,jgM r q E.2)]] (by simp) (λx hx=>by
   simp only[ja1,List.not_mem_nil,or_false]at hx;rcases hx with rfl|rfl|rfl
   .omega
   .omega
   .simp)
  have hfl: [c.eraseIdx m,(jgp d).eraseIdx n,[(E.1,jgM r q E.2)]].flatten=c.eraseIdx m++(jgp d).eraseIdx n++[(E.1,jgM r q E.2)]:=by simp
  rw[hfl]at cat;have cat:jon [[.sl 3 ((c.eraseIdx m).map ltc)],[.sl 3 (((jgp d).eraseIdx n).map ltc)],[.sl 3 [[vb E.1,sv (jgM r q E.2).name,tms (jgM r q E.2).args]]]]=some (.top,[.sl 3 ((c.eraseIdx m++(jgp d).eraseIdx n++[(E.1,jgM r q E.2)]).map ltc)]):=cat;have g1:=jjo u hval _ hln;have g2:=ji5 u hval _ hln;have hf:jbB ((c.eraseIdx m).length+((jgp d).eraseIdx n).length) 48=true:=jkR (by omega);have ha:jeV ((c.eraseIdx m).map ltc) (((jgp d).eraseIdx n).map ltc)=(c.eraseIdx m++(jgp d).eraseIdx n).map ltc:=by rw[List.map_append];rfl
  have hf2:jbB ((c.eraseIdx m++(jgp d).eraseIdx n).length+1) 48=true:=jkR (by rw[jf7];omega)
  have ha2:jeV ((c.eraseIdx m++(jgp d).eraseIdx n).map ltc) [[vb E.1,sv (jgM r q E.2).name,tms (jgM r q E.2).args]]=(c.eraseIdx m++(jgp d).eraseIdx n++[(E.1,jgM r q E.2)]).map ltc:=by rw[List.map_append (l₁:=c.eraseIdx m++(jgp d).eraseIdx n)];rfl
  refine⟨jhZ u (c.eraseIdx m++(jgp d).eraseIdx n++[(E.1,jgM r q E.2)]),?_,?_,λx hx=>⟨jjp hx,sdx hqne hq (by rw[<-hw];exact kw) (by rw[<-hw];omega) (by rw[<-hw];exact hut rfl) hx⟩⟩
  .obtain ⟨c',b',hr⟩:=jg2 (jhZ u (c.eraseIdx m++(jgp d).eraseIdx n++[(E.1,jgM r q E.2)]));rw[hr]at g1⊢;generalize c.eraseIdx m++(jgp d).eraseIdx n++[(E.1,jgM r q E.2)]=Z at *;simp only[evz,p1,p2,p3,x1,x3,adL,jkF,ldA,ldB,ldT,hs,e3,hp0,sl,sr,cs,jga,a1,t1,v1,u1,b1,b2,o2,h1,h3,rp1];generalize hB:Jt _ _ _=B;have hB':B=some (ltm (E.1,jgM r q E.2)):=by rw[<-hB];kernel_rfl
   rw[hB'];simp only[evz,w1,w2,cat,hRl,g1]
  .obtain ⟨c',b',hr⟩:=jg2 (jhZ u (c.eraseIdx m++(jgp d).eraseIdx n++[(E.1,jgM r q E.2)]));rw[hr]at g2⊢;generalize c.eraseIdx m++(jgp d).eraseIdx n++[(E.1,jgM r q E.2)]=Z at *;simp only[evz,a2,c1,q1,c2,q2,q3,x1,x3,jgS,e4,hp0,adL,jkF,ldA,ldB,ldT,sl,sr,cs,jga,t2,v2,u2,b3,b4,b5,b6,o1,h1,h3,w3,w4,hRl,hf,ha,rp2];generalize hB:Jt _ _ _=B;have hB':B=some (ltm (E.1,jgM r q E.2)):=by rw[<-hB];kernel_rfl
   rw[hB'];simp only[evz,hf2,ha2,g2]
theorem jv0(c d:Cls)(hc:jgu c=true)(hd:jgu d=true)(i side k:Int)(p:Xi)(hpl:p.length<=1048576):∃o:Option Cls,G 159 [cm c,vi i,vi side,cm d,vi k,ints p]=jiQ o/\G 148 [cm c,vi i,vi side,cm d,vi k,ints p]=jiQ o/\ ∀x,o=some x->jgu x=true/\Sd [c,d] x:=by
 obtain⟨cc,_,_,_⟩:=jgG hc;obtain⟨cd,_,_,_⟩:=jgG hd;have lc:=cc.1;have ld:=cd.1;have le:=joA d;have a2:=joz d hd;have p1:=jg6 c (by omega) i;have p2:=jg6 d (by omega) k;have c1:ck (((c.length:Nat):Int)-1)=some (vi (((c.length:Nat):Int)-1)):=jgA (by omega) (by omega);have c2:ck ((((jgp d).length:Nat):Int)-1)=some (vi ((((jgp d).length:Nat):Int)-1)):=jgA (by omega) (by omega);have q1:=jhd i 0 (((c.length:Nat):Int)-1);have q2:=jhd k 0 ((((jgp d).length:Nat):Int)-1);have q3:=jhd side 0 1;have p3:=jhz side 0 1;have hi':inB 0 (((c.length:Nat):Int)-1) i=jjK c i:=rfl;have hk':inB 0 ((((jgp d).length:Nat):Int)-1) k=jjK d k:=by rw[le];rfl
 rw[hi']at q1;rw[hk']at q2;cases hi:jjK c i<;>rw[hi]at p1 q1
 .exact ⟨none,by rw[juG];simp only[evz,p1];rfl,by rw[jwM];simp only[evz,a2,c1,q1];rfl,λx h=>by cases h⟩
 cases hk:jjK d k<;>rw[hk]at p2 q2
 .exact ⟨none,by rw[juG];simp only[evz,p1,p2];rfl,by rw[jwM];simp only[evz,a2,c1,q1,c2,q2];rfl,λx h=>by cases h⟩
 cases hs:inB 0 1 side<;>rw[hs]at p3 q3
 .exact ⟨none,by rw[juG];simp only[evz,p1,p2,p3];rfl,by rw[jwM];simp only[evz,a2,c1,q1,c2,q2,q3];rfl,λx h=>by cases h⟩
 obtain⟨m,rfl,hm⟩:=jiT hi;obtain⟨n,rfl,hn⟩:=jiT hk;have x1:=jfY (k:=3) (f:=ltc) hm;have hb1:=cc.2 _ (jfL hm);have e3:=jhL c[m].2;have e4:=jl1 c[m] true;have e4:G 176 [.agg [vb c[m].1,sv c[m].2.name,tms c[m].2.args],vb true]=_:=e4;by_cases hp:c[m].1=true;rotate_left
 .have hp0:c[m].1=false:=by cases h:c[m].1 with|false=>rfl|true=>exact(hp h).elim
  rw[decide_eq_false hp,Bool.false_and]at e4;refine⟨none,?_,?_,λx h=>by cases h⟩
  .rw [juG];simp only[evz,p1,p2,p3,x1,adL,ldB,hp0];rfl
  .rw [jwM];simp only[evz,a2,c1,q1,c2,q2,q3,x1,jgS,e4];rfl
 rw[decide_eq_true hp,Bool.true_and]at e4;by_cases he:c[m].2.name=[61];rotate_left
 .rw [decide_eq_false he]at e3 e4;refine⟨none,?_,?_,λx h=>by cases h⟩
  .rw [juG];simp only[evz,p1,p2,p3,x1,adL,ldB,ldT,hp,e3];rfl
  .rw [jwM];simp only[evz,a2,c1,q1,c2,q2,q3,x1,jgS,e4];rfl
 by_cases hne:p=[]
 .have e3':=e3;rw[decide_eq_true he]at e3' e4;subst hne;have hl:jcV (ints [])=some (vi 0):=rfl;refine⟨none,?_,?_,λx h=>by cases h⟩
  .rw [juG];simp only[evz,p1,p2,p3,x1,adL,ldB,ldT,hp,e3',hl];rfl
  .rw [jwM];simp only[evz,a2,c1,q1,c2,q2,q3,x1,jgS,e4,hl];rfl
 obtain⟨l2,k0,k1,n0,n1,i0,i1⟩:=juD hb1.1 he hb1.2;have hside:side=0\/side=1:=by
  unfold inB at hs;rw[jbX,jfH,jfH]at hs;omega
 rcases hside with rfl|rfl
 .exact jlx c d cc hd m n hm hn hp he l2 (jjS c[m].2) (jkx c[m].2) (Or.inl ⟨rfl,rfl⟩) 0 hs i0 i1 k0 k1 n0 n1 p hpl hne
 .exact jlx c d cc hd m n hm hn hp he l2 (jkx c[m].2) (jjS c[m].2) (Or.inr ⟨rfl,rfl⟩) 1 hs i1 i0 k1 k0 n1 n0 p hpl hne
theorem jpr(c d:Cls)(lc:c.length<=1048576)(zc:∀l∈c,Tz l.2)(ld:d.length<=1048576)(zd:∀l∈d,Tz l.2)(i side k:Int)(p:Xi)(hpl:p.length<=1048576):jrL [c,d] 132 118 [cm c,vi i,vi side,cm d,vi k,ints p]:=by
 have n1:=jho c lc zc;have n2:=jho d ld zd;have m1:=jhH c lc zc;have m2:=jhH d ld zd;cases hc:jgu c<;>rw[hc]at n1 m1
 .exact jil (by rw[jEl];simp only[evz,n1]) (by rw[jGq];simp only[evz,m1])
 cases hd:jgu d<;>rw[hd]at n2 m2
 .exact jil (by rw[jEl];simp only[evz,n1,n2]) (by rw[jGq];simp only[evz,m1,m2])
 obtain⟨r,e1,e2,e3⟩:=jv0 c d hc hd i side k p hpl;obtain⟨c',b',hr⟩:=jg2 r;refine⟨r,?_,?_,e3⟩
 .rw [hr]at e1⊢;rw[jEl];simp only[evz,n1,n2,e1]
 .rw [hr]at e2⊢;rw[jGq];simp only[evz,m1,m2,e2]
theorem jC5{rs:Xg}(hr:RS rs):∀{c r:Cls},(∀y∈c,Bx y.2/\nodes y.2<=30)->rwL rs c=some r-> ∀y∈r,Bx y.2
 | [],r,_,h=>by cases h;exact λy hy=>by cases hy
 |x::c,r,hb,h=>by
  rw[rwL]at h;split at h
  .cases h
  .rename_i q hq;obtain⟨r',h1,rfl⟩:=jeq.1 h;have hx:=hb x (List.mem_cons_self ..);intro y hy;rcases ja1.1 hy with rfl|hy
   .exact (jmA hr 51 0 (hx.1.exB hx.2) hq).1
   .exact jC5 hr (λz hz=>hb z (List.mem_cons_of_mem _ hz)) h1 y hy
theorem jC6{m:Mdl}{e:Xb->Int}(he:juj m e){rs:Xg}(hr:jk6 rs)(hh:juo m.M m.good rs):∀{c r:Cls},(∀y∈c,Bx y.2)->rwL rs c=some r->clV m e c->clV m e r
 | [],r,_,h,hc=>by cases h;exact hc
 |x::c,r,hb,h,⟨l,hl,hv⟩=>by
  rw[rwL]at h;split at h
  .cases h
  .rename_i q hq;obtain⟨r',h1,rfl⟩:=jeq.1 h;rcases ja1.1 hl with rfl|hl
   .obtain ⟨g1,g2,_⟩:=jC7 (M:=m.M) (good:=m.good) m.ok he hr hh 51 0 l.2 (hb l (List.mem_cons_self ..)).args hq;exact⟨(l.1,q.1),List.mem_cons_self ..,by show jkn m e q.1=l.1;rw[jkJ g1 g2];exact hv⟩
   .obtain ⟨l',hl',hv'⟩:=jC6 he hr hh (λz hz=>hb z (List.mem_cons_of_mem _ hz)) h1 ⟨l,hl,hv⟩;exact⟨l',List.mem_cons_of_mem _ hl',hv'⟩
theorem jxv{c:Cls}(hc:CN c){rs:Xg}(hr:RS rs)(hn:∀t∈rs,t.name=[61]){x:Cls}(hx:jnR rs [] c=some x):Sd (c::rs.map λt=>[(true,t)]) x:=by
 intro m hm;unfold jnR at hx;rw[jcv]at hx;obtain⟨r,h1,h2⟩:=hx;rw[jfw]at h2;have tc:=hm c (List.mem_cons_self ..);have hh:juo m.M m.good rs:=λt ht e he=>by
  obtain⟨l,hl,hv⟩:=hm [(true,t)] (List.mem_cons_of_mem _ (jfx.2 ⟨t,ht,rfl⟩)) e he;rw[jdC.1 hl,jqx m e (hn t ht) (hr.2 t ht).1]at hv;exact of_decide_eq_true hv
 refine jn9 h2 (jC5 hr hc.2 h1) λe he=>?_;exact jC6 (jjn m he []) hr.ok hh (λy hy=>(hc.2 y hy).1) h1 (tc _ (jjn m he []))
theorem jxr(c:Cls)(hc:jgu c=true)(rs:Xg)(hr:RS rs)(hnm:∀t∈rs,t.name=[61]):∃r:Option Cls,jpT (tms rs) (.sl 3 (c.map ltc)) (vi (c.length:Nat)) (vi 0) [] []=jiQ r/\G 182 [cm c,tms rs]=jiQ r/\ ∀x,r=some x->jgu x=true/\Sd (c::rs.map λt=>[(true,t)]) x:=by
 obtain⟨cc,_,_,_⟩:=jgG hc;have lc:=cc.1;have zb:sb [] = .agg [.sl 3 []]:=rfl;have ld:∀l:Lt,QO (.elt (ltc l) 0)=some (vb l.1):=λl=>rfl;have kI:=upto (P:=λi=>∀R:Cls,R.length<=i->(∀x∈R,Bx x.2/\nodes x.2<=100)->jpT (tms rs) (.sl 3 (c.map ltc)) (vi (c.length:Nat)) (vi (i:Nat)) (R.map ltc) []=jiQ (jnR rs R (c.drop i))) (n:=c.length) ?_ ?_ 0 (Nat.zero_le _) [] (Nat.zero_le _) (λx h=>by cases h);rotate_left
 .intro R hR hx;have e:=jjo [] joW R ⟨by omega,hx⟩;have hend:jnR rs R (c.drop c.length)=jhZ [] R:=by
   rw[List.drop_length];show jhZ [] (R++[])=_;rw[jf4]
  rw[hend];obtain⟨c',b',hr'⟩:=jg2 (jhZ [] R);rw[hr']at e⊢;have e:G 163 [.agg [.sl 3 []],.sl 3 (R.map ltc)]=_:=e;rw[jBf];simp only[evz,e]
 .intro i hi ih R hR hx;have hlt:(i:Int)<((c.length:Nat):Int):=by omega
  have hck:ck ((i:Int)+1)=some (vi ((i+1:Nat):Int)):=jgA (by omega) (by omega);have hb:=cc.2 _ (jfL hi);have e1:=jC2 rs hr c[i].2 (hb.1.exB hb.2);have hf:jbB (R.length+1) 48=true:=jkR (by omega);rw[jBf];unfold jnR;rw[jvU hi];cases hq:rwN rs false 51 0 c[i].2 with
  |none=>
   rw[hq]at e1;have e1:G 162 [tm c[i].2,tms rs,vb false]=some (.tup [.agg [sv [],.sl 2 []],vi 0,vb false],[]):=e1;simp only[evz,hlt,jfY hi,jgS,e1];rfl
  |some q=>
   rw[hq]at e1;have e1:G 162 [tm c[i].2,tms rs,vb false]=some (.tup [tm q.1,vi (q.2:Nat),vb true],[]):=e1;obtain⟨bq,nq⟩:=jmA hr 51 0 (hb.1.exB hb.2) hq;have:=ih (R++[(c[i].1,q.1)]) (by rw[jf7];simp only[jfC,jfJ];omega) (λx h=>by
    rcases jeO.1 h with h|h
    .exact hx x h
    .rw [jdC.1 h];exact⟨bq,by show nodes q.1<=100;omega⟩)
   have ha:jeV (R.map ltc) [[vb c[i].1,sv q.1.name,tms q.1.args]]=(R++[(c[i].1,q.1)]).map ltc:=by rw[List.map_append];rfl
   have hend:((rwL rs (c.drop (i+1))).map ((c[i].1,q.1)::·)).bind (λr=>jhZ [] (R++r))=jnR rs (R++[(c[i].1,q.1)]) (c.drop (i+1)):=by
    unfold jnR;cases rwL rs (c.drop (i+1))with
    |none=>rfl
    |some r=>show jhZ [] (R++(c[i].1,q.1)::r)=jhZ [] (R++[(c[i].1,q.1)]++r);rw[jet];rfl
   show _=jiQ (((rwL rs (c.drop (i+1))).map ((c[i].1,q.1)::·)).bind (λr=>jhZ [] (R++r)));rw[hend,<-this];simp only[evz,hlt,jfY hi,jgS,e1,hf,ha,hck]
 have kS:=upto (P:=λi=>∀R:Cls,R.length<=i->(∀x∈R,Bx x.2/\nodes x.2<=100)->jsR (tms rs) (vi (i:Nat)) (.sl 3 (c.map ltc)) (R.map ltc) []=jiQ (jnR rs R (c.drop i))) (n:=c.length) ?_ ?_ 0 (Nat.zero_le _) [] (Nat.zero_le _) (λx h=>by cases h);rotate_left
 .intro R hR hx;have e:=ji5 [] joW R ⟨by omega,hx⟩;have hend:jnR rs R (c.drop c.length)=jhZ [] R:=by
   rw[List.drop_length];show jhZ [] (R++[])=_;rw[jf4]
  rw[hend];obtain⟨c',b',hr'⟩:=jg2 (jhZ [] R);rw[hr']at e⊢;have e:G 174 [.agg [.sl 3 []],.sl 3 (R.map ltc)]=_:=e;rw[jBx];simp only[evz,e]
 .intro i hi ih R hR hx;have hlt:(i:Int)<((c.length:Nat):Int):=by omega
  have hck:ck ((i:Int)+1)=some (vi ((i+1:Nat):Int)):=jgA (by omega) (by omega);have hb:=cc.2 _ (jfL hi);have e1:=jC3 rs hr c[i].2 (hb.1.exB hb.2);have hf:jbB (R.length+1) 48=true:=jkR (by omega);rw[jBx];unfold jnR;rw[jvU hi];cases hq:rwN rs false 51 0 c[i].2 with
  |none=>
   rw[hq]at e1;have e1:G 219 [tm c[i].2,tms rs,vb false]=some (.tup [.agg [sv [],.sl 2 []],vi 0,vb false],[]):=e1;simp only[evz,hlt,jfY hi,adL,ldT,e1];rfl
  |some q=>
   rw[hq]at e1;have e1:G 219 [tm c[i].2,tms rs,vb false]=some (.tup [tm q.1,vi (q.2:Nat),vb true],[]):=e1;obtain⟨bq,nq⟩:=jmA hr 51 0 (hb.1.exB hb.2) hq;have:=ih (R++[(c[i].1,q.1)]) (by rw[jf7];simp only[jfC,jfJ];omega) (λx h=>by
    rcases jeO.1 h with h|h
    .exact hx x h
    .rw [jdC.1 h];exact⟨bq,by show nodes q.1<=100;omega⟩)
   have ha:jeV (R.map ltc) [[vb c[i].1,sv q.1.name,tms q.1.args]]=(R++[(c[i].1,q.1)]).map ltc:=by rw[List.map_append];rfl
   have hend:((rwL rs (c.drop (i+1))).map ((c[i].1,q.1)::·)).bind (λr=>jhZ [] (R++r))=jnR rs (R++[(c[i].1,q.1)]) (c.drop (i+1)):=by
    unfold jnR;cases rwL rs (c.drop (i+1))with
    |none=>rfl
    |some r=>show jhZ [] (R++(c[i].1,q.1)::r)=jhZ [] (R++[(c[i].1,q.1)]++r);rw[jet];rfl
   show _=jiQ (((rwL rs (c.drop (i+1))).map ((c[i].1,q.1)::·)).bind (λr=>jhZ [] (R++r)));rw[hend,<-this];simp only[evz,hlt,jfY hi,adL,ldB,ldT,e1,hf,ha,hck]
 simp only[Int.natCast_zero,List.map_nil,List.drop_zero]at kI kS;refine⟨jnR rs [] c,kI,?_,λx h=>?_⟩
 .rw [jJK];simp only[evz,kS]
 .refine ⟨?_,jxv cc hr hnm h⟩;unfold jnR at h;rw[jcv]at h;obtain⟨r,_,h⟩:=h;exact jjp h
theorem jrg(c:Cls)(lc:c.length<=1048576)(zc:∀l∈c,Tz l.2)(rs:Xg)(hl:rs.length<=1048576)(hz:∀r∈rs,Tz r):jrL (c::rs.map λt=>[(true,t)]) 135 150 [cm c,tms rs]:=by
 have n1:=jho c lc zc;have m1:=jhH c lc zc;cases hc:jgu c<;>rw[hc]at n1 m1
 .exact jil (by rw[jGs];simp only[evz,n1]) (by rw[jEm];simp only[evz,m1])
 obtain⟨b,r1,r2,hb⟩:=jvT rs hl hz;cases b
 .exact jil (by rw[jGs];simp only[evz,n1,r2]) (by rw[jEm];simp only[evz,m1,r1])
 obtain⟨r,e1,e2,e3⟩:=jxr c hc rs (hb rfl).1 (λt ht=>((hb rfl).2 t ht).1);obtain⟨c',b',hr⟩:=jg2 r;refine⟨r,?_,?_,e3⟩
 .rw [hr]at e1⊢;rw[jGs];simp only[evz,n1,r2,e1]
 .rw [hr]at e2⊢;rw[jEm];simp only[evz,m1,r1,e2]
end Go.Proofs.YthlhadhipnokfaaGreatDoor
