/- Pe -/
import Derived.Test.YtkkcepmpbackoaaGreatDoorPd
import Derived.Test.YtkkcepmpbackoaaGreatDoorPb
namespace Go.Proofs.YtkkcepmpbackoaaGreatDoor
open Go Go.RowKit Go.Proofs.YtkkcepmpbackoaaGreatDoor.Abs
set_option linter.unusedSimpArgs false
set_option linter.unusedVariables false
set_option maxHeartbeats 1000000
abbrev ec(p:T×T):Xd:=[sv p.1.name,jS p.1.args,sv p.2.name,jS p.2.args]
theorem Yx{W:yH}{i:Nat}{p:T×T}(h:W[i]? = some p):y5 (W.map ec) i 0 2=some (tm p.1)/\y5 (W.map ec) i 2 2=some (tm p.2):=by
 unfold y5;rw[List.getElem?_map,h];exact⟨rfl,rfl⟩
theorem y8{W rest:yH}{p:T×T}{off:Nat}(h:W.drop off=p::rest):W[off]? = some p/\W.drop (off+1)=rest/\W.length=off+rest.length+1:=by
 have h1:=congrArg (λl=>l[0]?) h;simp only[List.getElem?_drop,Nat.add_zero,List.getElem?_cons_zero]at h1;have h2:=congrArg (List.drop 1) h;rw[List.drop_drop]at h2;have h3:=congrArg List.length h;rw[List.length_drop,List.length_cons]at h3;exact⟨h1,h2,by omega⟩
theorem jbq{us vs:Xg}{i:Nat}(h1:i<us.length)(h2:i<vs.length):j4 (((us.zip vs).take i).map ec) [[sv us[i].name,jS us[i].args,sv vs[i].name,jS vs[i].args]]=((us.zip vs).take (i+1)).map ec:=by
 have hl:i<(us.zip vs).length:=by rw[List.length_zip];omega
 rw[List.take_add_one,List.getElem?_eq_getElem hl,List.map_append,List.getElem_zip];rfl
theorem YK{W:yH}(off:Nat):yi (W.map ec) off (W.length-off)=(W.drop off).map ec:=by
 rw[jdg,<-List.map_drop,List.take_of_length_le (by rw[List.length_map,List.length_drop];omega)]
theorem Qb{s:ju}{l r:T}{rest:yH}(h1:jH (sub s l)=true)(h2:jH (sub s r)=true)(h3:dq (sub s l) (sub s r)=true):yl s l r rest=some (s,rest):=by
 unfold yl;rw[if_neg (by rw[h1,h2];simp),if_pos h3]
theorem Y9{s:ju}{l r:T}{rest:yH}(h1:jH (sub s l)=true)(h2:jH (sub s r)=true)(h3:dq (sub s l) (sub s r)=false)(h4:jr (sub s l).name=true\/jr (sub s r).name=true):yl s l r rest=if(!decide ((jv (sub s l) (sub s r)).1∈ke (jv (sub s l) (sub s r)).2) && jB [jv (sub s l) (sub s r)]) && jB (kC s [jv (sub s l) (sub s r)])then some (kC s [jv (sub s l) (sub s r)],rest)else none:=by
 unfold yl;rw[if_neg (by rw[h1,h2];simp),if_neg (by rw[h3];simp),if_pos h4];generalize jv (sub s l) (sub s r)=p;by_cases c1:p.1∈ke p.2
 .rw [if_pos (Or.inl c1),decide_eq_true c1];rfl
 .rw [decide_eq_false c1];cases c2:jB [p]
  .rw [if_pos (Or.inr (Or.inl rfl))];rfl
  .cases c3:jB (kC s [p])
   .rw [if_pos (Or.inr (Or.inr rfl))];rfl
   .rw [if_neg (by simp[c1])];rfl
theorem Qa{s:ju}{l r:T}{rest:yH}(h1:jH (sub s l)=true)(h2:jH (sub s r)=true)(h3:dq (sub s l) (sub s r)=false)(h4:jr (sub s l).name=false)(h5:jr (sub s r).name=false):yl s l r rest=if(sub s l).name=(sub s r).name/\(sub s l).args.length=(sub s r).args.length then some (s,(sub s l).args.zip (sub s r).args++rest)else none:=by
 unfold yl;rw[if_neg (by rw[h1,h2];simp),if_neg (by rw[h3];simp),if_neg (by rw[h4,h5];simp)]
theorem jV{k:Nat}{s:ju}{l r:T}{rest:yH}{res:Option ju}(hst:yl s l r rest=none)(h:kH (k+1) s ((l,r)::rest)=some res):res=none:=by
 rw[kH,hst]at h;exact(Option.some.inj h).symm
theorem zl{k:Nat}{s:ju}{l r:T}{rest:yH}{res:Option ju}{q:ju×yH}(hst:yl s l r rest=some q)(h:kH (k+1) s ((l,r)::rest)=some res):kH k q.1 q.2=some res:=by
 rw[kH,hst]at h;exact h
theorem ZP{s:ju}{l r:T}{rest:yH}(h:Jt s ((l,r)::rest)):K0 l/\K0 r/\nodes l<=31/\nodes r<=31:=by
 obtain⟨h1,h2⟩:=h.2.2 (l,r) (by simp);exact⟨h1.1,h2.1,h1.2,h2.2⟩
theorem jwj(s:ju)(W:yH)(off:Nat)(hW:W.length<=1000)(x y:T)(hl:x.args.length=y.args.length)(h4:x.args.length<=4) :
  jmx (nA off) (nA (W.length-off)) (jS x.args) (vi (x.args.length:Nat)) (vi 0) (JY s) (sv y.name) (jS y.args) (W.map ec) [] []=jfD (JY s) ((x.args.zip y.args++W.drop off).map ec) []:=by
 have h1:kE (nA off)=off:=rfl;have h2:kE (nA (W.length-off))=W.length-off:=rfl;have hend:jO (((x.args.zip y.args).map ec).length+((W.drop off).map ec).length) 80=true:=by
  rw[List.length_map,List.length_map,List.length_zip,List.length_drop];exact jcZ (by omega)
 have hzl:((x.args.zip y.args).map ec).length=x.args.length:=by rw[List.length_map,List.length_zip];omega
 have happ:j4 ((x.args.zip y.args).map ec) ((W.drop off).map ec)=(x.args.zip y.args++W.drop off).map ec:=by rw[List.map_append];rfl
 have step:∀i,(hi:i<x.args.length)->(hi2:i<y.args.length)->j4 (((x.args.zip y.args).take i).map ec) [[sv x.args[i].name,jS x.args[i].args,sv y.args[i].name,jS y.args[i].args]]=((x.args.zip y.args).take (i+1)).map ec:=λi hi hi2=>jbq hi hi2;have key:=upto (P:=λi=>jpB (nA off) (nA (W.length-off)) (jS x.args) (vi (x.args.length:Nat)) (vi (i:Nat)) (JY s) (sv y.name) (jS y.args) (W.map ec) (((x.args.zip y.args).take i).map ec) []=jfD (JY s) ((x.args.zip y.args++W.drop off).map ec) []) (n:=x.args.length) ?_ ?_
 .have hend2:(x.args.zip y.args).take x.args.length=x.args.zip y.args:=List.take_of_length_le (by rw[List.length_zip];omega)
  rw[jyb];by_cases h0:0<x.args.length
  .have hi:=h0;have hi2:0<y.args.length:=by omega
   have hlt:(0:Int)<((x.args.length:Nat):Int):=by omega
   have ix:=jb (k:=2) (f:=jm) hi;have ix2:=jb (k:=2) (f:=jm) hi2;have ta:=step 0 hi hi2;simp only[List.take_zero,List.map_nil,Int.natCast_zero,Nat.zero_add]at ta ix ix2;have hf:jO 1 80=true:=jcZ (by omega);have hck:ck (0+1)=some (vi ((1:Nat):Int)):=jZ (n:=0+1) (by omega) (by omega);have key:=key 1 (by omega);rw[<-key];simp only[jg,hlt,ix,ix2,ji,hf,ta,hck,h1,h2]
  .have hlt:¬(0:Int)<((x.args.length:Nat):Int):=by omega
   have he:x.args=[]:=List.eq_nil_of_length_eq_zero (by omega);have hz:x.args.zip y.args=[]:=by rw[he];rfl
   rw[hz]at hend happ⊢;have hend:jO ((W.drop off).map ec).length 80=true:=by simpa using hend
   have happ:j4 [] ((W.drop off).map ec)=(W.drop off).map ec:=rfl;simp only[jg,hlt,h1,h2,YK,List.nil_append];rw[List.length_map]at hend;simp only[jg,hend,happ]
 .have hend2:(x.args.zip y.args).take x.args.length=x.args.zip y.args:=List.take_of_length_le (by rw[List.length_zip];omega)
  rw[hend2,ju7];have hlt:¬((x.args.length:Nat):Int)<((x.args.length:Nat):Int):=by omega
  rw[hzl,List.length_map]at hend;simp only[jg,hlt,h1,h2,YK,happ];rw[List.length_zip,Nat.min_eq_left (by omega)];simp only[jg,hend]
 .intro i hi ih;have hi2:i<y.args.length:=by omega
  have hlt:((i:Nat):Int)<((x.args.length:Nat):Int):=by omega
  have ta:=step i hi hi2;have li:(((x.args.zip y.args).take i).map ec).length=i:=take_len (by rw[List.length_zip];omega);have hf:jO (i+1) 80=true:=jcZ (by omega);have hck:ck ((i:Int)+1)=some (vi ((i+1:Nat):Int)):=jZ (by omega) (by omega);generalize ((x.args.zip y.args).take i).map ec=R at *;rw[ju7,<-ih];simp only[jg,hlt,jb hi,jb hi2,ji,li,hf,ta,hck,h1,h2]
theorem jwi(W:yH)(off:Nat)(hW:W.length<=1000)(x y:T)(hl:x.args.length=y.args.length)(h4:x.args.length<=4) :
  jmw (nA off) (nA (W.length-off)) (jS x.args) (vi (x.args.length:Nat)) (vi 0) (sv y.name) (jS y.args) (W.map ec) [] [] []=jdB ((x.args.zip y.args++W.drop off).map ec) [] []:=by
 have h1:kE (nA off)=off:=rfl;have h2:kE (nA (W.length-off))=W.length-off:=rfl;have hend:jO (((x.args.zip y.args).map ec).length+((W.drop off).map ec).length) 80=true:=by
  rw[List.length_map,List.length_map,List.length_zip,List.length_drop];exact jcZ (by omega)
 have hzl:((x.args.zip y.args).map ec).length=x.args.length:=by rw[List.length_map,List.length_zip];omega
 have happ:j4 ((x.args.zip y.args).map ec) ((W.drop off).map ec)=(x.args.zip y.args++W.drop off).map ec:=by rw[List.map_append];rfl
 have step:∀i,(hi:i<x.args.length)->(hi2:i<y.args.length)->j4 (((x.args.zip y.args).take i).map ec) [[sv x.args[i].name,jS x.args[i].args,sv y.args[i].name,jS y.args[i].args]]=((x.args.zip y.args).take (i+1)).map ec:=λi hi hi2=>jbq hi hi2;have key:=upto (P:=λi=>jpA (nA off) (nA (W.length-off)) (jS x.args) (vi (x.args.length:Nat)) (vi (i:Nat)) (sv y.name) (jS y.args) (W.map ec) (((x.args.zip y.args).take i).map ec) [] []=jdB ((x.args.zip y.args++W.drop off).map ec) [] []) (n:=x.args.length) ?_ ?_
 .have hend2:(x.args.zip y.args).take x.args.length=x.args.zip y.args:=List.take_of_length_le (by rw[List.length_zip];omega)
  rw[jya];by_cases h0:0<x.args.length
  .have hi:=h0;have hi2:0<y.args.length:=by omega
   have hlt:(0:Int)<((x.args.length:Nat):Int):=by omega
   have ix:=jb (k:=2) (f:=jm) hi;have ix2:=jb (k:=2) (f:=jm) hi2;have ta:=step 0 hi hi2;simp only[List.take_zero,List.map_nil,Int.natCast_zero,Nat.zero_add]at ta ix ix2;have hf:jO 1 80=true:=jcZ (by omega);have hck:ck (0+1)=some (vi ((1:Nat):Int)):=jZ (n:=0+1) (by omega) (by omega);have key:=key 1 (by omega);rw[<-key];simp only[jg,hlt,ix,ix2,ji,hf,ta,hck,h1,h2]
  .have hlt:¬(0:Int)<((x.args.length:Nat):Int):=by omega
   have he:x.args=[]:=List.eq_nil_of_length_eq_zero (by omega);have hz:x.args.zip y.args=[]:=by rw[he];rfl
   rw[hz]at hend happ⊢;have hend:jO ((W.drop off).map ec).length 80=true:=by simpa using hend
   have happ:j4 [] ((W.drop off).map ec)=(W.drop off).map ec:=rfl;simp only[jg,hlt,h1,h2,YK,List.nil_append];rw[List.length_map]at hend;simp only[jg,hend,happ]
 .have hend2:(x.args.zip y.args).take x.args.length=x.args.zip y.args:=List.take_of_length_le (by rw[List.length_zip];omega)
  rw[hend2,ju6];have hlt:¬((x.args.length:Nat):Int)<((x.args.length:Nat):Int):=by omega
  rw[hzl,List.length_map]at hend;simp only[jg,hlt,h1,h2,YK,happ];rw[List.length_zip,Nat.min_eq_left (by omega)];simp only[jg,hend]
 .intro i hi ih;have hi2:i<y.args.length:=by omega
  have hlt:((i:Nat):Int)<((x.args.length:Nat):Int):=by omega
  have ta:=step i hi hi2;have li:(((x.args.zip y.args).take i).map ec).length=i:=take_len (by rw[List.length_zip];omega);have hf:jO (i+1) 80=true:=jcZ (by omega);have hck:ck ((i:Int)+1)=some (vi ((i+1:Nat):Int)):=jZ (by omega) (by omega);generalize ((x.args.zip y.args).take i).map ec=R at *;rw[ju6,<-ih];simp only[jg,hlt,jb hi,jb hi2,ji,li,hf,ta,hck,h1,h2]
def US(s:ju)(es:yH)(o:Xe):Prop:=
 (∀(W:yH)(off:Nat),W.drop off=es->off<=W.length->W.length<=1000->jai (nA off) (nA (W.length-off)) (JY s) (W.map ec) []=o)/\jfD (JY s) (es.map ec) []=o/\
 (s=[]->(∀(W:yH)(off:Nat),W.drop off=es->off<=W.length->W.length<=1000->jit (nA off) (nA (W.length-off)) (W.map ec) [] []=o)/\jdB (es.map ec) [] []=o)
theorem un2(k:Nat)(ih:∀(s:ju)(es:yH)(res:Option ju),Jt s es->Hgt s 126 es->kH k s es=some res->US s es (zE res))(s:ju)(l r:T)(rest:yH)(hi:Jt s ((l,r)::rest))(hg:Hgt s 126 ((l,r)::rest))(res:Option ju)(hu:kH (k+1) s ((l,r)::rest)=some res)(W:yH)(off:Nat)(hW:W.drop off=(l,r)::rest)(hlen:W.length<=1000):jai (nA off) (nA (W.length-off)) (JY s) (W.map ec) []=zE res:=by
 obtain⟨d1,d2,d3⟩:=y8 hW;obtain⟨r1,r2⟩:=Yx d1;obtain⟨al,ar,nl,nr⟩:=ZP hi;have hv:=hi.1;have e1:=Jd s hv l al (by omega);have e2:=Jd s hv r ar (by omega);have w1:kE (nA off)=off:=rfl;have w2:kE (nA (W.length-off))=W.length-off:=rfl;have g1:jq .gtr false (nA (W.length-off)) (vi 0)=some (vb true):=by
  show some (vb (decide ((0:Int)<((W.length-off:Nat):Int))))=_;rw[decide_eq_true (by omega)]
 have g2:ZB (W.length-off) (vi 0)=some 0:=zR (i:=0) (by omega);have g3:pB (W.length-off) (kY (W.map ec) off) none=some (W.length-off):=by
  rw[show kY (W.map ec) off=W.length-off by rw[yk,List.length_map]];exact jbs (Nat.le_refl _)
 have g4:pB 0 (W.length-off) (some (vi 1))=some 1:=yO (n:=1) (by omega);have hn:j6 (W.length-off) 1=W.length-(off+1):=by unfold j6;omega
 rw[jrd];cases sl:jH (sub s l)<;>rw[sl]at e1
 .have e1:G 82 [sb s,tm l]=some (.tup [.agg [sv [],.sl 2 []],vb false],[]):=e1;have hr:res=none:=jV (by unfold yl;rw[if_pos (Or.inl sl)]) hu;subst hr;obtain⟨q,e2⟩:∃q:T×Bool,G 82 [sb s,tm r]=some (.tup [tm q.1,vb q.2],[]):=by
   cases h:jH (sub s r)<;>rw[h]at e2
   .exact ⟨(.mk [] [],false),e2⟩
   .exact ⟨(sub s r,true),e2⟩
  simp only[jg,w1,w2,g1,g2,g3,g4,Nat.add_zero,r1,r2,e1,e2];rfl
 have e1:G 82 [sb s,tm l]=some (.tup [tm (sub s l),vb true],[]):=e1;cases sr:jH (sub s r)<;>rw[sr]at e2
 .have e2:G 82 [sb s,tm r]=some (.tup [.agg [sv [],.sl 2 []],vb false],[]):=e2;have hr:res=none:=jV (by unfold yl;rw[if_pos (Or.inr sr)]) hu;subst hr;simp only[jg,w1,w2,g1,g2,g3,g4,Nat.add_zero,r1,r2,e1,e2];rfl
 have e2:G 82 [sb s,tm r]=some (.tup [tm (sub s r),vb true],[]):=e2;have xl:K0 (sub s l):=K0.sub hv al;have xr:K0 (sub s r):=K0.sub hv ar;have ml:=kT sl;have mr:=kT sr;have tl:=xl.tz (by omega);have tr:=xr.tz (by omega);have e3:=KP (sub s l) tl.wf (sub s r) tr.wf;have ll:=(jI hv).1;cases hd:dq (sub s l) (sub s r)<;>rw[hd]at e3
 rotate_left
 .have hst:=Qb (rest:=rest) sl sr hd;have hnext:=ih _ _ res (zx hi hst).1 (ye hi hg hst) (zl hst hu);have hnext:=hnext.1 W (off+1) d2 (by omega) hlen;simp only[jg,w1,w2,g1,g2,g3,g4,Nat.add_zero,r1,r2,e1,e2,e3,hn];exact hnext
 have v1:=yA (sub s l) (xl.imp id λh=>h.1);have v2:=yA (sub s r) (xr.imp id λh=>h.1);have bindC:jr (sub s l).name=true\/jr (sub s r).name=true->(∃q:Bool,G 100 [.agg [sv (sub s l).name,jS (sub s l).args,sv (sub s r).name,jS (sub s r).args]]=some (.tup [sb [jv (sub s l) (sub s r)],vb q],[])/\(q=false->zE res=zE none)/\(q=true-> ∃q2:Bool,∃u:ju,G 101 [sb s,sb [jv (sub s l) (sub s r)]]=some (.tup [sb u,vb q2],[])/\(q2=false->zE res=zE none)/\(q2=true->jai (nA (off+1)) (nA (W.length-(off+1))) (JY u) (W.map ec) []=zE res))):=by
  intro hvar;have hst:=Y9 (rest:=rest) sl sr hd hvar;refine⟨_,jar _ _ xl xr (by omega) (by omega) hvar,λhq=>?_,λhq=>?_⟩
  .rw [hq,Bool.false_and,if_neg Bool.false_ne_true]at hst;rw[jV hst hu]
  .rw [hq,Bool.true_and]at hst;have hvp:jB [jv (sub s l) (sub s r)]=true:=by
    rw[Bool.and_eq_true]at hq;exact hq.2
   have ec1:=jco s [jv (sub s l) (sub s r)] hv hvp;cases hc:jB (kC s [jv (sub s l) (sub s r)])
   .rw [hc,if_neg Bool.false_ne_true]at hst ec1;exact⟨false,[],ec1,λ_=>by rw[jV hst hu],λh=>by cases h⟩
   .rw [hc,if_pos rfl]at hst ec1;refine⟨true,_,ec1,(λh=>by cases h),λ_=>?_⟩;have hnext:=ih _ _ res (zx hi hst).1 (ye hi hg hst) (zl hst hu);exact hnext.1 W (off+1) d2 (by omega) hlen
 have close:jr (sub s l).name=true\/jr (sub s r).name=true->_:=bindC;clear bindC;cases vl:jr (sub s l).name<;>rw[vl]at v1
 rotate_left
 .obtain ⟨q,b1,b2,b3⟩:=close (Or.inl vl);cases q
  .rw [b2 rfl];simp only[jg,w1,w2,g1,g2,g3,g4,Nat.add_zero,r1,r2,e1,e2,e3,v1,v2,b1];rfl
  .obtain ⟨q2,u,b4,b5,b6⟩:=b3 rfl;cases q2
   .rw [b5 rfl];simp only[jg,w1,w2,g1,g2,g3,g4,Nat.add_zero,r1,r2,e1,e2,e3,v1,v2,b1,b4];rfl
   .rw [<-b6 rfl];simp only[jg,w1,w2,g1,g2,g3,g4,Nat.add_zero,r1,r2,e1,e2,e3,v1,v2,b1,b4,hn]
 cases vr:jr (sub s r).name<;>rw[vr]at v2
 rotate_left
 .obtain ⟨q,b1,b2,b3⟩:=close (Or.inr vr);cases q
  .rw [b2 rfl];simp only[jg,w1,w2,g1,g2,g3,g4,Nat.add_zero,r1,r2,e1,e2,e3,v1,v2,b1];rfl
  .obtain ⟨q2,u,b4,b5,b6⟩:=b3 rfl;cases q2
   .rw [b5 rfl];simp only[jg,w1,w2,g1,g2,g3,g4,Nat.add_zero,r1,r2,e1,e2,e3,v1,v2,b1,b4];rfl
   .rw [<-b6 rfl];simp only[jg,w1,w2,g1,g2,g3,g4,Nat.add_zero,r1,r2,e1,e2,e3,v1,v2,b1,b4,hn]
 have hst:=Qa (rest:=rest) sl sr hd vl vr;by_cases hnm:(sub s l).name=(sub s r).name;rotate_left
 .rw [if_neg (λh=>hnm h.1)]at hst;have hnd:=decide_eq_false hnm;rw[jV hst hu];simp only[jg,w1,w2,g1,g2,g3,g4,Nat.add_zero,r1,r2,e1,e2,e3,v1,v2,hnd];rfl
 have hnd:=decide_eq_true hnm;by_cases hal:(sub s l).args.length=(sub s r).args.length;rotate_left
 .rw [if_neg (λh=>hal h.2)]at hst;have hal':decide ((((sub s l).args.length:Nat):Int)=(((sub s r).args.length:Nat):Int))=false:=decide_eq_false (by omega);rw[jV hst hu];simp only[jg,w1,w2,g1,g2,g3,g4,Nat.add_zero,r1,r2,e1,e2,e3,v1,v2,hnd,hal'];rfl
 rw[if_pos ⟨hnm,hal⟩]at hst;have hnext:=ih _ _ res (zx hi hst).1 (ye hi hg hst) (zl hst hu);have hnext:=hnext.2.1;have hin:=jwj s W (off+1) hlen (sub s l) (sub s r) hal (jaT xl);rw[d2]at hin;rw[hnext]at hin;have hal':decide ((((sub s l).args.length:Nat):Int)=(((sub s r).args.length:Nat):Int))=true:=decide_eq_true (by omega);simp only[jg,w1,w2,g1,g2,g3,g4,Nat.add_zero,r1,r2,e1,e2,e3,v1,v2,hnd,hal',hn];exact hin
theorem un8(k:Nat)(ih:∀(s:ju)(es:yH)(res:Option ju),Jt s es->Hgt s 126 es->kH k s es=some res->US s es (zE res))(s:ju)(l r:T)(rest:yH)(hi:Jt s ((l,r)::rest))(hg:Hgt s 126 ((l,r)::rest))(res:Option ju)(hu:kH (k+1) s ((l,r)::rest)=some res)(W:yH)(hW:W=(l,r)::rest)(hlen:W.length<=1000):jfD (JY s) (W.map ec) []=zE res:=by
 have hW0:W.drop 0=(l,r)::rest:=hW;rw[<-un2 k ih s l r rest hi hg res hu W 0 hW0 hlen];obtain⟨d1,d2,d3⟩:=y8 hW0;obtain⟨r1,r2⟩:=Yx d1;have w1:kE (nA 0)=0:=rfl;have w2:kE (nA W.length)=W.length:=rfl;have f1:jq .gtr false (nA W.length) (vi 0)=some (vb true):=by
  show some (vb (decide ((0:Int)<((W.length:Nat):Int))))=_;rw[decide_eq_true (by omega)]
 have f3:pB W.length (kY (W.map ec) 0) none=some W.length:=by
  rw[show kY (W.map ec) 0=W.length by rw[yk,List.length_map];rfl];exact jbs (Nat.le_refl _)
 have g2:ZB W.length (vi 0)=some 0:=zR (i:=0) (by omega);have g3:pB (zS (W.map ec)) (kY (W.map ec) 0) none=some W.length:=by
  rw[zU,f3]
 have g4:pB 0 W.length (some (vi 1))=some 1:=yO (n:=1) (by omega);have g0:(0:Int)<((W.length:Nat):Int):=by omega
 rw[ju8,jrd,Nat.sub_zero];simp only[jg,w1,w2,f1,f3,g0,g2,g3,g4,r1,r2]
theorem un1(k:Nat)(ih:∀(s:ju)(es:yH)(res:Option ju),Jt s es->Hgt s 126 es->kH k s es=some res->US s es (zE res))(l r:T)(rest:yH)(hi:Jt [] ((l,r)::rest))(hg:Hgt [] 126 ((l,r)::rest))(res:Option ju)(hu:kH (k+1) [] ((l,r)::rest)=some res)(W:yH)(off:Nat)(hW:W.drop off=(l,r)::rest)(hlen:W.length<=1000):jit (nA off) (nA (W.length-off)) (W.map ec) [] []=zE res:=by
 obtain⟨d1,d2,d3⟩:=y8 hW;obtain⟨r1,r2⟩:=Yx d1;obtain⟨al,ar,nl,nr⟩:=ZP hi;have hv:=hi.1;have e1:=Jd [] hv l al (by omega);have e2:=Jd [] hv r ar (by omega);have w1:kE (nA off)=off:=rfl;have w2:kE (nA (W.length-off))=W.length-off:=rfl;have g1:jq .gtr false (nA (W.length-off)) (vi 0)=some (vb true):=by
  show some (vb (decide ((0:Int)<((W.length-off:Nat):Int))))=_;rw[decide_eq_true (by omega)]
 have g2:ZB (W.length-off) (vi 0)=some 0:=zR (i:=0) (by omega);have g3:pB (W.length-off) (kY (W.map ec) off) none=some (W.length-off):=by
  rw[show kY (W.map ec) off=W.length-off by rw[yk,List.length_map]];exact jbs (Nat.le_refl _)
 have g4:pB 0 (W.length-off) (some (vi 1))=some 1:=yO (n:=1) (by omega);have hn:j6 (W.length-off) 1=W.length-(off+1):=by unfold j6;omega
 rw[jrc];cases sl:jH (sub [] l)<;>rw[sl]at e1
 .have e1:G 82 [.agg [.sl 3 []],tm l]=some (.tup [.agg [sv [],.sl 2 []],vb false],[]):=e1;have hr:res=none:=jV (by unfold yl;rw[if_pos (Or.inl sl)]) hu;subst hr;obtain⟨q,e2⟩:∃q:T×Bool,G 82 [.agg [.sl 3 []],tm r]=some (.tup [tm q.1,vb q.2],[]):=by
   cases h:jH (sub [] r)<;>rw[h]at e2
   .exact ⟨(.mk [] [],false),e2⟩
   .exact ⟨(sub [] r,true),e2⟩
  simp only[jg,w1,w2,g1,g2,g3,g4,Nat.add_zero,r1,r2,e1,e2];rfl
 have e1:G 82 [.agg [.sl 3 []],tm l]=some (.tup [tm (sub [] l),vb true],[]):=e1;cases sr:jH (sub [] r)<;>rw[sr]at e2
 .have e2:G 82 [.agg [.sl 3 []],tm r]=some (.tup [.agg [sv [],.sl 2 []],vb false],[]):=e2;have hr:res=none:=jV (by unfold yl;rw[if_pos (Or.inr sr)]) hu;subst hr;simp only[jg,w1,w2,g1,g2,g3,g4,Nat.add_zero,r1,r2,e1,e2];rfl
 have e2:G 82 [.agg [.sl 3 []],tm r]=some (.tup [tm (sub [] r),vb true],[]):=e2;have xl:K0 (sub [] l):=K0.sub hv al;have xr:K0 (sub [] r):=K0.sub hv ar;have ml:=kT sl;have mr:=kT sr;have tl:=xl.tz (by omega);have tr:=xr.tz (by omega);have e3:=KP (sub [] l) tl.wf (sub [] r) tr.wf;have ll:=(jI hv).1;cases hd:dq (sub [] l) (sub [] r)<;>rw[hd]at e3
 rotate_left
 .have hst:=Qb (rest:=rest) sl sr hd;have hnext:=ih _ _ res (zx hi hst).1 (ye hi hg hst) (zl hst hu);have hnext:=(hnext.2.2 rfl).1 W (off+1) d2 (by omega) hlen;simp only[jg,w1,w2,g1,g2,g3,g4,Nat.add_zero,r1,r2,e1,e2,e3,hn];exact hnext
 have v1:=yA (sub [] l) (xl.imp id λh=>h.1);have v2:=yA (sub [] r) (xr.imp id λh=>h.1);have bindC:jr (sub [] l).name=true\/jr (sub [] r).name=true->(∃q:Bool,G 100 [.agg [sv (sub [] l).name,jS (sub [] l).args,sv (sub [] r).name,jS (sub [] r).args]]=some (.tup [sb [jv (sub [] l) (sub [] r)],vb q],[])/\(q=false->zE res=zE none)/\(q=true-> ∃q2:Bool,∃u:ju,G 101 [.agg [.sl 3 []],sb [jv (sub [] l) (sub [] r)]]=some (.tup [sb u,vb q2],[])/\(q2=false->zE res=zE none)/\(q2=true->jai (nA (off+1)) (nA (W.length-(off+1))) (JY u) (W.map ec) []=zE res))):=by
  intro hvar;have hst:=Y9 (rest:=rest) sl sr hd hvar;refine⟨_,jar _ _ xl xr (by omega) (by omega) hvar,λhq=>?_,λhq=>?_⟩
  .rw [hq,Bool.false_and,if_neg Bool.false_ne_true]at hst;rw[jV hst hu]
  .rw [hq,Bool.true_and]at hst;have hvp:jB [jv (sub [] l) (sub [] r)]=true:=by
    rw[Bool.and_eq_true]at hq;exact hq.2
   have ec1:=jco [] [jv (sub [] l) (sub [] r)] hv hvp;cases hc:jB (kC [] [jv (sub [] l) (sub [] r)])
   .rw [hc,if_neg Bool.false_ne_true]at hst ec1;exact⟨false,[],ec1,λ_=>by rw[jV hst hu],λh=>by cases h⟩
   .rw [hc,if_pos rfl]at hst ec1;refine⟨true,_,ec1,(λh=>by cases h),λ_=>?_⟩;have hnext:=ih _ _ res (zx hi hst).1 (ye hi hg hst) (zl hst hu);exact hnext.1 W (off+1) d2 (by omega) hlen
 have close:jr (sub [] l).name=true\/jr (sub [] r).name=true->_:=bindC;clear bindC;cases vl:jr (sub [] l).name<;>rw[vl]at v1
 rotate_left
 .obtain ⟨q,b1,b2,b3⟩:=close (Or.inl vl);cases q
  .rw [b2 rfl];simp only[jg,w1,w2,g1,g2,g3,g4,Nat.add_zero,r1,r2,e1,e2,e3,v1,v2,b1];rfl
  .obtain ⟨q2,u,b4,b5,b6⟩:=b3 rfl;cases q2
   .rw [b5 rfl];simp only[jg,w1,w2,g1,g2,g3,g4,Nat.add_zero,r1,r2,e1,e2,e3,v1,v2,b1,b4];rfl
   .rw [<-b6 rfl];simp only[jg,w1,w2,g1,g2,g3,g4,Nat.add_zero,r1,r2,e1,e2,e3,v1,v2,b1,b4,hn]
 cases vr:jr (sub [] r).name<;>rw[vr]at v2
 rotate_left
 .obtain ⟨q,b1,b2,b3⟩:=close (Or.inr vr);cases q
  .rw [b2 rfl];simp only[jg,w1,w2,g1,g2,g3,g4,Nat.add_zero,r1,r2,e1,e2,e3,v1,v2,b1];rfl
  .obtain ⟨q2,u,b4,b5,b6⟩:=b3 rfl;cases q2
   .rw [b5 rfl];simp only[jg,w1,w2,g1,g2,g3,g4,Nat.add_zero,r1,r2,e1,e2,e3,v1,v2,b1,b4];rfl
   .rw [<-b6 rfl];simp only[jg,w1,w2,g1,g2,g3,g4,Nat.add_zero,r1,r2,e1,e2,e3,v1,v2,b1,b4,hn]
 have hst:=Qa (rest:=rest) sl sr hd vl vr;by_cases hnm:(sub [] l).name=(sub [] r).name;rotate_left
 .rw [if_neg (λh=>hnm h.1)]at hst;have hnd:=decide_eq_false hnm;rw[jV hst hu];simp only[jg,w1,w2,g1,g2,g3,g4,Nat.add_zero,r1,r2,e1,e2,e3,v1,v2,hnd];rfl
 have hnd:=decide_eq_true hnm;by_cases hal:(sub [] l).args.length=(sub [] r).args.length;rotate_left
 .rw [if_neg (λh=>hal h.2)]at hst;have hal':decide ((((sub [] l).args.length:Nat):Int)=(((sub [] r).args.length:Nat):Int))=false:=decide_eq_false (by omega);rw[jV hst hu];simp only[jg,w1,w2,g1,g2,g3,g4,Nat.add_zero,r1,r2,e1,e2,e3,v1,v2,hnd,hal'];rfl
 rw[if_pos ⟨hnm,hal⟩]at hst;have hnext:=ih _ _ res (zx hi hst).1 (ye hi hg hst) (zl hst hu);have hnext:=(hnext.2.2 rfl).2;have hin:=jwi W (off+1) hlen (sub [] l) (sub [] r) hal (jaT xl);rw[d2]at hin;rw[hnext]at hin;have hal':decide ((((sub [] l).args.length:Nat):Int)=(((sub [] r).args.length:Nat):Int))=true:=decide_eq_true (by omega);simp only[jg,w1,w2,g1,g2,g3,g4,Nat.add_zero,r1,r2,e1,e2,e3,v1,v2,hnd,hal',hn];exact hin
theorem un6(k:Nat)(ih:∀(s:ju)(es:yH)(res:Option ju),Jt s es->Hgt s 126 es->kH k s es=some res->US s es (zE res))(l r:T)(rest:yH)(hi:Jt [] ((l,r)::rest))(hg:Hgt [] 126 ((l,r)::rest))(res:Option ju)(hu:kH (k+1) [] ((l,r)::rest)=some res)(W:yH)(hW:W=(l,r)::rest)(hlen:W.length<=1000):jdB (W.map ec) [] []=zE res:=by
 have hW0:W.drop 0=(l,r)::rest:=hW;rw[<-un1 k ih l r rest hi hg res hu W 0 hW0 hlen];obtain⟨d1,d2,d3⟩:=y8 hW0;obtain⟨r1,r2⟩:=Yx d1;have w1:kE (nA 0)=0:=rfl;have w2:kE (nA W.length)=W.length:=rfl;have f1:jq .gtr false (nA W.length) (vi 0)=some (vb true):=by
  show some (vb (decide ((0:Int)<((W.length:Nat):Int))))=_;rw[decide_eq_true (by omega)]
 have f3:pB W.length (kY (W.map ec) 0) none=some W.length:=by
  rw[show kY (W.map ec) 0=W.length by rw[yk,List.length_map];rfl];exact jbs (Nat.le_refl _)
 have g2:ZB W.length (vi 0)=some 0:=zR (i:=0) (by omega);have g3:pB (zS (W.map ec)) (kY (W.map ec) 0) none=some W.length:=by
  rw[zU,f3]
 have g4:pB 0 W.length (some (vi 1))=some 1:=yO (n:=1) (by omega);have g0:(0:Int)<((W.length:Nat):Int):=by omega
 rw[jre,jrc,Nat.sub_zero];simp only[jg,w1,w2,f1,f3,g0,g2,g3,g4,r1,r2]
theorem jvy(s:ju):US s [] (zE (some s)):=by
 refine⟨λW off hW h1 h2=>?_,?_,λhs=>?_⟩
 .have h3:=congrArg List.length hW;rw[List.length_drop,List.length_nil]at h3;have w2:kE (nA (W.length-off))=W.length-off:=rfl;have g1:jq .gtr false (nA (W.length-off)) (vi 0)=some (vb false):=by
   show some (vb (decide ((0:Int)<((W.length-off:Nat):Int))))=_;rw[decide_eq_false (by omega)]
  rw[jrd];simp only[jg,w2,g1];rfl
 .rw [ju8];have g1:jq .gtr false (qS (List.map ec [])) (vi 0)=some (vb false):=rfl;simp only[jg];rfl
 .subst hs;refine⟨λW off hW h1 h2=>?_,?_⟩
  .have h3:=congrArg List.length hW;rw[List.length_drop,List.length_nil]at h3;have w2:kE (nA (W.length-off))=W.length-off:=rfl;have g1:jq .gtr false (nA (W.length-off)) (vi 0)=some (vb false):=by
    show some (vb (decide ((0:Int)<((W.length-off:Nat):Int))))=_;rw[decide_eq_false (by omega)]
   rw[jrc];simp only[jg,w2,g1];rfl
  .rw [jre];have g1:jq .gtr false (qS (List.map ec [])) (vi 0)=some (vb false):=rfl;simp only[jg];rfl
theorem jyG:∀(k:Nat)(s:ju)(es:yH)(res:Option ju),Jt s es->Hgt s 126 es->kH k s es=some res->US s es (zE res):=by
 intro k;induction k with
 |zero=>
  intro s es res hi hg hu;cases es with
  |nil=>simp only[kH,Option.some.injEq]at hu;rw[<-hu];exact jvy s
  |cons p es=>simp[kH]at hu
 |succ k ih=>
  intro s es res hi hg hu;cases es with
  |nil=>simp only[kH,Option.some.injEq]at hu;rw[<-hu];exact jvy s
  |cons p rest=>
   obtain⟨l,r⟩:=p;have hl:=hg.len;refine⟨λW off hW _ hlen=>un2 k ih s l r rest hi hg res hu W off hW hlen,un8 k ih s l r rest hi hg res hu _ rfl (by omega),λhs=>?_⟩;subst hs;exact⟨λW off hW _ hlen=>un1 k ih l r rest hi hg res hu W off hW hlen,un6 k ih l r rest hi hg res hu _ rfl (by omega)⟩
theorem jAQ(W:yH):jpz (W.map ec) [] []=jdB (W.map ec) [] []:=by
 rw[jx9,jre]
theorem jss(a b:T)(ha:Exx a)(hb:Exx b):G 57 [tm a,tm b]=zE (jca a b):=by
 obtain⟨k,hk⟩:=YH ha hb;have h:=((jyG k [] [(a,b)] _ (jnG ha hb) (jx1 a b) hk).2.2 rfl).2;rw[<-jAQ]at h;rw[g57];simp only[jg];exact h
theorem jtv(s:ju)(W:yH)(off:Nat)(hW:W.length<=1000)(x y:T)(hl:x.args.length=y.args.length)(h4:x.args.length<=4) :
  jmt (nA off) (nA (W.length-off)) (vb true) (vi 0) (JY s) (sv x.name) (jS x.args) (sv y.name) (jS y.args) (W.map ec) [] [] []=jfC (JY s) ((x.args.zip y.args++W.drop off).map ec) [] []:=by
 have h1:kE (nA off)=off:=rfl;have h2:kE (nA (W.length-off))=W.length-off:=rfl;have hend:jO (((x.args.zip y.args).map ec).length+((W.drop off).map ec).length) 80=true:=by
  rw[List.length_map,List.length_map,List.length_zip,List.length_drop];exact jcZ (by omega)
 have hzl:((x.args.zip y.args).map ec).length=x.args.length:=by rw[List.length_map,List.length_zip];omega
 have happ:j4 ((x.args.zip y.args).map ec) ((W.drop off).map ec)=(x.args.zip y.args++W.drop off).map ec:=by rw[List.map_append];rfl
 have step:∀i,(hi:i<x.args.length)->(hi2:i<y.args.length)->j4 (((x.args.zip y.args).take i).map ec) [[sv x.args[i].name,jS x.args[i].args,sv y.args[i].name,jS y.args[i].args]]=((x.args.zip y.args).take (i+1)).map ec:=λi hi hi2=>jbq hi hi2;have key:=upto (P:=λi=>jpy (nA off) (nA (W.length-off)) (vb true) (vi (i:Nat)) (JY s) (sv x.name) (jS x.args) (sv y.name) (jS y.args) (W.map ec) (((x.args.zip y.args).take i).map ec) [] []=jfC (JY s) ((x.args.zip y.args++W.drop off).map ec) [] []) (n:=x.args.length) ?_ ?_
 .have hend2:(x.args.zip y.args).take x.args.length=x.args.zip y.args:=List.take_of_length_le (by rw[List.length_zip];omega)
  rw[jx8];by_cases h0:0<x.args.length
  .have hi:=h0;have hi2:0<y.args.length:=by omega
   have hlt:(0:Int)<((x.args.length:Nat):Int):=by omega
   have ix:=jb (k:=2) (f:=jm) hi;have ix2:=jb (k:=2) (f:=jm) hi2;have ta:=step 0 hi hi2;simp only[List.take_zero,List.map_nil,Int.natCast_zero,Nat.zero_add]at ta ix ix2;have hf:jO 1 80=true:=jcZ (by omega);have hck:ck (0+1)=some (vi ((1:Nat):Int)):=jZ (n:=0+1) (by omega) (by omega);have key:=key 1 (by omega);rw[<-key];simp only[jg,hlt,ix,ix2,ji,hf,hck,h1,h2];generalize hB:zk _ _ _=B;have hB':B=some (.agg [sv x.args[0].name,jS x.args[0].args,sv y.args[0].name,jS y.args[0].args]):=by rw[<-hB];kernel_rfl
   rw[hB'];simp only[jg,ta]
  .have hlt:¬(0:Int)<((x.args.length:Nat):Int):=by omega
   have he:x.args=[]:=List.eq_nil_of_length_eq_zero (by omega);have hz:x.args.zip y.args=[]:=by rw[he];rfl
   rw[hz]at hend happ⊢;have hend:jO ((W.drop off).map ec).length 80=true:=by simpa using hend
   have happ:j4 [] ((W.drop off).map ec)=(W.drop off).map ec:=rfl;simp only[jg,hlt,h1,h2,YK,List.nil_append];rw[List.length_map]at hend;simp only[jg,hend,happ]
 .have hend2:(x.args.zip y.args).take x.args.length=x.args.zip y.args:=List.take_of_length_le (by rw[List.length_zip];omega)
  rw[hend2,ju2];have hlt:¬((x.args.length:Nat):Int)<((x.args.length:Nat):Int):=by omega
  rw[hzl,List.length_map]at hend;simp only[jg,hlt,h1,h2,YK,happ];rw[List.length_zip,Nat.min_eq_left (by omega)];simp only[jg,hend]
 .intro i hi ih;have hi2:i<y.args.length:=by omega
  have hlt:((i:Nat):Int)<((x.args.length:Nat):Int):=by omega
  have ta:=step i hi hi2;have li:(((x.args.zip y.args).take i).map ec).length=i:=take_len (by rw[List.length_zip];omega);have hf:jO (i+1) 80=true:=jcZ (by omega);have hck:ck ((i:Int)+1)=some (vi ((i+1:Nat):Int)):=jZ (by omega) (by omega);generalize ((x.args.zip y.args).take i).map ec=R at *;rw[ju2,<-ih];simp only[jg,hlt,jb hi,jb hi2,ji];generalize hB:zk _ _ _=B;have hB':B=some (.agg [sv x.args[i].name,jS x.args[i].args,sv y.args[i].name,jS y.args[i].args]):=by rw[<-hB];kernel_rfl
  rw[hB'];simp only[jg,li,hf,ta,hck,h1,h2]
theorem jtu(W:yH)(off:Nat)(hW:W.length<=1000)(x y:T)(hl:x.args.length=y.args.length)(h4:x.args.length<=4) :
  jms (nA off) (nA (W.length-off)) (vb true) (vi 0) (sv x.name) (jS x.args) (sv y.name) (jS y.args) (W.map ec) [] [] [] []=jdA ((x.args.zip y.args++W.drop off).map ec) [] [] []:=by
 have h1:kE (nA off)=off:=rfl;have h2:kE (nA (W.length-off))=W.length-off:=rfl;have hend:jO (((x.args.zip y.args).map ec).length+((W.drop off).map ec).length) 80=true:=by
  rw[List.length_map,List.length_map,List.length_zip,List.length_drop];exact jcZ (by omega)
 have hzl:((x.args.zip y.args).map ec).length=x.args.length:=by rw[List.length_map,List.length_zip];omega
 have happ:j4 ((x.args.zip y.args).map ec) ((W.drop off).map ec)=(x.args.zip y.args++W.drop off).map ec:=by rw[List.map_append];rfl
 have step:∀i,(hi:i<x.args.length)->(hi2:i<y.args.length)->j4 (((x.args.zip y.args).take i).map ec) [[sv x.args[i].name,jS x.args[i].args,sv y.args[i].name,jS y.args[i].args]]=((x.args.zip y.args).take (i+1)).map ec:=λi hi hi2=>jbq hi hi2;have key:=upto (P:=λi=>jpx (nA off) (nA (W.length-off)) (vb true) (vi (i:Nat)) (sv x.name) (jS x.args) (sv y.name) (jS y.args) (W.map ec) (((x.args.zip y.args).take i).map ec) [] [] []=jdA ((x.args.zip y.args++W.drop off).map ec) [] [] []) (n:=x.args.length) ?_ ?_
 .have hend2:(x.args.zip y.args).take x.args.length=x.args.zip y.args:=List.take_of_length_le (by rw[List.length_zip];omega)
  rw[jx7];by_cases h0:0<x.args.length
  .have hi:=h0;have hi2:0<y.args.length:=by omega
   have hlt:(0:Int)<((x.args.length:Nat):Int):=by omega
   have ix:=jb (k:=2) (f:=jm) hi;have ix2:=jb (k:=2) (f:=jm) hi2;have ta:=step 0 hi hi2;simp only[List.take_zero,List.map_nil,Int.natCast_zero,Nat.zero_add]at ta ix ix2;have hf:jO 1 80=true:=jcZ (by omega);have hck:ck (0+1)=some (vi ((1:Nat):Int)):=jZ (n:=0+1) (by omega) (by omega);have key:=key 1 (by omega);rw[<-key];simp only[jg,hlt,ix,ix2,ji,hf,hck,h1,h2];generalize hB:zk _ _ _=B;have hB':B=some (.agg [sv x.args[0].name,jS x.args[0].args,sv y.args[0].name,jS y.args[0].args]):=by rw[<-hB];kernel_rfl
   rw[hB'];simp only[jg,ta]
  .have hlt:¬(0:Int)<((x.args.length:Nat):Int):=by omega
   have he:x.args=[]:=List.eq_nil_of_length_eq_zero (by omega);have hz:x.args.zip y.args=[]:=by rw[he];rfl
   rw[hz]at hend happ⊢;have hend:jO ((W.drop off).map ec).length 80=true:=by simpa using hend
   have happ:j4 [] ((W.drop off).map ec)=(W.drop off).map ec:=rfl;simp only[jg,hlt,h1,h2,YK,List.nil_append];rw[List.length_map]at hend;simp only[jg,hend,happ]
 .have hend2:(x.args.zip y.args).take x.args.length=x.args.zip y.args:=List.take_of_length_le (by rw[List.length_zip];omega)
  rw[hend2,ju1];have hlt:¬((x.args.length:Nat):Int)<((x.args.length:Nat):Int):=by omega
  rw[hzl,List.length_map]at hend;simp only[jg,hlt,h1,h2,YK,happ];rw[List.length_zip,Nat.min_eq_left (by omega)];simp only[jg,hend]
 .intro i hi ih;have hi2:i<y.args.length:=by omega
  have hlt:((i:Nat):Int)<((x.args.length:Nat):Int):=by omega
  have ta:=step i hi hi2;have li:(((x.args.zip y.args).take i).map ec).length=i:=take_len (by rw[List.length_zip];omega);have hf:jO (i+1) 80=true:=jcZ (by omega);have hck:ck ((i:Int)+1)=some (vi ((i+1:Nat):Int)):=jZ (by omega) (by omega);generalize ((x.args.zip y.args).take i).map ec=R at *;rw[ju1,<-ih];simp only[jg,hlt,jb hi,jb hi2,ji];generalize hB:zk _ _ _=B;have hB':B=some (.agg [sv x.args[i].name,jS x.args[i].args,sv y.args[i].name,jS y.args[i].args]):=by rw[<-hB];kernel_rfl
  rw[hB'];simp only[jg,li,hf,ta,hck,h1,h2]
def USS(s:ju)(es:yH)(o:Xe):Prop:=
 (∀(W:yH)(off:Nat),W.drop off=es->off<=W.length->W.length<=1000->jah (nA off) (nA (W.length-off)) (JY s) (W.map ec) [] []=o)/\jfC (JY s) (es.map ec) [] []=o/\
 (s=[]->(∀(W:yH)(off:Nat),W.drop off=es->off<=W.length->W.length<=1000->jis (nA off) (nA (W.length-off)) (W.map ec) [] [] []=o)/\jdA (es.map ec) [] [] []=o)
theorem jyJ(k:Nat)(ih:∀(s:ju)(es:yH)(res:Option ju),Jt s es->Hgt s 126 es->kH k s es=some res->USS s es (zE res))(s:ju)(l r:T)(rest:yH)(hi:Jt s ((l,r)::rest))(hg:Hgt s 126 ((l,r)::rest))(res:Option ju)(hu:kH (k+1) s ((l,r)::rest)=some res)(W:yH)(off:Nat)(hW:W.drop off=(l,r)::rest)(hlen:W.length<=1000):jah (nA off) (nA (W.length-off)) (JY s) (W.map ec) [] []=zE res:=by
 obtain⟨d1,d2,d3⟩:=y8 hW;obtain⟨r1,r2⟩:=Yx d1;obtain⟨al,ar,nl,nr⟩:=ZP hi;have hv:=hi.1;have e1:=Ku s hv l al (by omega);have e2:=Ku s hv r ar (by omega);have w1:kE (nA off)=off:=rfl;have w2:kE (nA (W.length-off))=W.length-off:=rfl;have g1:jq .gtr false (nA (W.length-off)) (vi 0)=some (vb true):=by
  show some (vb (decide ((0:Int)<((W.length-off:Nat):Int))))=_;rw[decide_eq_true (by omega)]
 have g2:ZB (W.length-off) (vi 0)=some 0:=zR (i:=0) (by omega);have g3:pB (W.length-off) (kY (W.map ec) off) none=some (W.length-off):=by
  rw[show kY (W.map ec) off=W.length-off by rw[yk,List.length_map]];exact jbs (Nat.le_refl _)
 have g4:pB 0 (W.length-off) (some (vi 1))=some 1:=yO (n:=1) (by omega);have hn:j6 (W.length-off) 1=W.length-(off+1):=by unfold j6;omega
 rw[jra];cases sl:jH (sub s l)<;>rw[sl]at e1
 .have e1:G 90 [sb s,tm l]=some (.tup [.agg [sv [],.sl 2 []],vb false],[]):=e1;have hr:res=none:=jV (by unfold yl;rw[if_pos (Or.inl sl)]) hu;subst hr;obtain⟨q,e2⟩:∃q:T×Bool,G 90 [sb s,tm r]=some (.tup [tm q.1,vb q.2],[]):=by
   cases h:jH (sub s r)<;>rw[h]at e2
   .exact ⟨(.mk [] [],false),e2⟩
   .exact ⟨(sub s r,true),e2⟩
  simp only[jg,w1,w2,g1,g2,g3,g4,Nat.add_zero,r1,r2,e1,e2];rfl
 have e1:G 90 [sb s,tm l]=some (.tup [tm (sub s l),vb true],[]):=e1;cases sr:jH (sub s r)<;>rw[sr]at e2
 .have e2:G 90 [sb s,tm r]=some (.tup [.agg [sv [],.sl 2 []],vb false],[]):=e2;have hr:res=none:=jV (by unfold yl;rw[if_pos (Or.inr sr)]) hu;subst hr;simp only[jg,w1,w2,g1,g2,g3,g4,Nat.add_zero,r1,r2,e1,e2];rfl
 have e2:G 90 [sb s,tm r]=some (.tup [tm (sub s r),vb true],[]):=e2;have xl:K0 (sub s l):=K0.sub hv al;have xr:K0 (sub s r):=K0.sub hv ar;have ml:=kT sl;have mr:=kT sr;have tl:=xl.tz (by omega);have tr:=xr.tz (by omega);have e3:=jf7 (sub s l) tl.wf (sub s r) tr.wf;have ll:=(jI hv).1;cases hd:dq (sub s l) (sub s r)<;>rw[hd]at e3
 rotate_left
 .have hst:=Qb (rest:=rest) sl sr hd;have hnext:=ih _ _ res (zx hi hst).1 (ye hi hg hst) (zl hst hu);have hnext:=hnext.1 W (off+1) d2 (by omega) hlen;simp only[jg,w1,w2,g1,g2,g3,g4,Nat.add_zero,r1,r2,e1,e2,e3,hn];exact hnext
 have v1:=yc (sub s l).name ((kQ _).1 tl.wf).1;have v2:=yc (sub s r).name ((kQ _).1 tr.wf).1;have bindC:jr (sub s l).name=true\/jr (sub s r).name=true-> ∃q2:Bool,∃u:ju,G 92 [sb s,sv (jv (sub s l) (sub s r)).1,tm (jv (sub s l) (sub s r)).2]=some (.tup [sb u,vb q2],[])/\(q2=false->zE res=zE none)/\(q2=true->jah (nA (off+1)) (nA (W.length-(off+1))) (JY u) (W.map ec) [] []=zE res):=by
  intro hvar;have hst:=Y9 (rest:=rest) sl sr hd hvar;obtain⟨bv,hor⟩:=jdF hvar;have bz:Tz (jv (sub s l) (sub s r)).2:=hor.elim (λh=>by rw[h.2];exact tl) λh=>by rw[h.2];exact tr
  have bk:(jv (sub s l) (sub s r)).1∈ke (jv (sub s l) (sub s r)).2\/(jv (sub s l) (sub s r)).2.name≠(jv (sub s l) (sub s r)).1:=by
   by_cases hnm:(jv (sub s l) (sub s r)).2.name=(jv (sub s l) (sub s r)).1
   .left;rw[vsv (by rw[hnm];exact bv),hnm];simp
   .exact Or.inr hnm
  obtain⟨z,eb⟩:=jf9 s hv _ _ bv bz bk;rw[<-Bool.and_assoc]at eb;cases hc:(!decide ((jv (sub s l) (sub s r)).1∈ke (jv (sub s l) (sub s r)).2) && jB [jv (sub s l) (sub s r)]) && jB (kC s [jv (sub s l) (sub s r)])
  .rw [hc,if_neg Bool.false_ne_true]at hst;have eb:=eb.trans (by rw[show((jv (sub s l) (sub s r)).1,(jv (sub s l) (sub s r)).2)=jv (sub s l) (sub s r) from rfl,hc,if_neg Bool.false_ne_true]);exact⟨false,z,eb,λ_=>by rw[jV hst hu],λh=>by cases h⟩
  .rw [hc,if_pos rfl]at hst;have eb:=eb.trans (by rw[show((jv (sub s l) (sub s r)).1,(jv (sub s l) (sub s r)).2)=jv (sub s l) (sub s r) from rfl,hc,if_pos rfl]);refine⟨true,_,eb,(λh=>by cases h),λ_=>?_⟩;have hnext:=ih _ _ res (zx hi hst).1 (ye hi hg hst) (zl hst hu);exact hnext.1 W (off+1) d2 (by omega) hlen
 cases vl:jr (sub s l).name<;>rw[vl]at v1
 rotate_left
 .cases vr:jr (sub s r).name<;>rw[vr]at v2
  .obtain ⟨q2,u,b1,b2,b3⟩:=bindC (Or.inl vl);have hbd:jv (sub s l) (sub s r)=((sub s l).name,sub s r):=if_neg (by rw[vl,vr];simp);rw[hbd]at b1;cases q2
   .rw [b2 rfl];simp only[jg,w1,w2,g1,g2,g3,g4,Nat.add_zero,r1,r2,e1,e2,e3,v1,v2,b1];rfl
   .rw [<-b3 rfl];simp only[jg,w1,w2,g1,g2,g3,g4,Nat.add_zero,r1,r2,e1,e2,e3,v1,v2,b1,hn]
  .cases hc:zz (sub s l).name (sub s r).name
   .obtain ⟨q2,u,b1,b2,b3⟩:=bindC (Or.inl vl);have hbd:jv (sub s l) (sub s r)=((sub s l).name,sub s r):=if_neg (by rw[vl,vr,hc];simp);rw[hbd]at b1;cases q2
    .rw [b2 rfl];simp only[jg,w1,w2,g1,g2,g3,g4,Nat.add_zero,r1,r2,e1,e2,e3,v1,v2,hc,b1];rfl
    .rw [<-b3 rfl];simp only[jg,w1,w2,g1,g2,g3,g4,Nat.add_zero,r1,r2,e1,e2,e3,v1,v2,hc,b1,hn]
   .obtain ⟨q2,u,b1,b2,b3⟩:=bindC (Or.inl vl);have hbd:jv (sub s l) (sub s r)=((sub s r).name,sub s l):=if_pos (Or.inr ⟨vr,hc⟩);rw[hbd]at b1;cases q2
    .rw [b2 rfl];simp only[jg,w1,w2,g1,g2,g3,g4,Nat.add_zero,r1,r2,e1,e2,e3,v1,v2,hc,b1];rfl
    .rw [<-b3 rfl];simp only[jg,w1,w2,g1,g2,g3,g4,Nat.add_zero,r1,r2,e1,e2,e3,v1,v2,hc,b1,hn]
 cases vr:jr (sub s r).name<;>rw[vr]at v2
 rotate_left
 .obtain ⟨q2,u,b1,b2,b3⟩:=bindC (Or.inr vr);have hbd:jv (sub s l) (sub s r)=((sub s r).name,sub s l):=if_pos (Or.inl vl);rw[hbd]at b1;cases q2
  .rw [b2 rfl];simp only[jg,w1,w2,g1,g2,g3,g4,Nat.add_zero,r1,r2,e1,e2,e3,v1,v2,b1];rfl
  .rw [<-b3 rfl];simp only[jg,w1,w2,g1,g2,g3,g4,Nat.add_zero,r1,r2,e1,e2,e3,v1,v2,b1,hn]
 have hst:=Qa (rest:=rest) sl sr hd vl vr;by_cases hnm:(sub s l).name=(sub s r).name;rotate_left
 .rw [if_neg (λh=>hnm h.1)]at hst;have hnd:=decide_eq_false hnm;rw[jV hst hu];simp only[jg,w1,w2,g1,g2,g3,g4,Nat.add_zero,r1,r2,e1,e2,e3,v1,v2,hnd];rfl
 have hnd:=decide_eq_true hnm;by_cases hal:(sub s l).args.length=(sub s r).args.length;rotate_left
 .rw [if_neg (λh=>hal h.2)]at hst;have hal':decide ((((sub s l).args.length:Nat):Int)=(((sub s r).args.length:Nat):Int))=false:=decide_eq_false (by omega);rw[jV hst hu];simp only[jg,w1,w2,g1,g2,g3,g4,Nat.add_zero,r1,r2,e1,e2,e3,v1,v2,hnd,hal'];rfl
 rw[if_pos ⟨hnm,hal⟩]at hst;have hnext:=ih _ _ res (zx hi hst).1 (ye hi hg hst) (zl hst hu);have hnext:=hnext.2.1;have hin:=jtv s W (off+1) hlen (sub s l) (sub s r) hal (jaT xl);rw[d2]at hin;rw[hnext]at hin;have hal':decide ((((sub s l).args.length:Nat):Int)=(((sub s r).args.length:Nat):Int))=true:=decide_eq_true (by omega);simp only[jg,w1,w2,g1,g2,g3,g4,Nat.add_zero,r1,r2,e1,e2,e3,v1,v2,hnd,hal',hn];exact hin
theorem jAS(k:Nat)(ih:∀(s:ju)(es:yH)(res:Option ju),Jt s es->Hgt s 126 es->kH k s es=some res->USS s es (zE res))(s:ju)(l r:T)(rest:yH)(hi:Jt s ((l,r)::rest))(hg:Hgt s 126 ((l,r)::rest))(res:Option ju)(hu:kH (k+1) s ((l,r)::rest)=some res)(W:yH)(hW:W=(l,r)::rest)(hlen:W.length<=1000):jfC (JY s) (W.map ec) [] []=zE res:=by
 have hW0:W.drop 0=(l,r)::rest:=hW;rw[<-jyJ k ih s l r rest hi hg res hu W 0 hW0 hlen];obtain⟨d1,d2,d3⟩:=y8 hW0;obtain⟨r1,r2⟩:=Yx d1;have w1:kE (nA 0)=0:=rfl;have w2:kE (nA W.length)=W.length:=rfl;have f1:jq .gtr false (nA W.length) (vi 0)=some (vb true):=by
  show some (vb (decide ((0:Int)<((W.length:Nat):Int))))=_;rw[decide_eq_true (by omega)]
 have f3:pB W.length (kY (W.map ec) 0) none=some W.length:=by
  rw[show kY (W.map ec) 0=W.length by rw[yk,List.length_map];rfl];exact jbs (Nat.le_refl _)
 have g2:ZB W.length (vi 0)=some 0:=zR (i:=0) (by omega);have g3:pB (zS (W.map ec)) (kY (W.map ec) 0) none=some W.length:=by
  rw[zU,f3]
 have g4:pB 0 W.length (some (vi 1))=some 1:=yO (n:=1) (by omega);have g0:(0:Int)<((W.length:Nat):Int):=by omega
 rw[ju3,jra,Nat.sub_zero];simp only[jg,w1,w2,f1,f3,g0,g2,g3,g4,r1,r2]
theorem jyI(k:Nat)(ih:∀(s:ju)(es:yH)(res:Option ju),Jt s es->Hgt s 126 es->kH k s es=some res->USS s es (zE res))(l r:T)(rest:yH)(hi:Jt [] ((l,r)::rest))(hg:Hgt [] 126 ((l,r)::rest))(res:Option ju)(hu:kH (k+1) [] ((l,r)::rest)=some res)(W:yH)(off:Nat)(hW:W.drop off=(l,r)::rest)(hlen:W.length<=1000):jis (nA off) (nA (W.length-off)) (W.map ec) [] [] []=zE res:=by
 obtain⟨d1,d2,d3⟩:=y8 hW;obtain⟨r1,r2⟩:=Yx d1;obtain⟨al,ar,nl,nr⟩:=ZP hi;have hv:=hi.1;have e1:=Ku [] hv l al (by omega);have e2:=Ku [] hv r ar (by omega);have w1:kE (nA off)=off:=rfl;have w2:kE (nA (W.length-off))=W.length-off:=rfl;have g1:jq .gtr false (nA (W.length-off)) (vi 0)=some (vb true):=by
  show some (vb (decide ((0:Int)<((W.length-off:Nat):Int))))=_;rw[decide_eq_true (by omega)]
 have g2:ZB (W.length-off) (vi 0)=some 0:=zR (i:=0) (by omega);have g3:pB (W.length-off) (kY (W.map ec) off) none=some (W.length-off):=by
  rw[show kY (W.map ec) off=W.length-off by rw[yk,List.length_map]];exact jbs (Nat.le_refl _)
 have g4:pB 0 (W.length-off) (some (vi 1))=some 1:=yO (n:=1) (by omega);have hn:j6 (W.length-off) 1=W.length-(off+1):=by unfold j6;omega
 rw[jq9];cases sl:jH (sub [] l)<;>rw[sl]at e1
 .have e1:G 90 [.agg [.sl 3 []],tm l]=some (.tup [.agg [sv [],.sl 2 []],vb false],[]):=e1;have hr:res=none:=jV (by unfold yl;rw[if_pos (Or.inl sl)]) hu;subst hr;obtain⟨q,e2⟩:∃q:T×Bool,G 90 [.agg [.sl 3 []],tm r]=some (.tup [tm q.1,vb q.2],[]):=by
   cases h:jH (sub [] r)<;>rw[h]at e2
   .exact ⟨(.mk [] [],false),e2⟩
   .exact ⟨(sub [] r,true),e2⟩
  simp only[jg,w1,w2,g1,g2,g3,g4,Nat.add_zero,r1,r2,e1,e2];rfl
 have e1:G 90 [.agg [.sl 3 []],tm l]=some (.tup [tm (sub [] l),vb true],[]):=e1;cases sr:jH (sub [] r)<;>rw[sr]at e2
 .have e2:G 90 [.agg [.sl 3 []],tm r]=some (.tup [.agg [sv [],.sl 2 []],vb false],[]):=e2;have hr:res=none:=jV (by unfold yl;rw[if_pos (Or.inr sr)]) hu;subst hr;simp only[jg,w1,w2,g1,g2,g3,g4,Nat.add_zero,r1,r2,e1,e2];rfl
 have e2:G 90 [.agg [.sl 3 []],tm r]=some (.tup [tm (sub [] r),vb true],[]):=e2;have xl:K0 (sub [] l):=K0.sub hv al;have xr:K0 (sub [] r):=K0.sub hv ar;have ml:=kT sl;have mr:=kT sr;have tl:=xl.tz (by omega);have tr:=xr.tz (by omega);have e3:=jf7 (sub [] l) tl.wf (sub [] r) tr.wf;have ll:=(jI hv).1;cases hd:dq (sub [] l) (sub [] r)<;>rw[hd]at e3
 rotate_left
 .have hst:=Qb (rest:=rest) sl sr hd;have hnext:=ih _ _ res (zx hi hst).1 (ye hi hg hst) (zl hst hu);have hnext:=(hnext.2.2 rfl).1 W (off+1) d2 (by omega) hlen;simp only[jg,w1,w2,g1,g2,g3,g4,Nat.add_zero,r1,r2,e1,e2,e3,hn];exact hnext
 have v1:=yc (sub [] l).name ((kQ _).1 tl.wf).1;have v2:=yc (sub [] r).name ((kQ _).1 tr.wf).1;have bindC:jr (sub [] l).name=true\/jr (sub [] r).name=true-> ∃q2:Bool,∃u:ju,G 92 [.agg [.sl 3 []],sv (jv (sub [] l) (sub [] r)).1,tm (jv (sub [] l) (sub [] r)).2]=some (.tup [sb u,vb q2],[])/\(q2=false->zE res=zE none)/\(q2=true->jah (nA (off+1)) (nA (W.length-(off+1))) (JY u) (W.map ec) [] []=zE res):=by
  intro hvar;have hst:=Y9 (rest:=rest) sl sr hd hvar;obtain⟨bv,hor⟩:=jdF hvar;have bz:Tz (jv (sub [] l) (sub [] r)).2:=hor.elim (λh=>by rw[h.2];exact tl) λh=>by rw[h.2];exact tr
  have bk:(jv (sub [] l) (sub [] r)).1∈ke (jv (sub [] l) (sub [] r)).2\/(jv (sub [] l) (sub [] r)).2.name≠(jv (sub [] l) (sub [] r)).1:=by
   by_cases hnm:(jv (sub [] l) (sub [] r)).2.name=(jv (sub [] l) (sub [] r)).1
   .left;rw[vsv (by rw[hnm];exact bv),hnm];simp
   .exact Or.inr hnm
  obtain⟨z,eb⟩:=jf9 [] hv _ _ bv bz bk;rw[<-Bool.and_assoc]at eb;cases hc:(!decide ((jv (sub [] l) (sub [] r)).1∈ke (jv (sub [] l) (sub [] r)).2) && jB [jv (sub [] l) (sub [] r)]) && jB (kC [] [jv (sub [] l) (sub [] r)])
  .rw [hc,if_neg Bool.false_ne_true]at hst;have eb:=eb.trans (by rw[show((jv (sub [] l) (sub [] r)).1,(jv (sub [] l) (sub [] r)).2)=jv (sub [] l) (sub [] r) from rfl,hc,if_neg Bool.false_ne_true]);exact⟨false,z,eb,λ_=>by rw[jV hst hu],λh=>by cases h⟩
  .rw [hc,if_pos rfl]at hst;have eb:=eb.trans (by rw[show((jv (sub [] l) (sub [] r)).1,(jv (sub [] l) (sub [] r)).2)=jv (sub [] l) (sub [] r) from rfl,hc,if_pos rfl]);refine⟨true,_,eb,(λh=>by cases h),λ_=>?_⟩;have hnext:=ih _ _ res (zx hi hst).1 (ye hi hg hst) (zl hst hu);exact hnext.1 W (off+1) d2 (by omega) hlen
 cases vl:jr (sub [] l).name<;>rw[vl]at v1
 rotate_left
 .cases vr:jr (sub [] r).name<;>rw[vr]at v2
  .obtain ⟨q2,u,b1,b2,b3⟩:=bindC (Or.inl vl);have hbd:jv (sub [] l) (sub [] r)=((sub [] l).name,sub [] r):=if_neg (by rw[vl,vr];simp);rw[hbd]at b1;cases q2
   .rw [b2 rfl];simp only[jg,w1,w2,g1,g2,g3,g4,Nat.add_zero,r1,r2,e1,e2,e3,v1,v2,b1];rfl
   .rw [<-b3 rfl];simp only[jg,w1,w2,g1,g2,g3,g4,Nat.add_zero,r1,r2,e1,e2,e3,v1,v2,b1,hn]
  .cases hc:zz (sub [] l).name (sub [] r).name
   .obtain ⟨q2,u,b1,b2,b3⟩:=bindC (Or.inl vl);have hbd:jv (sub [] l) (sub [] r)=((sub [] l).name,sub [] r):=if_neg (by rw[vl,vr,hc];simp);rw[hbd]at b1;cases q2
    .rw [b2 rfl];simp only[jg,w1,w2,g1,g2,g3,g4,Nat.add_zero,r1,r2,e1,e2,e3,v1,v2,hc,b1];rfl
    .rw [<-b3 rfl];simp only[jg,w1,w2,g1,g2,g3,g4,Nat.add_zero,r1,r2,e1,e2,e3,v1,v2,hc,b1,hn]
   .obtain ⟨q2,u,b1,b2,b3⟩:=bindC (Or.inl vl);have hbd:jv (sub [] l) (sub [] r)=((sub [] r).name,sub [] l):=if_pos (Or.inr ⟨vr,hc⟩);rw[hbd]at b1;cases q2
    .rw [b2 rfl];simp only[jg,w1,w2,g1,g2,g3,g4,Nat.add_zero,r1,r2,e1,e2,e3,v1,v2,hc,b1];rfl
    .rw [<-b3 rfl];simp only[jg,w1,w2,g1,g2,g3,g4,Nat.add_zero,r1,r2,e1,e2,e3,v1,v2,hc,b1,hn]
 cases vr:jr (sub [] r).name<;>rw[vr]at v2
 rotate_left
 .obtain ⟨q2,u,b1,b2,b3⟩:=bindC (Or.inr vr);have hbd:jv (sub [] l) (sub [] r)=((sub [] r).name,sub [] l):=if_pos (Or.inl vl);rw[hbd]at b1;cases q2
  .rw [b2 rfl];simp only[jg,w1,w2,g1,g2,g3,g4,Nat.add_zero,r1,r2,e1,e2,e3,v1,v2,b1];rfl
  .rw [<-b3 rfl];simp only[jg,w1,w2,g1,g2,g3,g4,Nat.add_zero,r1,r2,e1,e2,e3,v1,v2,b1,hn]
 have hst:=Qa (rest:=rest) sl sr hd vl vr;by_cases hnm:(sub [] l).name=(sub [] r).name;rotate_left
 .rw [if_neg (λh=>hnm h.1)]at hst;have hnd:=decide_eq_false hnm;rw[jV hst hu];simp only[jg,w1,w2,g1,g2,g3,g4,Nat.add_zero,r1,r2,e1,e2,e3,v1,v2,hnd];rfl
 have hnd:=decide_eq_true hnm;by_cases hal:(sub [] l).args.length=(sub [] r).args.length;rotate_left
 .rw [if_neg (λh=>hal h.2)]at hst;have hal':decide ((((sub [] l).args.length:Nat):Int)=(((sub [] r).args.length:Nat):Int))=false:=decide_eq_false (by omega);rw[jV hst hu];simp only[jg,w1,w2,g1,g2,g3,g4,Nat.add_zero,r1,r2,e1,e2,e3,v1,v2,hnd,hal'];rfl
 rw[if_pos ⟨hnm,hal⟩]at hst;have hnext:=ih _ _ res (zx hi hst).1 (ye hi hg hst) (zl hst hu);have hnext:=(hnext.2.2 rfl).2;have hin:=jtu W (off+1) hlen (sub [] l) (sub [] r) hal (jaT xl);rw[d2]at hin;rw[hnext]at hin;have hal':decide ((((sub [] l).args.length:Nat):Int)=(((sub [] r).args.length:Nat):Int))=true:=decide_eq_true (by omega);simp only[jg,w1,w2,g1,g2,g3,g4,Nat.add_zero,r1,r2,e1,e2,e3,v1,v2,hnd,hal',hn];exact hin
theorem jAR(k:Nat)(ih:∀(s:ju)(es:yH)(res:Option ju),Jt s es->Hgt s 126 es->kH k s es=some res->USS s es (zE res))(l r:T)(rest:yH)(hi:Jt [] ((l,r)::rest))(hg:Hgt [] 126 ((l,r)::rest))(res:Option ju)(hu:kH (k+1) [] ((l,r)::rest)=some res)(W:yH)(hW:W=(l,r)::rest)(hlen:W.length<=1000):jdA (W.map ec) [] [] []=zE res:=by
 have hW0:W.drop 0=(l,r)::rest:=hW;rw[<-jyI k ih l r rest hi hg res hu W 0 hW0 hlen];obtain⟨d1,d2,d3⟩:=y8 hW0;obtain⟨r1,r2⟩:=Yx d1;have w1:kE (nA 0)=0:=rfl;have w2:kE (nA W.length)=W.length:=rfl;have f1:jq .gtr false (nA W.length) (vi 0)=some (vb true):=by
  show some (vb (decide ((0:Int)<((W.length:Nat):Int))))=_;rw[decide_eq_true (by omega)]
 have f3:pB W.length (kY (W.map ec) 0) none=some W.length:=by
  rw[show kY (W.map ec) 0=W.length by rw[yk,List.length_map];rfl];exact jbs (Nat.le_refl _)
 have g2:ZB W.length (vi 0)=some 0:=zR (i:=0) (by omega);have g3:pB (zS (W.map ec)) (kY (W.map ec) 0) none=some W.length:=by
  rw[zU,f3]
 have g4:pB 0 W.length (some (vi 1))=some 1:=yO (n:=1) (by omega);have g0:(0:Int)<((W.length:Nat):Int):=by omega
 rw[jrb,jq9,Nat.sub_zero];simp only[jg,w1,w2,f1,f3,g0,g2,g3,g4,r1,r2]
theorem jsq(s:ju):USS s [] (zE (some s)):=by
 refine⟨λW off hW h1 h2=>?_,?_,λhs=>?_⟩
 .have h3:=congrArg List.length hW;rw[List.length_drop,List.length_nil]at h3;have w2:kE (nA (W.length-off))=W.length-off:=rfl;have g1:jq .gtr false (nA (W.length-off)) (vi 0)=some (vb false):=by
   show some (vb (decide ((0:Int)<((W.length-off:Nat):Int))))=_;rw[decide_eq_false (by omega)]
  rw[jra];simp only[jg,w2,g1];rfl
 .rw [ju3];have g1:jq .gtr false (qS (List.map ec [])) (vi 0)=some (vb false):=rfl;simp only[jg];rfl
 .subst hs;refine⟨λW off hW h1 h2=>?_,?_⟩
  .have h3:=congrArg List.length hW;rw[List.length_drop,List.length_nil]at h3;have w2:kE (nA (W.length-off))=W.length-off:=rfl;have g1:jq .gtr false (nA (W.length-off)) (vi 0)=some (vb false):=by
    show some (vb (decide ((0:Int)<((W.length-off:Nat):Int))))=_;rw[decide_eq_false (by omega)]
   rw[jq9];simp only[jg,w2,g1];rfl
  .rw [jrb];have g1:jq .gtr false (qS (List.map ec [])) (vi 0)=some (vb false):=rfl;simp only[jg];rfl
theorem jwX:∀(k:Nat)(s:ju)(es:yH)(res:Option ju),Jt s es->Hgt s 126 es->kH k s es=some res->USS s es (zE res):=by
 intro k;induction k with
 |zero=>
  intro s es res hi hg hu;cases es with
  |nil=>simp only[kH,Option.some.injEq]at hu;rw[<-hu];exact jsq s
  |cons p es=>simp[kH]at hu
 |succ k ih=>
  intro s es res hi hg hu;cases es with
  |nil=>simp only[kH,Option.some.injEq]at hu;rw[<-hu];exact jsq s
  |cons p rest=>
   obtain⟨l,r⟩:=p;have hl:=hg.len;refine⟨λW off hW _ hlen=>jyJ k ih s l r rest hi hg res hu W off hW hlen,jAS k ih s l r rest hi hg res hu _ rfl (by omega),λhs=>?_⟩;subst hs;exact⟨λW off hW _ hlen=>jyI k ih l r rest hi hg res hu W off hW hlen,jAR k ih l r rest hi hg res hu _ rfl (by omega)⟩
theorem jyH(W:yH):jpw (W.map ec) [] [] []=jdA (W.map ec) [] [] []:=by
 rw[jx6,jrb]
theorem jlu(a b:T)(ha:Exx a)(hb:Exx b):G 49 [tm a,tm b]=zE (jca a b):=by
 obtain⟨k,hk⟩:=YH ha hb;have h:=((jwX k [] [(a,b)] _ (jnG ha hb) (jx1 a b) hk).2.2 rfl).2;rw[<-jyH]at h;rw[g49];simp only[jg];exact h
open Go Go.RowKit Go.ChangeShapes Go.Deep Go.Proofs.YtkkcepmpbackoaaGreatDoor.Abs
section
variable{P:Program}{t:Nat}{H:Type}{enc:TypeId×Value->H}{w:World}{base:Nat}{spare:Nat->Bool}{held:Bool}{fuel:Nat}{cs:Xh}{x:DataW H×List MemPlace}
end
abbrev clc(c:kg):Xd:=[.sl 3 (c.map jD)]
structure Stp where
 rule:Int
 par:Xi
 whr:Xi
 cls:kg
abbrev stc(s:Stp):Xd:=[vi s.rule,ints s.par,ints s.whr,.sl 3 (s.cls.map jD)]
abbrev stm(s:Stp):A:= .agg [vi s.rule,ints s.par,ints s.whr,.sl 3 (s.cls.map jD)]
structure Prf where
 ax:List kg
 st:List Stp
abbrev cls(l:List kg):A:= .sl 1 (l.map clc)
abbrev jun(l:List Stp):A:= .sl 4 (l.map stc)
abbrev prc(p:Prf):Xd:=[cls p.ax,jun p.st]
abbrev prm(p:Prf):A:= .agg [cls p.ax,jun p.st]
structure Sch where
 prf:Prf
 act:Xi
 pas:Xi
 lost:Bool
abbrev scc(s:Sch):Xd:=[cls s.prf.ax,jun s.prf.st,ints s.act,ints s.pas,vb s.lost]
abbrev scm(s:Sch):A:= .agg [cls s.prf.ax,jun s.prf.st,ints s.act,ints s.pas,vb s.lost]
def iwf(l:Xi):Prop:=(∀x∈l,I64 x)/\l.length<=9223372036854775807
def cwf(c:kg):Prop:=(∀l∈c,KZ l.2)/\c.length<=9223372036854775807
def swf(s:Stp):Prop:=I64 s.rule/\iwf s.par/\iwf s.whr/\cwf s.cls
def pwf(p:Prf):Prop:=((∀c∈p.ax,cwf c)/\p.ax.length<=9223372036854775807)/\((∀s∈p.st,swf s)/\p.st.length<=9223372036854775807)
def jBe(s:Sch):Prop:=pwf s.prf/\iwf s.act/\iwf s.pas
theorem jwH:Rdr Tryz.prog 73 jD (λl:Lt=>KZ l.2):=λ_ _ _ _ _ _ fuel cs x h=>by
 obtain⟨a,b,h1,h2,h3,h4⟩:=jl3 (k0:=1) (k1:=2) Tryz.underlying73 rfl rfl (by kernel_rfl) (by kernel_rfl) (by kernel_rfl)
  (λ_ _ _ _ h=>jt3 _ _ _ _ _ _ _ _ _ h) (λ_ _ _ _ h=>jt5 _ _ _ _ _ _ _ _ _ h) h
 rw[kR]at h3;exact⟨(a,b),h2,h3,h4⟩
theorem jt4:Rdr Tryz.prog 22 (λc:kg=>[A.sl 3 (c.map jD)]) cwf:=
 Rdr.slice Tryz.underlying22 (by kernel_rfl) (by decide) (λ_=>rfl) jwH
theorem joK:Rdr Tryz.prog 24 clc cwf:=λ_ _ _ _ _ _ fuel cs x h=>by
 obtain⟨a,h1,h2,h3⟩:=jl2 (k0:=1) Tryz.underlying24 rfl (by kernel_rfl) (by kernel_rfl)
  (λ_ _ _ _ h=>jt4 _ _ _ _ _ _ _ _ _ h) h
 exact⟨a,h1,h2,h3⟩
theorem jbU(l:Lt):jbr 3 (.elt (jD l) 0)=some (ltm l):=rfl
def lsz:kg->Nat
 | []=>0
 |l::c=>tsz l.2+lsz c
def csz(c:kg):Nat:=c.length+lsz c
def js1:List kg->Nat
 | []=>0
 |c::l=>csz c+js1 l
def ssz(s:Stp):Nat:=s.par.length+s.whr.length+csz s.cls
def juo:List Stp->Nat
 | []=>0
 |s::l=>ssz s+juo l
def psz(p:Prf):Nat:=(p.ax.length+js1 p.ax)+(p.st.length+juo p.st)
def jBd(s:Sch):Nat:=psz s.prf+s.act.length+s.pas.length
theorem jnh:∀{c:kg}{l:Lt},l∈c->tsz l.2<=lsz c
 |x::c,l,h=>by
  simp only[lsz];rcases List.mem_cons.1 h with rfl|h
  .omega
  .have:=jnh h;omega
theorem jiM:∀{l:List kg}{c:kg},c∈l->csz c<=js1 l
 |x::c,l,h=>by
  simp only[js1];rcases List.mem_cons.1 h with rfl|h
  .omega
  .have:=jiM h;omega
theorem jbk:∀{l:List Stp}{s:Stp},s∈l->ssz s<=juo l
 |x::c,l,h=>by
  simp only[juo];rcases List.mem_cons.1 h with rfl|h
  .omega
  .have:=jbk h;omega
theorem jwS(l:Lt)(hw:KZ l.2)(left:Int)(h0:0<=left)(h1:left<=1048576):G 44 [ltm l,vi left]=some (vi (kL left ((tsz l.2:Nat):Int)),[]):=by
 have e1:=jur l.2 hw left h0 h1;rw[g44];by_cases h:kL left ((tsz l.2:Nat):Int)<0
 .have:kL left ((tsz l.2:Nat):Int) = -1:=by have:=jeh left (tsz l.2:Nat);omega
  simp only[jg,e1,this]
 .simp only[jg,e1,h]
theorem jwc(l:Lt)(hw:KZ l.2):G 59 [ltm l,ltm l]=some (vb true,[]):=by
 have e1:=jtp l.2 hw;rw[g59];cases l.1<;>simp only[jg,e1]
theorem juq(l:List Lt)(hl:l.length<=9223372036854775807)(ih:∀t∈l,∀left:Int,0<=left->left<=1048576->G 44 [ltm t,vi left]=some (vi (kL left ((tsz t.2:Nat):Int)),[]))
  (left:Int) (h0:0<=left) (h1:left<=1048576):G 24 [.sl 3 (l.map jD),vi left]=some (vi (kL left ((l.length+lsz l:Nat):Int)),[]):=by
 have loop:∀(a:Int),0<=a->a<=1048576->jir (.sl 3 (l.map jD)) (vi a) (vi 0)=some (vi (kL a (lsz l)),[]):=by
  have key:=(upto (P:=λi=>∀a:Int,0<=a->a<=1048576->jir (.sl 3 (l.map jD)) (vi a) (vi i)=some (vi (kL a (lsz (l.drop i))),[])) (n:=l.length) ?_ ?_ 0 (Nat.zero_le _))
  .simp only[List.drop_zero,Int.natCast_zero]at key;exact key
  .intro b hb hb';rw[juV,List.drop_length];simp only[jg,lsz];rw[jei hb]
  .intro i hi ih' b hb hb';have e1:=ih l[i] (List.getElem_mem _) b hb hb';rw[juV,js hi];simp only[jg,hi,Int.ofNat_lt,jb hi,jbU,e1,jy hi hl,lsz];by_cases hc:b<(tsz l[i].2:Nat)
   .rw [qJ hc,qJ (by omega)];rfl
   .have hp:=jbK (Int.not_lt.1 hc);have ih':=ih' (kL b (tsz l[i].2:Nat)) (by omega) (by omega);have hn:¬kL b ((tsz l[i].2:Nat):Int)<0:=by omega
    simp only[jg,hn,ih'];rw[jga (Int.not_lt.1 hc),<-Int.natCast_add]
 have hk:=jk6 h0 (Int.le_trans h1 (by decide)) hl;rw[g24];simp only[jg,hk];by_cases hc:left-l.length<0
 .simp only[jg,hc];rw[qJ (by omega)]
 .have hl:=loop (left-l.length) (by omega) (by omega);simp only[jg,hc,hl];rw[YX,<-Int.natCast_add]
theorem jto(l:List Lt)(hl:l.length<=9223372036854775807)(ih:∀t∈l,G 59 [ltm t,ltm t]=some (vb true,[])):G 30 [.sl 3 (l.map jD),.sl 3 (l.map jD)]=some (vb true,[]):=by
 have key:=(upto (P:=λi=>jmn (.sl 3 (l.map jD)) (.sl 3 (l.map jD)) (vi i)=some (vb true,[])) (n:=l.length) ?_ ?_ 0 (Nat.zero_le _))
 .rw [g30];simp only[Int.natCast_zero]at key;simp only[jg,key]
 .rw [juW];simp only[jg]
 .intro i hi ih';have h5:=jy hi hl;have e1:=ih l[i] (List.getElem_mem _);rw[juW];simp only[jg,hi,Int.ofNat_lt,jb hi,jbU,e1,h5,ih']
theorem jwR(c:kg)(hw:cwf c)(left:Int)(h0:0<=left)(h1:left<=1048576):G 6 [cm c,vi left]=some (vi (kL left ((csz c:Nat):Int)),[]):=by
 have e1:G 24 [.sl 3 (c.map jD),vi left]=some (vi (kL left ((csz c:Nat):Int)),[]):=juq c hw.2 (λl hl=>jwS l (hw.1 l hl)) left h0 h1;rw[g6];by_cases h:kL left ((csz c:Nat):Int)<0
 .have:kL left ((csz c:Nat):Int) = -1:=by have:=jeh left (csz c:Nat);omega
  simp only[jg,e1,this]
 .simp only[jg,e1,h]
theorem jqf(c:kg)(hw:cwf c):G 10 [cm c,cm c]=some (vb true,[]):=by
 have e1:=jto c hw.2 λl hl=>jwc l (hw.1 l hl);rw[g10];simp only[jg,e1]
theorem jB1{left:Int}{m n:Nat}(h1:left<=1048576)(h:¬kL left (m:Int)<0):kL (kL left (m:Int)) (n:Int)=kL left ((m+n:Nat):Int)/\0<=kL left (m:Int)/\kL left (m:Int)<=1048576:=by
 have hm:(m:Int)<=left:=by
  refine Int.not_lt.1 λhc=>h ?_;rw[qJ hc];decide
 have:=jbK hm;refine⟨?_,by omega,by omega⟩;rw[jga hm,<-Int.natCast_add]
theorem jAx(d:kg)(h:zD d=true):G 71 [cm d]=some (cm (jzp d),[]):=by
 obtain⟨hc,_,_,_⟩:=Qv h;have e1:=joi d hc;have e2:=jjt 89 (by decide) d hc;rw[apart_eq h]at e2;rw[g71];simp only[jg,e1,e2]
theorem jpZ(c:kg)(hl:c.length<=1000):jkO (.sl 3 (c.map jD))=some (.top,[.sl 3 (c.map jD)]):=by
 have e1:jrR (.sl 3 (c.map jD))=some (c.map jD):=rfl;have f:jO c.length 48=true:=jaX (by omega);rw[jvO];cases c with
 |nil=>
  have f0:jO 0 48=true:=jaX (by omega);have hz:nz (zS [])=true:=rfl;have e1:jrR (.sl 3 [])=some []:=rfl;simp only[jg,e1,hz,f0,List.map_nil,jpR]
 |cons l r=>
  have hz:nz (zS (List.map jD (l::r)))=false:=rfl;generalize l::r=x at *;simp only[jg,e1,hz,f]
theorem jnX(c:kg)(hl:c.length<=1000)(i:Nat)(hi:i<c.length):jkN (vi (i:Nat)) (vi ((i+1:Nat):Int)) (c.map jD)=some (.top,[.sl 3 ((c.eraseIdx i).map jD)]):=by
 have e1:zS (c.map jD)=c.length:=zU jD c;have e2:kY (c.map jD) 0=c.length:=by rw[yk,List.length_map];rfl
 have hne:¬((i:Nat):Int)=((i+1:Nat):Int):=by omega
 have k1:pB 0 c.length (some (vi (c.length:Nat)))=some c.length:=yO (Nat.le_refl _);have k2:pB 0 c.length (some (vi ((i+1:Nat):Int)))=some (i+1):=yO (by omega);have k3:pB 0 (i+1) (some (vi (i:Nat)))=some i:=yO (by omega);have k4:pB c.length c.length (some (vi (i:Nat)))=some i:=yO (by omega);have k5:pB c.length c.length none=some c.length:=jbs (Nat.le_refl _);have w1:yi (c.map jD) (0+(i+1)) (j6 c.length (i+1))=(c.drop (i+1)).map jD:=by
  rw[jdg,yP,Nat.zero_add,<-List.map_drop,List.take_of_length_le (by rw[List.length_map,List.length_drop];omega)]
 have w2:zS ((c.drop (i+1)).map jD)=c.length-(i+1):=by rw[zU,List.length_drop]
 have rm:jjR 0 (j6 i 0) ((c.drop (i+1)).map jD) (c.map jD)=true:=by
  rw[jrO,yP];exact decide_eq_true (by rw[List.length_map,List.length_map,List.length_drop];omega)
 generalize hov:yd (c.map jD) (0+j6 i 0) ((c.drop (i+1)).map jD)=O at *;have hO:O=(c.eraseIdx i).map jD++(c.map jD).drop (c.length-1):=by
  rw[<-hov,ja4,yP,Nat.sub_zero,Nat.zero_add,List.eraseIdx_eq_take_drop_succ,List.map_append,List.map_take,List.length_map,List.length_drop];congr 2;omega
 have hOl:O.length=c.length:=by
  rw[hO,List.length_append,List.length_map,List.length_eraseIdx_of_lt hi,List.length_drop,List.length_map];omega
 have k6:pB (j6 i 0+(c.length-(i+1))) (kY O 0) (some (vi (c.length:Nat)))=some c.length:=by
  rw[yk,hOl];exact yO (by omega)
 have k7:pB 0 c.length (some (nA (j6 i 0+(c.length-(i+1)))))=some (c.length-1):=by
  rw[yP,show i-0+(c.length-(i+1))=c.length-1 by omega];exact yO (by omega)
 have fin:List.take (j6 i 0+(c.length-(i+1))) (yd O (0+(c.length-1)) (JM (j6 c.length (c.length-1)) [vb false,sv [],.sl 2 []]))=(c.eraseIdx i).map jD:=by
  have hlen:((c.eraseIdx i).map jD).length=c.length-1:=by rw[List.length_map,List.length_eraseIdx_of_lt hi]
  rw[yP,show i-0+(c.length-(i+1))=c.length-1 by omega,ja4,Nat.zero_add,List.append_assoc,List.take_append_of_le_length (by rw[List.length_take,hOl];omega),List.take_take,Nat.min_self,hO,List.take_append_of_le_length (by omega),List.take_of_length_le (by omega)]
 rw[jvN];simp only[cev];rw[e1,e2,jh2,List.length_map,k1,Option.bind_some,k2,Option.bind_some,k3,Option.bind_some,jjM,decide_eq_false hne,Option.bind_some,jaV,Option.bind_some,YP,k4,Option.bind_some,k5,Option.bind_some,k2,Option.bind_some,w1,rm,jiI,hov,w2,k6,Option.bind_some,k7,Option.bind_some,fin]
theorem jmj(c:kg)(hl:c.length<=1000)(i:Nat)(hi:i<c.length):G 58 [cm c,vi (i:Nat)]=some (.sl 3 ((c.eraseIdx i).map jD),[]):=by
 have e1:=jpZ c hl;have e2:=jnX c hl i hi;have r1:∀x:kg,hR 3 (A.top,[.sl 3 (x.map jD)]) 0=some (x.map jD):=λx=>rfl;have h5:=jy hi (by show c.length<=9223372036854775807;omega);rw[g58];simp only[jg,e1,r1,h5,e2]
theorem jkH(c:kg)(hl:c.length<=1000)(i:Nat)(hi:i<c.length):jpo (.sl 3 (c.map jD)) (vi (i:Nat))=some (.top,[.sl 3 ((c.eraseIdx i).map jD)]):=by
 have s1:yt 3 (.sl 3 (c.map jD)) none (some (vi (i:Nat)))=some (.sl 3 ((c.map jD).take i)):=Yr (by rw[List.length_map];omega)
 have s2:yt 3 (.sl 3 (c.map jD)) (some (vi ((i+1:Nat):Int))) none=some (.sl 3 ((c.map jD).drop (i+1))):=Yq (by rw[List.length_map];omega)
 have hck:ck ((i:Int)+1)=some (vi ((i+1:Nat):Int)):=jZ (by omega) (by omega);have f1:jO ((c.map jD).take i).length 48=true:=jaX (by rw[List.length_take,List.length_map];omega);have f2:jO (((c.map jD).take i).length+((c.map jD).drop (i+1)).length) 48=true:=jaX (by rw[List.length_take,List.length_drop,List.length_map];omega);have fin:j4 ((c.map jD).take i) ((c.map jD).drop (i+1))=(c.eraseIdx i).map jD:=by
  rw[List.eraseIdx_eq_take_drop_succ,List.map_append,List.map_take,List.map_drop];rfl
 rw[jxA];simp only[jg,s1,s2,hck,f1,f2,fin]
theorem jDC(n:Nat)(hn:n<=1000):jBV (vi (n:Nat))=some (.top,[.sl 3 []]):=by
 have h0:¬((n:Nat):Int)<0:=by omega
 have c1:ck (0-0)=some (vi 0):=jZ (n:=0-0) (by omega) (by omega);have c2:ck (((n:Nat):Int)-0)=some (vi (n:Nat)):=by rw[Int.sub_zero];exact jZ (by omega) (by omega)
 rw[jEf];by_cases hz:n=0
 .have hz':¬(0:Int)<((n:Nat):Int):=by omega
  simp only[jg,h0,c1,c2,hz']
 .have hz':(0:Int)<((n:Nat):Int):=by omega
  have k1:pB 0 0 (some (vi 0))=some 0:=rfl;have k2:=Y1 (b:=48) (n:=n) (by omega) (by omega);have k3:jO n 48=true:=jaX (by omega);have k4:∀X:Xc,pB (zS X) (kY X 0) (some (vi 0))=some 0:=λX=>yO (n:=0) (Nat.zero_le _);simp only[jg,h0,c1,c2,hz',k1,k2,k3,k4,yP];rfl
theorem jCA(ls:List kg)(hn:ls.length<=10)(hl:∀c∈ls,c.length<=50):jB8 (ls.map clc)=some (.top,[.sl 3 (ls.flatten.map jD)]):=by
 have r1:∀x:kg,hR 3 (A.top,[.sl 3 (x.map jD)]) 0=some (x.map jD):=λx=>rfl;have rp:∀i,(hi:i<ls.length)->jgh (ls.map clc) i 0=some (.sl 3 (ls[i].map jD)):=λi hi=>by unfold jgh;simp[hi]
 have hix:∀i,i<ls.length->ZB ls.length (vi (i:Nat))=some i:=λi hi=>zR hi;have hend:jsJ (vi (ls.length:Nat)) (vi 0) [] (ls.map clc)=some (.top,[.sl 3 (ls.flatten.map jD)]):=by
  have key:=upto (P:=λi=>∀R:kg,R.length<=50*i->R++(ls.drop i).flatten=ls.flatten->jsJ (vi (ls.length:Nat)) (vi (i:Nat)) (R.map jD) (ls.map clc)=some (.top,[.sl 3 (ls.flatten.map jD)])) (n:=ls.length) ?_ ?_ 0 (Nat.zero_le _) [] (Nat.zero_le _) (by rw[List.drop_zero];rfl)
  .exact key
  .intro R _ hR;rw[List.drop_length,List.flatten_nil,List.append_nil]at hR;rw[jCp,hR];simp only[jg]
  .intro i hi ih R hRl hR;have hlt:(i:Int)<((ls.length:Nat):Int):=by omega
   have hck:ck ((i:Int)+1)=some (vi ((i+1:Nat):Int)):=jZ (by omega) (by omega);have hc:=hl _ (List.getElem_mem hi);have hf:jO (R.length+ls[i].length) 48=true:=jaX (by omega);have ha:j4 (R.map jD) (ls[i].map jD)=(R++ls[i]).map jD:=by rw[List.map_append];rfl
   have:=ih (R++ls[i]) (by rw[List.length_append];omega) (by rw[List.append_assoc,<-List.flatten_cons,<-js hi];exact hR)
   rw[jCp];simp only[jg,hlt,hix i hi,rp i hi,hf,ha,hck,this]
 have key:=upto (P:=λi=>∀z:Nat,z<=50*i->jxM (vi (z:Nat)) (vi (ls.length:Nat)) (vi (i:Nat)) (ls.map clc)=some (.top,[.sl 3 (ls.flatten.map jD)])) (n:=ls.length) ?_ ?_ 0 (Nat.zero_le _) 0 (Nat.zero_le _)
 .rw [jEw,jh2,List.length_map];exact key
 .intro z hz;have e:=jDC z (by omega);have r0:hR 3 (A.top,[.sl 3 []]) 0=some []:=rfl;rw[jCo];simp only[jg,e,r0,hend]
 .intro i hi ih z hz;have hlt:(i:Int)<((ls.length:Nat):Int):=by omega
  have hck:ck ((i:Int)+1)=some (vi ((i+1:Nat):Int)):=jZ (by omega) (by omega);have hc:=hl _ (List.getElem_mem hi);have c1:ck ((z:Int)+((ls[i].length:Nat):Int))=some (vi ((z+ls[i].length:Nat):Int)):=jZ (by omega) (by omega);have hneg:¬((z+ls[i].length:Nat):Int)<0:=by omega
  have:=ih (z+ls[i].length) (by omega);rw[jCo];simp only[jg,hlt,hix i hi,rp i hi,c1,hneg,hck,this]
def LN(l:kg):Prop:=l.length<=40/\ ∀x∈l,Bx x.2/\nodes x.2<=100
theorem LN.app{s:ju}(hs:jB s=true){l:kg}(h:LN l):∀x∈l.map (λx=>(x.1,Go.Proofs.YtkkcepmpbackoaaGreatDoor.sub s x.2)),Bx x.2/\Tz x.2:=λx hx=>by
 obtain⟨y,hy,rfl⟩:=List.mem_map.1 hx;have hb:=(h.2 y hy).1;exact⟨hb.sub hs,K0.sub_tz hs hb.ax (by have:=(h.2 y hy).2;omega)⟩
theorem jfG{s:ju}{l c:kg}(h:KM s l=some c):CN c/\Asc cmpL c:=⟨(qp (jan h).1).1,(jan h).2⟩
theorem jpM(s:ju)(hs:jB s=true)(l:kg)(h:LN l):G 93 [sb s,.sl 3 (l.map jD)]=jbO (KM s l):=by
 have hl:=h.1;have happ:=h.app hs;have e1:=jbJ (l.map λx=>(x.1,sub s x.2)) (by rw[List.length_map];omega) λx hx=>(happ x hx).2;have e2:=YW (zi cmpL (l.map λx=>(x.1,sub s x.2))) (by have:=jbL cmpL (l.map λx=>(x.1,sub s x.2));rw[List.length_map]at this;omega) λx hx=>(happ x (jbM.1 hx)).2;generalize hd:l.map (λx=>(x.1,sub s x.2))=d at *;have hdl:d.length=l.length:=by rw[<-hd,List.length_map]
 have ld:∀l:Lt,kU (.elt (jD l) 0)=some (vb l.1):=λl=>rfl;have ad:∀(l:Lt)(n:Nat),Jk (.elt (jD l) 0) n=some (.elt (jD l) n):=λl n=>by rw[yN,Nat.zero_add]
 have ld2:∀l:Lt,jbr 2 (.elt (jD l) 1)=some (tm l.2):=λl=>rfl;have key:=upto (P:=λi=>jmC (.sl 3 (l.map jD)) (vi (i:Nat)) (JY s) ((d.take i).map jD) []=jbO (if((l.drop i).all λx=>jH (sub s x.2)) && zN (zi cmpL d)then some (zi cmpL d)else none)) (n:=l.length) ?_ ?_ 0 (Nat.zero_le _)
 .simp only[Int.natCast_zero,List.take_zero,List.map_nil,List.drop_zero]at key;unfold KM;rw[hd,<-key,g93];simp only[jg]
 .have hlt:¬((l.length:Nat):Int)<((l.length:Nat):Int):=by omega
  rw[jvf,List.take_of_length_le (by omega),List.drop_length,List.all_nil,Bool.true_and];cases hv:zN (zi cmpL d)<;>rw[hv]at e2
  .rw [if_neg Bool.false_ne_true];simp only[jg,e1,e2];rfl
  .rw [if_pos rfl];simp only[jg,e1,e2];rfl
 .intro i hi ih;have hi2:i<d.length:=by omega
  have hlt:(i:Int)<((l.length:Nat):Int):=by omega
  have h5:=jy hi (by show l.length<=9223372036854775807;omega)
  have hb:=h.2 _ (List.getElem_mem hi);have tz:=hb.1.tz (by omega);have tz2:=K0.sub_tz hs hb.1.ax (by omega);have e3:=QN s (zB hs).sz l[i].2 tz;have e4:=jf5 (sub s l[i].2) tz2.wf tz2;rw[(hb.1.sub hs).atom]at e4;have hdi:d[i]=(l[i].1,sub s l[i].2):=by simp only[<-hd,List.getElem_map]
  have ta:=Kl (f:=jD) hi2;have tl:=take_len (f:=jD) (Nat.le_of_lt hi2);have hf:jO (i+1) 48=true:=jaX (by omega);rw[hdi]at ta;rw[jvf,js hi,List.all_cons];cases hsm:jH (sub s l[i].2)<;>rw[hsm]at e4
  .rw [Bool.false_and,Bool.false_and,if_neg Bool.false_ne_true];simp only[jg,hlt,jb hi,ad,ld2,e3,e4];rfl
  .rw [Bool.true_and];generalize (d.take i).map jD=R at *;generalize sub s l[i].2=u at *;rw[<-ih];simp only[jg,hlt,jb hi,ad,ld,ld2,e3,e4,tl,hf,ta,h5]
theorem jhI(s:ju)(hs:jB s=true)(l:kg)(h:LN l):G 50 [sb s,.sl 3 (l.map jD)]=jbO (jfx s l):=by
 have e1:=jpM s hs l h;unfold jfx;rw[g50];cases ha:KM s l with
 |none=>
  rw[ha]at e1;have e1:G 93 [sb s,.sl 3 (l.map jD)]=some (.tup [cz,vb false],[]):=e1;simp only[jg,e1];rfl
 |some c=>
  rw[ha]at e1;have e1:G 93 [sb s,.sl 3 (l.map jD)]=some (.tup [cm c,vb true],[]):=e1;obtain⟨hc,hasc⟩:=jfG ha;have e2:=jjs c hc hasc;have e3:=KS (normC c) hc.normC;rw[Option.bind_some];unfold zD;cases hv:zN (normC c)<;>rw[hv]at e2
  .rw [Bool.false_and,if_neg Bool.false_ne_true];simp only[jg,e1,e2];rfl
  .rw [Bool.true_and];cases hn:qY (normC c)<;>rw[hn]at e3
   .rw [if_neg Bool.false_ne_true];simp only[jg,e1,e2,e3];rfl
   .rw [if_pos rfl];simp only[jg,e1,e2,e3];rfl
theorem jon(r:Option kg):∃(c:kg)(b:Bool),jbO r=some (.tup [cm c,vb b],[]):=by
 cases r with
 |none=>exact⟨[],false,rfl⟩
 |some c=>exact⟨c,true,rfl⟩
theorem joo(r:Option ju):∃(u:ju)(b:Bool),zE r=some (.tup [sb u,vb b],[])/\(b=true->r=some u)/\(b=false->r=none):=by
 cases r with
 |none=>exact⟨[],false,rfl,(λh=>by cases h),λ_=>rfl⟩
 |some u=>exact⟨u,true,rfl,(λ_=>rfl),λh=>by cases h⟩
def jBk(f g:FuncId)(args:Xd):Prop:=∃r:Option kg,G f args=jbO r/\G g args=jbO r/\ ∀x,r=some x->zD x=true
def jqp(c:kg)(i:Int):Bool:=ZW 0 (((c.length:Nat):Int)-1) i
theorem jn3{c:kg}{i:Int}(h:jqp c i=true):∃k:Nat,i=(k:Int)/\k<c.length:=by
 unfold jqp ZW at h;rw[Bool.and_eq_true,decide_eq_true_eq,decide_eq_true_eq]at h;exact⟨i.toNat,by omega,by omega⟩
theorem jfr(c:kg)(hl:c.length<=1000)(i:Int):G 55 [cm c,vi i]=some (vb (jqp c i),[]):=by
 have c1:ck (((c.length:Nat):Int)-1)=some (vi (((c.length:Nat):Int)-1)):=jZ (by omega) (by omega);have e:=Zk i 0 (((c.length:Nat):Int)-1);rw[g55];simp only[jg,c1,e];rfl
theorem LN.erase{c:kg}(h:CN c)(i:Nat):LN (c.eraseIdx i):=⟨by have:=List.length_eraseIdx_le c i;have:=h.1;omega,λx hx=>by
 have:=h.2 x (List.mem_of_mem_eraseIdx hx);exact⟨this.1,by omega⟩⟩
theorem LN.append{a b:kg}(ha:CN a)(hb:CN b)(i k:Nat):LN (a.eraseIdx i++b.eraseIdx k):=⟨by
 have:=List.length_eraseIdx_le a i;have:=List.length_eraseIdx_le b k;have:=ha.1;have:=hb.1;rw[List.length_append];omega,λx hx=>by
 rcases List.mem_append.1 hx with hx|hx
 .exact (LN.erase ha i).2 x hx
 .exact (LN.erase hb k).2 x hx⟩
theorem ldT(l:Lt):jbr 2 (.elt (jD l) 1)=some (tm l.2):=rfl
theorem hRl(x:kg):hR 3 (A.top,[.sl 3 (x.map jD)]) 0=some (x.map jD):=rfl
theorem ldA(l:Lt):kU (.elt (jD l) 2)=some (jS l.2.args):=rfl
theorem jiU(l:Lt)(b:Bool):G 48 [ltm l,vb b]=some (vb (decide (l.1=b) && decide (l.2.name=[61])),[]):=by
 rw[g48];by_cases h:l.1=b
 .rw [decide_eq_true h,Bool.true_and];simp only[jg,h]
 .rw [decide_eq_false h,Bool.false_and];simp only[jg,h]
theorem jqh{t:T}(hb:Bx t)(he:t.name=[61])(hn:nodes t<=30):t.args.length=2/\qb (QA t)=true/\qb (jbD t)=true/\nodes (QA t)<=30/\nodes (jbD t)<=30/\jz 2 (jS t.args) (vi 0)=some (.elt (jm (QA t)) 0)/\jz 2 (jS t.args) (vi 1)=some (.elt (jm (jbD t)) 0):=by
 rcases hb with hb|hb
 rotate_left
 .rw [he]at hb;exact absurd hb.1 (by decide)
 obtain⟨f1,f2,f3,f4⟩:=K3 hb.2.1;have g1:=Zb f3;have g2:=Zb f4;exact⟨hb.2.1,hb.2.2 _ f3,hb.2.2 _ f4,by omega,by omega,f1,f2⟩
theorem jiO(c:kg)(hl:c.length<=1000)(hz:∀x∈c,Tz x.2):jkP (.sl 3 (c.map jD))=some (.top,[.sl 67 (c.map jD)]):=by
 have key:=upto (P:=λi=>jab (.sl 3 (c.map jD)) (vi (c.length:Nat)) (vi (i:Nat)) [] ((c.take i).map jD)=some (.top,[.sl 67 (c.map jD)])) (n:=c.length) ?_ ?_ 0 (Nat.zero_le _)
 .simp only[Int.natCast_zero,List.take_zero,List.map_nil]at key;rw[jvQ];simp only[jg,key]
 .have nlt:¬((c.length:Nat):Int)<((c.length:Nat):Int):=by omega
  rw[jjl,List.take_length];simp only[jg,nlt]
 .intro i hi ih;have hlt:(i:Int)<((c.length:Nat):Int):=by omega
  have e1:=jdM c[i] (hz _ (List.getElem_mem _));have ta:=Kl (f:=jD) hi;have tl:=take_len (f:=jD) (Nat.le_of_lt hi);have hf:jO (i+1) 48=true:=jaX (by omega);have ix:=jb (k:=3) (f:=jD) hi;have hck:ck ((i:Int)+1)=some (vi ((i+1:Nat):Int)):=jZ (by omega) (by omega);generalize (c.take i).map jD=R at *;generalize c[i]=l at *;have y1:jbr 3 (.elt (jD l) 0)=some (.agg (jD l)):=rfl;rw[jjl];simp only[jg,hlt,ix,y1,e1,List.getElem?_cons_zero,List.getElem?_cons_succ,Jj,Yd,tl,hf,ta,hck,ih]
theorem jr8{k:Nat}{xs ys:Xc}{cs:Xi}(h:ZS k xs cs=some (.top,[.sl k ys])):∃sel,YC xs cs=some sel/\yX xs sel=ys:=by
 cases hs:YC xs cs with
 |some sel=>
  have:=(je2 hs).2.2 k;rw[this]at h;simp only[Option.some.injEq,Prod.mk.injEq,List.cons.injEq,A.sl.injEq,and_true,true_and]at h;exact⟨sel,rfl,h⟩
 |none=>
  cases xs with
  |nil=>cases hs
  |cons x r=>
   simp only[YC,je1]at hs;split at hs
   .cases hs
   .rename_i hc;unfold ZS at h;simp only at h;rw[if_neg hc]at h;cases h
theorem jbY{α β:Type}(enc:α->Xd)(l:List α)(g:Xd->Xd->β):((l.map enc).flatMap λx=>(l.map enc).map λy=>g x y)=(l.flatMap λx=>l.map λy=>(x,y)).map λq=>g (enc q.1) (enc q.2):=by
 rw[List.flatMap_map,List.map_flatMap];refine congrArg (λh=>l.flatMap h) (funext λx=>?_);rw[List.map_map,List.map_map];rfl
theorem jbV{α β:Type}(l:List α)(g:α->α->β):((l.flatMap λx=>l.map λy=>(x,y)).map λq=>g q.1 q.2)=l.flatMap λx=>l.map λy=>g x y:=by
 rw[List.map_flatMap];refine congrArg (λh=>l.flatMap h) (funext λx=>?_);rw[List.map_map];rfl
theorem jn1{α γ:Type}{c:γ->γ->Int}(hc:Law3 c)(f:α->γ)(enc:α->Xd)(k:Nat)(g:FuncId)(hp:K.pureF g=true)(f0:Bool)(l:List α)(hf0:f0=false\/l=[])(hl:l.length<4611686018427387904)(h:∀x∈l,∀y∈l,G g [.agg (enc x),.agg (enc y)]=some (vi (c (f x) (f y)),[])):∃s:List α,s.Perm l/\s.Pairwise (λa b=>¬c (f b) (f a)<0)/\extRun K (MM K) (sfT k) [V.row 0,V.fn g []] [.tre f0 k (l.map enc)]=some (.top,[.sl (k+64) (s.map enc)]):=by
 obtain⟨s,h1,h2,h3⟩:=jbf hc f enc k l hl;obtain⟨sel,h4,h5⟩:=jr8 h3;refine⟨s,h1,h2,?_⟩;have hq:jfk [V.row 0,V.fn g []] [.tre f0 k (l.map enc)]=some ((l.flatMap λx=>l.map λy=>(x,y)).map λq=>(g,[A.agg (enc q.1),A.agg (enc q.2)])):=congrArg some (jbY enc l λx y=>(g,[A.agg x,A.agg y]));have ha:=QB (λq:α×α=>(g,[A.agg (enc q.1),A.agg (enc q.2)])) (λq=>c (f q.1) (f q.2)) (l.flatMap λx=>l.map λy=>(x,y)) λq hq=>by
  obtain⟨x,hx,hq⟩:=List.mem_flatMap.1 hq;obtain⟨y,hy,rfl⟩:=List.mem_map.1 hq;exact⟨hp,h x hx y hy⟩
 have ho:=jbR (λq:α×α=>c (f q.1) (f q.2)) (l.flatMap λx=>l.map λy=>(x,y));rw[jbV l λx y=>c (f x) (f y)]at ho;show(jfk [V.row 0,V.fn g []] [.tre f0 k (l.map enc)]).bind _=_;rw[hq,Option.bind_some,ha,Option.bind_some];show(if(Nat.beq k k && (!f0 || (l.map enc).isEmpty))=true then(Qw _).bind λcs=>(YC (l.map enc) cs).map λsel=>(A.top,[A.sl (k+64) (yX (l.map enc) sel)])else none)=_;have hcond:(Nat.beq k k && (!f0 || (l.map enc).isEmpty))=true:=by
  rw[Nat.beq_refl,Bool.true_and];rcases hf0 with rfl|rfl
  .rfl
  .cases f0<;>rfl
 rw[if_pos hcond,ho,Option.bind_some,h4,Option.map_some,h5]
theorem jyz(f0:Bool)(l:List Lt)(hf0:f0=false\/l=[])(hl:l.length<=1000000)(hk:∀x∈l,Rx' x.2)(hz:∀x∈l,Tz x.2):∃s:List Lt,s.Perm l/\s.Pairwise (λa b=>¬cmpL b a<0)/\extRun K (MM K) (sfT 3) [V.row 0,V.fn 96 []] [.tre f0 3 (l.map jD)]=some (.top,[.sl 67 (s.map jD)]):=
 jn1 qe id jD 3 96 rfl f0 l hf0 (by omega) λx hx y hy=>Kb x y (hk x hx) (hz x hx) (hk y hy) (hz y hy)
theorem jch{β:Type}(f:β->FuncId×Xd)(r:β->A):∀qs:List β,(∀b∈qs,K.pureF (f b).1=true/\G (f b).1 (f b).2=some (r b,[]))->askAll K (MM K) (qs.map f)=some (qs.map λb=>(r b,[]))
 | [],_=>rfl
 |b::qs,h=>by
  have ih:=jch f r qs λb' hb=>h b' (by simp[hb]);obtain⟨h1,h2⟩:=h b (by simp);rw[List.map_cons,List.map_cons];show(if K.pureF (f b).1 then(MM K (.call (f b).1 (f b).2)).bind λo=>(askAll K (MM K) (qs.map f)).bind λos=>some (o::os)else none)=_;have h2:MM K (.call (f b).1 (f b).2)=some (r b,[]):=h2;rw[h1,if_pos rfl,h2,ih];rfl
theorem jmQ:∀(l:List Lt)(p:Lt),cpR eqL p l=cpG p l
 | [],_=>rfl
 |b::l,p=>by rw[cpR,cpG,jmQ l b]
theorem jp1:∀l:List Lt,cpA eqL l=Ql eqL l
 | []=>rfl
 |a::l=>by rw[jiP,cpA,jmQ]
theorem jnV(s:List Lt):jfM (s.map jD)=true:=by
 cases s with
 |nil=>rfl
 |cons a s=>
  refine List.all_eq_true.2 λy hy=>?_;obtain⟨b,_,rfl⟩:=List.mem_map.1 hy;exact decide_eq_true rfl
open Classical in
theorem jxK(s:List Lt)(hl:s.length<=1000000)(hz:∀x∈s,Tz x.2):extRun K (MM K) (cfT 3 164) [V.row 0,V.fn 164 []] [.tre true 3 (s.map jD)]=some (.top,[.sl 67 ((Ql eqL s).map jD)]):=by
 have hq:jfk [V.row 0,V.fn 164 []] [.tre true 3 (s.map jD)]=some ((s.flatMap λx=>s.map λy=>(x,y)).map λq=>(164,[A.agg (jD q.1),A.agg (jD q.2)])):=congrArg some (jbY jD s λx y=>(164,[A.agg x,A.agg y]));have ha:=jch (λq:Lt×Lt=>(164,[A.agg (jD q.1),A.agg (jD q.2)])) (λq=>vb (eqL q.1 q.2)) (s.flatMap λx=>s.map λy=>(x,y)) λq hq=>by
  obtain⟨x,hx,hq⟩:=List.mem_flatMap.1 hq;obtain⟨y,hy,rfl⟩:=List.mem_map.1 hq;exact⟨rfl,Yz x y (hz x hx) (hz y hy)⟩
 rw[jbV s λx y=>((vb (eqL x y),[]):Out)]at ha;show(jfk [V.row 0,V.fn 164 []] [.tre true 3 (s.map jD)]).bind _=_;rw[hq,Option.bind_some,ha,Option.bind_some];have hex:∃q:Xd->Xd->Bool,(s.flatMap λx=>s.map λy=>((vb (eqL x y),[]):Out))=(s.map jD).flatMap λx=>(s.map jD).map λy=>((.val (.bool (q x y)),[]):Out):=by
  refine⟨λa b=>decide (G 164 [.agg a,.agg b]=some (vb true,[])),?_⟩;rw[jbY jD s λx y=>((A.val (.bool (decide (G 164 [.agg x,.agg y]=some (vb true,[])))),[]):Out),<-jbV s λx y=>((vb (eqL x y),[]):Out)];refine List.map_congr_left λq hq=>?_;obtain⟨x,hx,hq⟩:=List.mem_flatMap.1 hq;obtain⟨y,hy,rfl⟩:=List.mem_map.1 hq;have e:=Yz x y (hz x hx) (hz y hy);have e:G 164 [.agg (jD x),.agg (jD y)]=some (vb (eqL x y),[]):=e;show(vb (eqL x y),[])=(A.val (.bool (decide (G 164 [.agg (jD x),.agg (jD y)]=some (vb true,[])))),[]);rw[e];cases eqL x y
  .rw [decide_eq_false (by intro h;cases h)]
  .rw [decide_eq_true rfl]
 have hcond:((164:Nat)=164/\(3:Nat)=3)/\jfM (s.map jD)=true/\(s.map jD).length<=1000000/\ ∃q:Xd->Xd->Bool,(s.flatMap λx=>s.map λy=>((vb (eqL x y),[]):Out))=(s.map jD).flatMap λx=>(s.map jD).map λy=>((.val (.bool (q x y)),[]):Out):=⟨⟨rfl,rfl⟩,jnV s,by rw[List.length_map];exact hl,hex⟩
 show(if h:((164:Nat)=164/\(3:Nat)=3)/\jfM (s.map jD)=true/\(s.map jD).length<=1000000/\ ∃q:Xd->Xd->Bool,(s.flatMap λx=>s.map λy=>((vb (eqL x y),[]):Out))=(s.map jD).flatMap λx=>(s.map jD).map λy=>((.val (.bool (q x y)),[]):Out)then some (A.top,[A.sl (3+64) (cpA h.2.2.2.choose (s.map jD))])else none)=_;rw[dif_pos hcond];have hsp:=hcond.2.2.2.choose_spec;generalize hcond.2.2.2.choose=q at hsp⊢;have hqe:∀x∈s,∀y∈s,q (jD x) (jD y)=eqL x y:=λx hx y hy=>by
  obtain⟨i,hi⟩:=List.mem_iff_getElem?.1 hx;obtain⟨j,hj⟩:=List.mem_iff_getElem?.1 hy;have e1:=qP (λx y=>((vb (eqL x y),[]):Out)) s s i j x y hi hj;have e2:=qP (λx y=>((A.val (.bool (q x y)),[]):Out)) (s.map jD) (s.map jD) i j (jD x) (jD y) (by rw[List.getElem?_map,hi];rfl) (by rw[List.getElem?_map,hj];rfl);rw[hsp]at e1;rw[List.length_map]at e2;rw[e1]at e2;simp only[Option.some.injEq,Prod.mk.injEq,A.val.injEq,Value.bool.injEq,and_true]at e2;exact e2.symm
 rw[jda,jfQ s hqe,jp1]
theorem jd0(x:kg):hR 67 (A.top,[.sl 67 (x.map jD)]) 0=some (x.map jD):=rfl
theorem jxP(f0:Bool)(l:List Lt)(hf0:f0=false\/l=[])(hl:l.length<=1000000)(hk:∀x∈l,Rx' x.2)(hz:∀x∈l,Tz x.2):∃s:List Lt,extRun K (MM K) (sfT 3) [V.row 0,V.fn 96 []] [.tre f0 3 (l.map jD)]=some (.top,[.sl 67 (s.map jD)])/\jgX (s.map jD)=some (.top,[.sl 67 ((zi cmpL l).map jD)]):=by
 obtain⟨s,h1,h2,h3⟩:=jyz f0 l hf0 hl hk hz;have h4:=jxK s (by rw[h1.length_eq];exact hl) λx hx=>hz x (h1.mem_iff.1 hx);rw[jtI qe jax h2 λx=>h1.mem_iff]at h4;exact⟨s,h3,by rw[jv0];exact h4⟩
theorem jk7(l:List Lt)(hl:l.length<=1000000)(hk:∀x∈l,Rx' x.2)(hz:∀x∈l,Tz x.2)(R0:Xc):∀i,i<=l.length->jaa (.sl 3 (l.map jD)) (vi (l.length:Nat)) (vi (i:Nat)) R0 ((l.take i).map jD)=some (.top,[.sl 67 ((zi cmpL l).map jD)]):=by
 obtain⟨s,h3,h4⟩:=jxP false l (Or.inl rfl) hl hk hz;have h3:jkT (l.map jD)=some (.top,[.sl 67 (s.map jD)]):=by rw[jvZ];exact h3
 refine upto (P:=λi=>jaa (.sl 3 (l.map jD)) (vi (l.length:Nat)) (vi (i:Nat)) R0 ((l.take i).map jD)=some (.top,[.sl 67 ((zi cmpL l).map jD)])) ?_ ?_
 .have nlt:¬((l.length:Nat):Int)<((l.length:Nat):Int):=by omega
  rw[jjk,List.take_length];simp only[jg,nlt,h3,jd0,h4]
 .intro i hi ih;have hlt:(i:Int)<((l.length:Nat):Int):=by omega
  have e1:=jdM l[i] (hz _ (List.getElem_mem _));have ta:=Kl (f:=jD) hi;have tl:=take_len (f:=jD) (Nat.le_of_lt hi);have hf:jO (i+1) 48=true:=jaX (by omega);have ix:=jb (k:=3) (f:=jD) hi;have hck:ck ((i:Int)+1)=some (vi ((i+1:Nat):Int)):=jZ (by omega) (by omega);generalize (l.take i).map jD=R at *;generalize l[i]=x at *;have y1:jbr 3 (.elt (jD x) 0)=some (.agg (jD x)):=rfl;rw[jjk];simp only[jg,hlt,ix,y1,e1,List.getElem?_cons_zero,List.getElem?_cons_succ,Jj,Yd,tl,hf,ta,hck,ih]
theorem jfL(l:List Lt)(hl:l.length<=1000000)(hk:∀x∈l,Rx' x.2)(hz:∀x∈l,Tz x.2):jgS (.sl 3 (l.map jD))=some (.top,[.sl 67 ((zi cmpL l).map jD)]):=by
 rw[jvP];by_cases h0:l.length=0
 .have hnil:l=[]:=List.eq_nil_of_length_eq_zero h0;obtain⟨s,h3,h4⟩:=jxP true l (Or.inr hnil) hl hk hz;have h3:jkS (l.map jD)=some (.top,[.sl 67 (s.map jD)]):=by rw[jvY];exact h3
  subst hnil;have nlt:¬(0:Int)<((0:Nat):Int):=by omega
  have nlt':¬(0:Int)<0:=by omega
  rw[List.map_nil]at h3⊢;have key:Q9 (.sl 3 []) (vi ((0:Nat):Int)) (vi 0) [] []=some (.top,[.sl 67 ((zi cmpL []).map jD)]):=by
   rw[jjj];simp only[jg,nlt,nlt',h3,jd0,h4]
  simp only[jg,key]
 .have hi:0<l.length:=by omega
  have hlt:(0:Int)<((l.length:Nat):Int):=by omega
  have e1:=jdM l[0] (hz _ (List.getElem_mem _));have hf:jO (0+1) 48=true:=jaX (by omega);have ix:=jb (k:=3) (f:=jD) hi;have ta:=Kl (f:=jD) hi;rw[List.take_zero,List.map_nil]at ta;simp only[Int.natCast_zero]at ix;have hck:ck (0+1)=some (vi ((0+1:Nat):Int)):=jZ (by omega) (by omega);have k1:=jk7 l hl hk hz [] (0+1) (by omega);have key:Q9 (.sl 3 (l.map jD)) (vi (l.length:Nat)) (vi 0) [] []=some (.top,[.sl 67 ((zi cmpL l).map jD)]):=by
   generalize (l.take (0+1)).map jD=R at *;generalize l[0]=x at *;have y1:jbr 3 (.elt (jD x) 0)=some (.agg (jD x)):=rfl;rw[jjj];simp only[Nat.zero_add]at hf hck k1;simp only[jg,hlt,ix,y1,e1,List.getElem?_cons_zero,List.getElem?_cons_succ,Jj,Yd,hf,ta,hck,k1]
  simp only[jg,key]
theorem jlR(p:UInt8)(c:kg)(h:CN c)(ns:Xa)(hn:∀n∈ns,jr n=true)(hr:∀x∈c.map (λl=>(l.1,kN (kG p ns) l.2)),Rx' x.2/\Tz x.2):jgT (cm c) (.mp ((KB p 0 ns).map kn))=some (.top,[.sl 67 ((zi cmpL (c.map λl=>(l.1,kN (kG p ns) l.2))).map jD)]):=by
 have h8:=h.1;have e3:=jfL (c.map λl=>(l.1,kN (kG p ns) l.2)) (by rw[List.length_map];omega) (λx hx=>(hr x hx).1) λx hx=>(hr x hx).2;generalize hd:c.map (λl=>(l.1,kN (kG p ns) l.2))=d at *;have hdl:d.length=c.length:=by rw[<-hd,List.length_map]
 have key:=upto (P:=λi=>jac (.mp ((KB p 0 ns).map kn)) (.sl 3 (c.map jD)) (vi (c.length:Nat)) (vi (i:Nat)) ((d.take i).map jD) []=some (.top,[.sl 67 ((zi cmpL d).map jD)])) (n:=c.length) ?_ ?_ 0 (Nat.zero_le _)
 .simp only[Int.natCast_zero,List.take_zero,List.map_nil]at key;rw[jvR];simp only[jg,key]
 .rw [jjm,<-hdl,List.take_length];simp only[jg,e3,jd0]
 .intro i hi ih;have hi2:i<d.length:=by omega
  have hlt:(i:Int)<((c.length:Nat):Int):=by omega
  have h5:=jy hi (by show c.length<=9223372036854775807;omega)
  have e1:=jkc p ns hn c[i].2 (h.rx _ (List.getElem_mem _)) (h.tz _ (List.getElem_mem _));have hdi:d[i]=(c[i].1,kN (kG p ns) c[i].2):=by simp only[<-hd,List.getElem_map]
  have ta:=Kl (f:=jD) hi2;have tl:=take_len (f:=jD) (Nat.le_of_lt hi2);have hf:jO (i+1) 48=true:=jaX (by omega);rw[hdi]at ta;generalize (d.take i).map jD=R at *;generalize kN (kG p ns) c[i].2=u at *;rw[jjm];simp only[jg,hlt,jb hi,zy,e1];generalize hB:zk _ _ _=B;have hB':B=some (ltm (c[i].1,u)):=by rw[<-hB];kernel_rfl
  rw[hB'];have hck:ck ((i:Int)+1)=some (vi ((i+1:Nat):Int)):=jZ (by omega) (by omega);simp only[jg,tl,hf,ta,hck,ih]
theorem Yw(p:UInt8)(hp:upc p=true)(c:kg)(h:CN c):jgT (cm c) (.mp ((KB p 0 (kh c)).map kn))=some (.top,[.sl 67 ((renC p c).map jD)]):=jlR p c h (kh c) (λn=>jlA) (h.ren_tz hp)
theorem jiY(l:Xa):jaB (l.map cs)=true:=by
 induction l with
 |nil=>rfl
 |cons a l ih=>rw[List.map_cons];exact ih
theorem jrs(c:kg)(h:CN c):jpr (cm c)=some (.top,[.sl 1 ((kh c).map cs)]):=by
 have hl:c.length<=1000:=by have:=h.1;omega
 have key:=upto (P:=λi=>∀l:Xa,l.length<=1000*i->jaj (.sl 3 (c.map jD)) (vi (c.length:Nat)) (vi (i:Nat)) (l.map cs)=some (.top,[.sl 1 (((c.drop i).foldl (λl x=>qv l x.2) l).map cs)])) (n:=c.length) ?_ ?_ 0 (Nat.zero_le _)
 .have key:=key [] (by simp);rw[List.drop_zero]at key;have key:jaj (.sl 3 (c.map jD)) (vi (c.length:Nat)) (vi 0) []=some (.top,[.sl 1 ((kh c).map cs)]):=key;rw[jxE];simp only[jg,key]
 .intro l _;rw[jnf,List.drop_length];simp only[jg];rfl
 .intro i hi ih l hll;have hlt:(i:Int)<((c.length:Nat):Int):=by omega
  have h5:=jy hi (by show c.length<=9223372036854775807;omega)
  have ix:=jb (k:=3) (f:=jD) hi;have hn:=(h.2 _ (List.getElem_mem hi)).2;have q:=jcm c[i].2 (h.rx _ (List.getElem_mem hi)) (h.tz _ (List.getElem_mem hi)) l (by omega);have hol:=Y0 c[i].2 l;have q2:=ih (qv l c[i].2) (by omega);rw[jnf,js hi,List.foldl_cons];generalize qv l c[i].2=l' at *;have hr:hR 1 (A.top,[.sl 1 (l'.map cs)]) 0=some (l'.map cs):=rfl;simp only[jg,hlt,ix,zy,q,hr,h5,q2]
theorem jru:∀(k i:Nat),k+i=10-> ∀(c:kg)(R0:Xc),CN c->jhk (vi (i:Nat)) R0 (c.map jD)=some (.top,[.sl 67 ((normF k c).map jD)])
 |0,i,hk,c,R0,h=>by
  have hi:((i:Nat):Int)=10:=by omega
  rw[jne,normF,hi];simp only[jg]
 |k+1,i,hk,c,R0,h=>by
  have hlt:((i:Nat):Int)<10:=by omega
  have e1:=Ju c h;have fb:∀b:Bool,fin true (vb b,[])=some (vb b):=λb=>rfl;rw[jne,normF];cases hn:qY c<;>rw[hn]at e1
  .have hl:=qL h;have e2:=jrs c h;have fr:=jiY (kh c);have hr:hR 1 (A.top,[.sl 1 ((kh c).map cs)]) 0=some ((kh c).map cs):=rfl;have e3:=jcN 88 (kh c) (jaQ c) (by omega);have e4:=Yw 88 (by decide) c h;have hck:ck ((i:Int)+1)=some (vi ((i+1:Nat):Int)):=jZ (by omega) (by omega);have ih:=jru k (i+1) (by omega) (renC 88 c) R0 (h.renC (by decide));rw[if_neg Bool.false_ne_true];simp only[jg,hlt,e1,fb,e2,fr,hr,e3,e4,jd0,hck,ih]
  .rw [if_pos rfl];simp only[jg,hlt,e1,fb]
theorem jlE(c:kg)(h:CN c):jpq (cm c)=some (.top,[.sl 67 ((normC c).map jD)]):=by
 have e0:=jiO c (by have:=h.1;omega) h.tz
 have e1:=Ju c h;have fb:∀b:Bool,fin true (vb b,[])=some (vb b):=λb=>rfl;have key:jhj (vi 0) (c.map jD) []=some (.top,[.sl 67 ((normF 10 c).map jD)]):=by
  have hlt:(0:Int)<10:=by omega
  rw[jtG,normF];cases hn:qY c<;>rw[hn]at e1
  .have hl:=qL h;have e2:=jrs c h;have fr:=jiY (kh c);have hr:hR 1 (A.top,[.sl 1 ((kh c).map cs)]) 0=some ((kh c).map cs):=rfl;have e3:=jcN 88 (kh c) (jaQ c) (by omega);have e4:=Yw 88 (by decide) c h;have hck:ck (0+1)=some (vi ((0+1:Nat):Int)):=jZ (by omega) (by omega);have ih:=jru 9 (0+1) (by omega) (renC 88 c) [] (h.renC (by decide));rw[if_neg Bool.false_ne_true];simp only[Nat.zero_add]at hck ih;simp only[jg,hlt,e1,fb,e2,fr,hr,e3,e4,jd0,hck,ih]
  .rw [if_pos rfl];simp only[jg,hlt,e1,fb]
 rw[jxD];simp only[jg,e0,jd0,key];rfl
def jtU(r:Option kg):Xe:=match r with|some c=>some (.top,[vb true,.sl 67 (c.map jD)])|none=>some (.top,[vb false,.sl 67 []])
theorem jbP(r:Option kg):∃(c:kg)(b:Bool),jbO r=some (.tup [cm c,vb b],[])/\jtU r=some (.top,[vb b,.sl 67 (c.map jD)])/\(b=true->r=some c)/\(b=false->c=[]):=by
 cases r with
 |none=>
  refine⟨[],false,rfl,rfl,?_,?_⟩
  .intro h;cases h
  .intro _;rfl
 |some c=>
  refine⟨c,true,rfl,rfl,?_,?_⟩
  .intro _;rfl
  .intro h;cases h
theorem jpL(s:ju)(hs:jB s=true)(l:kg)(h:LN l):G 69 [sb s,.sl 3 (l.map jD)]=jbO (KM s l):=by
 have hl:=h.1;have happ:=h.app hs;have e1:=jfL (l.map λx=>(x.1,sub s x.2)) (by rw[List.length_map];omega) (λx hx=>(happ x hx).1.rx) λx hx=>(happ x hx).2;have e2:=ji6 (zi cmpL (l.map λx=>(x.1,sub s x.2))) (by have:=jbL cmpL (l.map λx=>(x.1,sub s x.2));rw[List.length_map]at this;omega) λx hx=>(happ x (jbM.1 hx)).2;generalize hd:l.map (λx=>(x.1,sub s x.2))=d at *;have hdl:d.length=l.length:=by rw[<-hd,List.length_map]
 have key:=upto (P:=λi=>jmz (.sl 3 (l.map jD)) (vi (l.length:Nat)) (vi (i:Nat)) (JY s) ((d.take i).map jD) []=jbO (if((l.drop i).all λx=>jH (sub s x.2)) && zN (zi cmpL d)then some (zi cmpL d)else none)) (n:=l.length) ?_ ?_ 0 (Nat.zero_le _)
 .simp only[Int.natCast_zero,List.take_zero,List.map_nil,List.drop_zero]at key;unfold KM;rw[hd,<-key,g69];simp only[jg]
 .rw [jva,<-hdl,List.take_length,hdl,List.drop_length,List.all_nil,Bool.true_and];rw[<-hdl];cases hv:zN (zi cmpL d)<;>rw[hv]at e2
  .rw [if_neg Bool.false_ne_true]at e2⊢;have e2:G 114 [cm (zi cmpL d)]=some (.tup [cz,vb false],[]):=e2;simp only[jg,e1,jd0,e2];rfl
  .rw [if_pos rfl]at e2⊢;have e2:G 114 [cm (zi cmpL d)]=some (.tup [cm (zi cmpL d),vb true],[]):=e2;simp only[jg,e1,jd0,e2];rfl
 .intro i hi ih;have hi2:i<d.length:=by omega
  have hlt:(i:Int)<((l.length:Nat):Int):=by omega
  have h5:=jy hi (by show l.length<=9223372036854775807;omega)
  have hb:=h.2 _ (List.getElem_mem hi);have e3:=Jd s hs l[i].2 hb.1.ax (by omega);have hdi:d[i]=(l[i].1,sub s l[i].2):=by simp only[<-hd,List.getElem_map]
  have ta:=Kl (f:=jD) hi2;have tl:=take_len (f:=jD) (Nat.le_of_lt hi2);have hf:jO (i+1) 48=true:=jaX (by omega);rw[hdi]at ta;rw[jva,js hi,List.all_cons];cases hsm:jH (sub s l[i].2)<;>rw[hsm]at e3
  .rw [Bool.false_and,Bool.false_and,if_neg Bool.false_ne_true];have e3:G 82 [sb s,tm l[i].2]=some (.tup [.agg [sv [],.sl 2 []],vb false],[]):=e3;simp only[jg,hlt,jb hi,zy,e3];rfl
  .rw [Bool.true_and];have e3:G 82 [sb s,tm l[i].2]=some (.tup [tm (sub s l[i].2),vb true],[]):=e3;generalize (d.take i).map jD=R at *;generalize sub s l[i].2=u at *;rw[<-ih];simp only[jg,hlt,jb hi,zy,e3,tl,hf,ta,h5]
theorem jn4(s:ju)(hs:jB s=true)(l:kg)(h:LN l):jpn (sb s) (.sl 3 (l.map jD))=jtU (jfx s l):=by
 have e1:=jpL s hs l h;unfold jfx;rw[jxz];cases ha:KM s l with
 |none=>
  rw[ha]at e1;have e1:G 69 [sb s,.sl 3 (l.map jD)]=some (.tup [cz,vb false],[]):=e1;simp only[jg,e1];rfl
 |some c=>
  rw[ha]at e1;have e1:G 69 [sb s,.sl 3 (l.map jD)]=some (.tup [cm c,vb true],[]):=e1;have hc:=(jfG ha).1;have e2:=jlE c hc;have e3:=jcu (normC c) (by have:=hc.normC.1;omega) hc.normC.tz;have fb:∀b:Bool,fin true (vb b,[])=some (vb b):=λb=>rfl;rw[Option.bind_some];cases hn:zD (normC c)<;>rw[hn]at e3
  .rw [if_neg Bool.false_ne_true];simp only[jg,e1,e2,jd0,e3,fb];rfl
  .rw [if_pos rfl];simp only[jg,e1,e2,jd0,e3,fb];rfl
theorem jqo(b:Bool)(x:kg):hR 67 (A.top,[vb b,.sl 67 (x.map jD)]) 1=some (x.map jD):=rfl
theorem jBf(n:Nat)(x:Int):ZW 0 (((n:Nat):Int)-1) x=decide (0<=x/\x<(n:Int)):=by
 unfold ZW;rw[<-Bool.decide_and];exact decide_eq_decide.2 ⟨λh=>⟨h.1,by omega⟩,λh=>⟨h.1,by omega⟩⟩
theorem jD9(t:T)(p:Xi)(ht:Tz t)(hl:p.length<=1048576):G 80 [tm t,ints p]=outT (atI p t):=by
 have key:=upto (P:=λi=>∀t:T,Tz t->jCg (ints p) (vi (p.length:Nat)) (vi (i:Nat)) (sv t.name) (jS t.args) (sv []) []=outT (atI (p.drop i) t)) (n:=p.length) ?_ ?_ 0 (Nat.zero_le _) t ht
 .simp only[Int.natCast_zero,List.drop_zero]at key;rw[g80];simp only[jg,key]
 .intro t ht;rw[jD3,List.drop_length,atI];simp only[jg];rfl
 .intro i hi ih t ht;have hz:=ht;unfold Tz at hz;rw[ze]at hz;have hlt:(i:Int)<((p.length:Nat):Int):=by omega
  have h5:=jy hi (by show p.length<=9223372036854775807;omega)
  have c1:ck (((t.args.length:Nat):Int)-1)=some (vi (((t.args.length:Nat):Int)-1)):=jZ (by omega) (by omega);have e1:=Zk p[i] 0 (((t.args.length:Nat):Int)-1);rw[jBf]at e1;have ix:=jbx hi;rw[jD3,js hi,atI];by_cases hc:0<=p[i]/\p[i]<(t.args.length:Int)
  .rw [decide_eq_true hc]at e1;rw[if_pos hc];have hn:p[i].toNat<t.args.length:=by omega
   have ix2:=jb (k:=2) (f:=jm) hn;rw[show((p[i].toNat:Nat):Int)=p[i] by omega]at ix2;rw[jmY hn];have:=ih t.args[p[i].toNat] (ht.args _ (List.getElem_mem hn));simp only[jg,hlt,ix,c1,e1,ix2,ji,h5,this]
  .rw [decide_eq_false hc]at e1;rw[if_neg hc];simp only[jg,hlt,ix,c1,e1];rfl
theorem jEa(t:T)(p:Xi)(ht:Tz t)(hl:p.length<=1048576):G 72 [tm t,ints p]=outT (atI p t):=by
 have key:=upto (P:=λi=>∀t:T,Tz t->jCb (ints p) (vi (i:Nat)) (sv t.name) (jS t.args) (sv []) []=outT (atI (p.drop i) t)) (n:=p.length) ?_ ?_ 0 (Nat.zero_le _) t ht
 .simp only[Int.natCast_zero,List.drop_zero]at key;rw[g72];simp only[jg,key]
 .intro t ht;have e1:=jhZ t ht;rw[jD0,List.drop_length,atI];simp only[jg,e1];rfl
 .intro i hi ih t ht;have hz:=ht;unfold Tz at hz;rw[ze]at hz;have hlt:(i:Int)<((p.length:Nat):Int):=by omega
  have h5:=jy hi (by show p.length<=9223372036854775807;omega)
  have c1:ck (((t.args.length:Nat):Int)-1)=some (vi (((t.args.length:Nat):Int)-1)):=jZ (by omega) (by omega);have e1:=jaO p[i] 0 (((t.args.length:Nat):Int)-1);rw[jBf]at e1;have ix:=jbx hi;rw[jD0,js hi,atI];by_cases hc:0<=p[i]/\p[i]<(t.args.length:Int)
  .rw [decide_eq_true hc]at e1;rw[if_pos hc];have hn:p[i].toNat<t.args.length:=by omega
   have ix2:=jb (k:=2) (f:=jm) hn;rw[show((p[i].toNat:Nat):Int)=p[i] by omega]at ix2;rw[jmY hn];have:=ih t.args[p[i].toNat] (ht.args _ (List.getElem_mem hn));simp only[jg,hlt,ix,c1,e1,ix2,ji,h5,this]
  .rw [decide_eq_false hc]at e1;rw[if_neg hc];simp only[jg,hlt,ix,c1,e1];rfl
theorem jC2(q:Xf):ints (q.map λn:Nat=>(n:Int))=pln q:=by
 show A.sl 1 ((q.map _).map ci)=_;rw[List.map_map];rfl
theorem jsw{t:T}(hk:qb t=true)(hn:nodes t<=30):Tz t/\Exx t:=⟨K0.tz (Or.inl hk) (by omega),Or.inl hk,by omega⟩
theorem joh{s:ju}(hs:jB s=true){t:T}(hk:qb t=true):kV (sub s t)=jH (sub s t):=by
 unfold kV;rw[jb4 (J0 hs) t hk,Bool.and_true]
noncomputable def rwL(rs:Xg):kg->Option kg
 | []=>some []
 |x::r=>(match rwN rs false 51 0 x.2 with
  |none=>none
  |some q=>(rwL rs r).map ((x.1,q.1)::·))
noncomputable def jBp(rs:Xg)(R:kg)(l:kg):Option kg:=(rwL rs l).bind λr=>jfx [] (R++r)
theorem jCS(d:kg)(h:zD d=true):G 79 [cm d]=some (cm (jzp d),[]):=by
 obtain⟨hc,_,_,hnm⟩:=Qv h;have hl:=qL hc;have e1:=jCI d hc;have e2:=jlR 89 d hc (kh d) (λn=>jlA) (hc.ren_tz (by decide));have e2:jgT (cm d) (.mp ((KB 89 0 (kh d)).map kn))=some (.top,[.sl 67 ((jzp d).map jD)]):=by rw[e2,<-apart_eq h];rfl
 have hnd:=jaQ d;have hnum:∀i (hi:i<(kh d).length),(kh d)[i]=Yn 88 i:=λi hi=>by
  obtain⟨j,hj,e,e'⟩:=jrv hnm (List.getElem_mem hi);rw[jAE hnd hi]at e';rw[e,jDi e']
 generalize kh d=ns at *;have key:=upto (P:=λi=>∀m:Nm',(∀n∈ns.drop i,zo m n=none)->m++KB 89 i (ns.drop i)=KB 89 0 ns->jCf (strs ns) (vi (ns.length:Nat)) (vi (i:Nat)) (.sl 3 (d.map jD)) (m.map kn) []=some (cm (jzp d),[])) (n:=ns.length) ?_ ?_ 0 (Nat.zero_le _) [] (λn _=>rfl) (by rw[List.drop_zero];rfl)
 .simp only[Int.natCast_zero,List.map_nil]at key;rw[g79];simp only[jg,e1,key]
 .intro m _ hm;rw[List.drop_length,KB,List.append_nil]at hm;subst hm;rw[jD2];simp only[jg,e2,jd0]
 .intro i hi ih m hm hp;have hlt:(i:Int)<((ns.length:Nat):Int):=by omega
  have h5:=jy hi (by show ns.length<=9223372036854775807;omega)
  have ld:kU (.elt (cs ns[i]) 0)=some (sv ns[i]):=rfl;have hd:(ns.drop i).Nodup:=hnd.sublist (List.drop_sublist i ns);rw[js hi]at hm hd hp;have pt:=jyn (hm ns[i] (List.mem_cons_self ..)) (Yn 89 i);have e3:ZD (sv ns[i]) (some (vi 1)) none=some (sv (Lib.decDigits i)):=by
   rw[hnum i hi];have hlen:(Yn 88 i).length=(Lib.decDigits i).length+1:=rfl;show(if(0:Int)<=1/\(1:Int)<=(((Yn 88 i).length:Nat):Int)/\(((Yn 88 i).length:Nat):Int)<=(((Yn 88 i).length:Nat):Int)then some (sv (((Yn 88 i).take ((((Yn 88 i).length:Nat):Int).toNat)).drop 1))else none)=_;rw[if_pos ⟨by omega,by omega,by omega⟩,Int.toNat_natCast,List.take_length];rfl
  have e4:=jyf 89 i (by omega);have ih:=ih (m++[(ns[i],Yn 89 i)]) (λn hn'=>by
   rw[jgc,hm n (List.mem_cons_of_mem _ hn')];show(if ns[i]=n then _ else none)=none;rw[if_neg];rintro e;exact(List.nodup_cons.1 hd).1 (e ▸ hn')) (by rw[List.append_assoc];exact hp)
  rw[jD2];simp only[jg,hlt,jb hi,ld,e3,e4,pt,h5,ih]
theorem jA0(s:T)(hs:Tz s):∀(p:Xf)(t:T),Tz t->okP p t->p.length<=2000000->jB7 (tm t) (pln p) (tm s)=some (.top,[sv (jvz s p t).name,.sl 66 ((jvz s p t).args.map jm)])
 | [],t,_,_,_=>by
  have e1:=juI s hs;have hz:(((0:Nat):Int)=0)=True:=by simp
  rw[jDT,jvz];simp only[jg,hz,e1,List.map_nil,List.getElem?_cons_zero,jfV]
 |i::p,t,ht,hp,hl=>by
  obtain⟨h1,h2⟩:=hp;have e:t.args.getD i (.mk [] [])=t.args[i]:=jmY h1;rw[e]at h2;have e1:=juI t ht;have e2:=jA0 s hs p t.args[i] (ht.args _ (List.getElem_mem h1)) h2 (by rw[List.length_cons]at hl;omega);have hz:¬((p.length+1:Nat):Int)=0:=by omega
  have i0:jz 1 (pln (i::p)) (vi 0)=some (.elt [vi (i:Nat)] 0):=jc3 (p:=i::p) (i:=0) (by simp);have sl:yt 1 (pln (i::p)) (some (vi 1)) none=some (pln p):=by
   have:=Yq (k:=1) (xs:=(i::p).map λn:Nat=>[vi (n:Nat)]) (i:=1) (by simp);exact this
  have ix:ZB t.args.length (vi (i:Nat))=some i:=zR h1;have rg:ZY (t.args.map jm) i=some (jm t.args[i]):=by unfold ZY;simp[h1]
  have co:zf (jm t.args[i]) 0 [sv (jvz s p t.args[i]).name,.sl 2 ((jvz s p t.args[i]).args.map jm)]=jm (jvz s p t.args[i]):=by rw[kR,kR];rfl
  have rs:yh (t.args.map jm) i (jm (jvz s p t.args[i]))=(t.args.set i (jvz s p t.args[i])).map jm:=by unfold yh;rw[List.map_set]
  have ll:(zG (pln (i::p)))=some (vi ((p.length+1:Nat):Int)):=by rw[jyY];simp only[jg]
  rw[jDT,jvz,e];simp only[jg,ll,hz,e1,i0,jb h1,ji,sl,e2,ix,rg,co,rs,List.getElem?_cons_zero,jfV,Jj];rfl
theorem jCL(s:T)(hs:Tz s):∀(p:Xf)(t:T),Tz t->okP p t->p.length<=2000000->G 84 [tm t,pln p,tm s]=some (tm (jvz s p t),[])
 | [],t,_,_,_=>by
  have e1:=juI s hs;have hz:(((0:Nat):Int)=0)=True:=by simp
  rw[g84,jvz];simp only[jg,hz,e1,List.map_nil,List.getElem?_cons_zero,jfV]
 |i::p,t,ht,hp,hl=>by
  obtain⟨h1,h2⟩:=hp;have e:t.args.getD i (.mk [] [])=t.args[i]:=jmY h1;rw[e]at h2;have e1:=juI t ht;have e2:=jA0 s hs p t.args[i] (ht.args _ (List.getElem_mem h1)) h2 (by rw[List.length_cons]at hl;omega);have hz:¬((p.length+1:Nat):Int)=0:=by omega
  have i0:jz 1 (pln (i::p)) (vi 0)=some (.elt [vi (i:Nat)] 0):=jc3 (p:=i::p) (i:=0) (by simp);have sl:yt 1 (pln (i::p)) (some (vi 1)) none=some (pln p):=by
   have:=Yq (k:=1) (xs:=(i::p).map λn:Nat=>[vi (n:Nat)]) (i:=1) (by simp);exact this
  have ix:ZB t.args.length (vi (i:Nat))=some i:=zR h1;have rg:ZY (t.args.map jm) i=some (jm t.args[i]):=by unfold ZY;simp[h1]
  have co:zf (jm t.args[i]) 0 [sv (jvz s p t.args[i]).name,.sl 2 ((jvz s p t.args[i]).args.map jm)]=jm (jvz s p t.args[i]):=by rw[kR,kR];rfl
  have rs:yh (t.args.map jm) i (jm (jvz s p t.args[i]))=(t.args.set i (jvz s p t.args[i])).map jm:=by unfold yh;rw[List.map_set]
  have ll:(zG (pln (i::p)))=some (vi ((p.length+1:Nat):Int)):=by rw[jyY];simp only[jg]
  rw[g84,jvz,e];simp only[jg,ll,hz,e1,i0,jb h1,ji,sl,e2,ix,rg,co,rs,List.getElem?_cons_zero,jfV,Jj];rfl
theorem jio(c d:kg)(cc:CN c)(hd:zD d=true)(m n:Nat)(hm:m<c.length)(hn:n<d.length)(hs:c[m].1=true)(he:c[m].2.name=[61])(l r:T)(side:Int)(hside:ZW 0 1 side=true)(sl:jz 2 (jS c[m].2.args) (vi side)=some (.elt (jm l) 0))(sr:jz 2 (jS c[m].2.args) (vi (1-side))=some (.elt (jm r) 0))(kl:qb l=true)(kr:qb r=true)(nl:nodes l<=30)(nr:nodes r<=30)(p:Xi)(hpl:p.length<=1048576)(hp:p≠ []) :
  ∃o:Option kg,jB6 (cm c) (vi (m:Nat)) (vi side) (cm d) (vi (n:Nat)) (ints p)=jtU o/\G 42 [cm c,vi (m:Nat),vi side,cm d,vi (n:Nat),ints p]=jbO o/\ ∀x,o=some x->zD x=true:=by
 obtain⟨cd,_,_,_⟩:=Qv hd;have lc:=cc.1;have ld:=cd.1;have ce:=jCT hd;have le:=jAD d;have a1:=jCS d hd;have a2:=jAx d hd;have p1:=jfr c (by omega) (m:Nat);have p2:=jfr d (by omega) (n:Nat);have hi:jqp c (m:Nat)=true:=by unfold jqp;rw[jBf];exact decide_eq_true ⟨by omega,by omega⟩
 have hk:jqp d (n:Nat)=true:=by unfold jqp;rw[jBf];exact decide_eq_true ⟨by omega,by omega⟩
 have c1:ck (((c.length:Nat):Int)-1)=some (vi (((c.length:Nat):Int)-1)):=jZ (by omega) (by omega);have c2:ck ((((jzp d).length:Nat):Int)-1)=some (vi ((((jzp d).length:Nat):Int)-1)):=jZ (by omega) (by omega);have q1:=jaO (m:Nat) 0 (((c.length:Nat):Int)-1);have q2:=jaO (n:Nat) 0 ((((jzp d).length:Nat):Int)-1);have q3:=jaO side 0 1;have p3:=Zk side 0 1;have hi':ZW 0 (((c.length:Nat):Int)-1) (m:Nat)=true:=hi;have hk':ZW 0 ((((jzp d).length:Nat):Int)-1) (n:Nat)=true:=by rw[le];exact hk
 rw[hi']at q1;rw[hk']at q2;rw[hside]at q3 p3;rw[hi]at p1;rw[hk]at p2;have hn2:n<(jzp d).length:=by omega
 have x1:=jb (k:=3) (f:=jD) hm;have x3:=jb (k:=3) (f:=jD) hn2;have hb2:=ce.2 _ (List.getElem_mem hn2);have e3:=KR c[m].2;have e4:=jiU c[m] true;rw[hs,he,decide_eq_true rfl,decide_eq_true rfl,Bool.and_self]at e4;rw[decide_eq_true he]at e3;have e4:G 48 [.agg [vb c[m].1,sv c[m].2.name,jS c[m].2.args],vb true]=some (vb true,[]):=e4;have hp0:¬((p.length:Nat):Int)=0:=by
  cases p with
  |nil=>exact(hp rfl).elim
  |cons _ _=>simp only[List.length_cons];omega
 have cs:ck (1-side)=some (vi (1-side)):=by
  unfold ZW at hside;rw[Bool.and_eq_true,decide_eq_true_eq,decide_eq_true_eq]at hside;exact jZ (by omega) (by omega)
 generalize hL:c[m]=L at *;generalize hE:(jzp d)[n]=E at *;have tE:=hb2.1.tz (by omega);have t1:=jD9 E.2 p tE hpl;have t2:=jEa E.2 p tE hpl;rw[jyS,g42];cases hat:atI p E.2 with
 |none=>
  rw[hat]at t1 t2;have t1:G 80 [tm E.2,ints p]=some (.tup [.agg [sv [],.sl 2 []],vb false],[]):=t1;have t2:G 72 [tm E.2,ints p]=some (.tup [.agg [sv [],.sl 2 []],vb false],[]):=t2;refine⟨none,?_,?_,λx h=>by cases h⟩
  .simp only[jg,p1,p2,p3,x1,x3,ldA,ldT,hs,e3,hp0,sl,sr,cs,ji,a1,t1];rfl
  .simp only[jg,a2,c1,q1,c2,q2,q3,x1,x3,zy,e4,hp0,ldA,ldT,sl,sr,cs,ji,t2];rfl
 |some w=>
  rw[hat]at t1 t2;have t1:G 80 [tm E.2,ints p]=some (.tup [tm w,vb true],[]):=t1;have t2:G 72 [tm E.2,ints p]=some (.tup [tm w,vb true],[]):=t2;obtain⟨q,hpe,hq,hw⟩:=jCU hat;have hqne:q≠ []:=λh=>hp (by rw[hpe,h];rfl);have hql:q.length<=2000000:=by rw[hpe,List.length_map]at hpl;omega
  obtain⟨kw,nw⟩:=jDj hqne hq hb2.1.args;rw[<-hw]at kw nw;obtain⟨tzw,exw⟩:=jsw kw (by omega);obtain⟨tzl,exl⟩:=jsw kl nl;obtain⟨tzr,exr⟩:=jsw kr nr;have v1:=yA w (Or.inl kw);have v2:=yc w.name ((kQ w).1 tzw.wf).1;cases hv:jr w.name<;>rw[hv]at v1 v2
  rotate_left
  .refine ⟨none,?_,?_,λx h=>by cases h⟩
   .simp only[jg,p1,p2,p3,x1,x3,ldA,ldT,hs,e3,hp0,sl,sr,cs,ji,a1,t1,v1];rfl
   .simp only[jg,a2,c1,q1,c2,q2,q3,x1,x3,zy,e4,hp0,ldA,ldT,sl,sr,cs,ji,t2,v2];rfl
  have u1:=jss l w exl exw;have u2:=jlu l w exl exw;obtain⟨u,b,hu,hut,huf⟩:=joo (jca l w);rw[hu]at u1 u2;cases b
  .refine ⟨none,?_,?_,λx h=>by cases h⟩
   .simp only[jg,p1,p2,p3,x1,x3,ldA,ldT,hs,e3,hp0,sl,sr,cs,ji,a1,t1,v1,u1];rfl
   .simp only[jg,a2,c1,q1,c2,q2,q3,x1,x3,zy,e4,hp0,ldA,ldT,sl,sr,cs,ji,t2,v2,u2];rfl
  have hval:=jik exl exw (hut rfl);have b1:=Jd u hval l (Or.inl kl) (by omega);have b2:=Jd u hval r (Or.inl kr) (by omega);have b3:=QN u (zB hval).sz l tzl;have b4:=QN u (zB hval).sz r tzr;have tsl:=K0.sub_tz hval (Or.inl kl) (by omega);have tsr:=K0.sub_tz hval (Or.inl kr) (by omega);have b5:=YV (sub u l) tsl.wf tsl;have b6:=YV (sub u r) tsr.wf tsr;rw[joh hval kl]at b5;rw[joh hval kr]at b6;cases s1:jH (sub u l)<;>rw[s1]at b1 b5
  .have b1:G 82 [sb u,tm l]=some (.tup [.agg [sv [],.sl 2 []],vb false],[]):=b1;obtain⟨z,hz⟩:∃z:T×Bool,G 82 [sb u,tm r]=some (.tup [tm z.1,vb z.2],[]):=by
    cases h:jH (sub u r)<;>rw[h]at b2
    .exact ⟨(.mk [] [],false),b2⟩
    .exact ⟨(sub u r,true),b2⟩
   refine⟨none,?_,?_,λx h=>by cases h⟩
   .simp only[jg,p1,p2,p3,x1,x3,ldA,ldT,hs,e3,hp0,sl,sr,cs,ji,a1,t1,v1,u1,b1,hz];rfl
   .simp only[jg,a2,c1,q1,c2,q2,q3,x1,x3,zy,e4,hp0,ldA,ldT,sl,sr,cs,ji,t2,v2,u2,b3,b4,b5];rfl
  have b1:G 82 [sb u,tm l]=some (.tup [tm (sub u l),vb true],[]):=b1;cases s2:jH (sub u r)<;>rw[s2]at b2 b6
  .have b2:G 82 [sb u,tm r]=some (.tup [.agg [sv [],.sl 2 []],vb false],[]):=b2;refine⟨none,?_,?_,λx h=>by cases h⟩
   .simp only[jg,p1,p2,p3,x1,x3,ldA,ldT,hs,e3,hp0,sl,sr,cs,ji,a1,t1,v1,u1,b1,b2];rfl
   .simp only[jg,a2,c1,q1,c2,q2,q3,x1,x3,zy,e4,hp0,ldA,ldT,sl,sr,cs,ji,t2,v2,u2,b3,b4,b5,b6];rfl
  have b2:G 82 [sb u,tm r]=some (.tup [tm (sub u r),vb true],[]):=b2;obtain⟨o,o1,o2,_⟩:=jDk (sub u l) (sub u r) tsl.wf tsr.wf tsl tsr (by rw[joh hval kl];exact s1) (by rw[joh hval kr];exact s2);by_cases h1:o=1
  .refine ⟨none,?_,?_,λx h=>by cases h⟩
   .simp only[jg,p1,p2,p3,x1,x3,ldA,ldT,hs,e3,hp0,sl,sr,cs,ji,a1,t1,v1,u1,b1,b2,o2,h1];rfl
   .simp only[jg,a2,c1,q1,c2,q2,q3,x1,x3,zy,e4,hp0,ldA,ldT,sl,sr,cs,ji,t2,v2,u2,b3,b4,b5,b6,o1,h1];rfl
  by_cases h3:o=3
  .refine ⟨none,?_,?_,λx h=>by cases h⟩
   .have h13:¬(3:Int)=1:=by decide
    simp only[jg,p1,p2,p3,x1,x3,ldA,ldT,hs,e3,hp0,sl,sr,cs,ji,a1,t1,v1,u1,b1,b2,o2,h3,h13];rfl
   .have h13:¬(3:Int)=1:=by decide
    simp only[jg,a2,c1,q1,c2,q2,q3,x1,x3,zy,e4,hp0,ldA,ldT,sl,sr,cs,ji,t2,v2,u2,b3,b4,b5,b6,o1,h3,h13];rfl
  have hint:=jC2 q;have rp1:=jCL r tzr q E.2 tE hq hql;have rp2:=jCv r tzr q E.2 tE hq hql;rw[<-hint,<-hpe]at rp1 rp2;have hbw:=jDP kr hqne hq hb2.1;have hnw:=jy0 r q E.2 hq;have hlnA:=LN.append cc ce m n;have hlen8:(c.eraseIdx m).length<=8/\((jzp d).eraseIdx n).length<=8:=⟨by have:=List.length_eraseIdx_le c m;omega,by have:=List.length_eraseIdx_le (jzp d) n;have:=ce.1;omega⟩;have hln:LN (c.eraseIdx m++(jzp d).eraseIdx n++[(E.1,jvz r q E.2)]):=⟨by
   rw[List.length_append,List.length_append];simp only[List.length_cons,List.length_nil];omega,λx hx=>by
   rcases List.mem_append.1 hx with hx|hx
   .exact hlnA.2 x hx
   .rw [List.mem_singleton.1 hx];exact⟨hbw,by show nodes (jvz r q E.2)<=100;omega⟩⟩
  have w1:=jmj c (by omega) m hm;have w2:=jmj (jzp d) (by omega) n hn2;have w3:=jkH c (by omega) m hm;have w4:=jkH (jzp d) (by omega) n hn2;have cat:=jCA [c.eraseIdx m,(jzp d).eraseIdx n,[(E.1,jvz r q E.2)]] (by simp) (λx hx=>by
   simp only[List.mem_cons,List.not_mem_nil,or_false]at hx;rcases hx with rfl|rfl|rfl
   .omega
   .omega
   .simp)
  have hfl: [c.eraseIdx m,(jzp d).eraseIdx n,[(E.1,jvz r q E.2)]].flatten=c.eraseIdx m++(jzp d).eraseIdx n++[(E.1,jvz r q E.2)]:=by simp
  rw[hfl]at cat;have cat:jB8 [[.sl 3 ((c.eraseIdx m).map jD)],[.sl 3 (((jzp d).eraseIdx n).map jD)],[.sl 3 [[vb E.1,sv (jvz r q E.2).name,jS (jvz r q E.2).args]]]]=some (.top,[.sl 3 ((c.eraseIdx m++(jzp d).eraseIdx n++[(E.1,jvz r q E.2)]).map jD)]):=cat;have g1:=jn4 u hval _ hln;have g2:=jhI u hval _ hln;have hf:jO ((c.eraseIdx m).length+((jzp d).eraseIdx n).length) 48=true:=jaX (by omega);have ha:j4 ((c.eraseIdx m).map jD) (((jzp d).eraseIdx n).map jD)=(c.eraseIdx m++(jzp d).eraseIdx n).map jD:=by rw[List.map_append];rfl
  have hf2:jO ((c.eraseIdx m++(jzp d).eraseIdx n).length+1) 48=true:=jaX (by rw[List.length_append];omega)
  have ha2:j4 ((c.eraseIdx m++(jzp d).eraseIdx n).map jD) [[vb E.1,sv (jvz r q E.2).name,jS (jvz r q E.2).args]]=(c.eraseIdx m++(jzp d).eraseIdx n++[(E.1,jvz r q E.2)]).map jD:=by rw[List.map_append (l₁:=c.eraseIdx m++(jzp d).eraseIdx n)];rfl
  refine⟨jfx u (c.eraseIdx m++(jzp d).eraseIdx n++[(E.1,jvz r q E.2)]),?_,?_,λx hx=>jkd hx⟩
  .obtain ⟨c',b',_,hr,_,_⟩:=jbP (jfx u (c.eraseIdx m++(jzp d).eraseIdx n++[(E.1,jvz r q E.2)]));rw[hr]at g1⊢;generalize c.eraseIdx m++(jzp d).eraseIdx n++[(E.1,jvz r q E.2)]=Z at *;simp only[jg,p1,p2,p3,x1,x3,ldA,ldT,hs,e3,hp0,sl,sr,cs,ji,a1,t1,v1,u1,b1,b2,o2,h1,h3,rp1];generalize hB:zk _ _ _=B;have hB':B=some (ltm (E.1,jvz r q E.2)):=by rw[<-hB];kernel_rfl
   rw[hB'];simp only[jg,w1,w2,cat,hRl,g1,jqo,List.getElem?_cons_zero,jfW]
  .obtain ⟨c',b',hr⟩:=jon (jfx u (c.eraseIdx m++(jzp d).eraseIdx n++[(E.1,jvz r q E.2)]));rw[hr]at g2⊢;generalize c.eraseIdx m++(jzp d).eraseIdx n++[(E.1,jvz r q E.2)]=Z at *;simp only[jg,a2,c1,q1,c2,q2,q3,x1,x3,zy,e4,hp0,ldA,ldT,sl,sr,cs,ji,t2,v2,u2,b3,b4,b5,b6,o1,h1,h3,w3,w4,hf,ha,rp2];generalize hB:zk _ _ _=B;have hB':B=some (ltm (E.1,jvz r q E.2)):=by rw[<-hB];kernel_rfl
   rw[hB'];simp only[jg,hf2,ha2,g2]
theorem jzr(c d:kg)(hc:zD c=true)(hd:zD d=true)(i side k:Int)(p:Xi)(hpl:p.length<=1048576):∃o:Option kg,jB6 (cm c) (vi i) (vi side) (cm d) (vi k) (ints p)=jtU o/\G 42 [cm c,vi i,vi side,cm d,vi k,ints p]=jbO o/\ ∀x,o=some x->zD x=true:=by
 obtain⟨cc,_,_,_⟩:=Qv hc;obtain⟨cd,_,_,_⟩:=Qv hd;have lc:=cc.1;have ld:=cd.1;have le:=jAD d;have a2:=jAx d hd;have p1:=jfr c (by omega) i;have p2:=jfr d (by omega) k;have c1:ck (((c.length:Nat):Int)-1)=some (vi (((c.length:Nat):Int)-1)):=jZ (by omega) (by omega);have c2:ck ((((jzp d).length:Nat):Int)-1)=some (vi ((((jzp d).length:Nat):Int)-1)):=jZ (by omega) (by omega);have q1:=jaO i 0 (((c.length:Nat):Int)-1);have q2:=jaO k 0 ((((jzp d).length:Nat):Int)-1);have q3:=jaO side 0 1;have p3:=Zk side 0 1;have hi':ZW 0 (((c.length:Nat):Int)-1) i=jqp c i:=rfl;have hk':ZW 0 ((((jzp d).length:Nat):Int)-1) k=jqp d k:=by rw[le];rfl
 rw[hi']at q1;rw[hk']at q2;cases hi:jqp c i<;>rw[hi]at p1 q1
 .exact ⟨none,by rw[jyS];simp only[jg,p1];rfl,by rw[g42];simp only[jg,a2,c1,q1];rfl,λx h=>by cases h⟩
 cases hk:jqp d k<;>rw[hk]at p2 q2
 .exact ⟨none,by rw[jyS];simp only[jg,p1,p2];rfl,by rw[g42];simp only[jg,a2,c1,q1,c2,q2];rfl,λx h=>by cases h⟩
 cases hs:ZW 0 1 side<;>rw[hs]at p3 q3
 .exact ⟨none,by rw[jyS];simp only[jg,p1,p2,p3];rfl,by rw[g42];simp only[jg,a2,c1,q1,c2,q2,q3];rfl,λx h=>by cases h⟩
 obtain⟨m,rfl,hm⟩:=jn3 hi;obtain⟨n,rfl,hn⟩:=jn3 hk;have x1:=jb (k:=3) (f:=jD) hm;have hb1:=cc.2 _ (List.getElem_mem hm);have e3:=KR c[m].2;have e4:=jiU c[m] true;have e4:G 48 [.agg [vb c[m].1,sv c[m].2.name,jS c[m].2.args],vb true]=_:=e4;by_cases hp:c[m].1=true;rotate_left
 .have hp0:c[m].1=false:=by cases h:c[m].1 with|false=>rfl|true=>exact(hp h).elim
  rw[decide_eq_false hp,Bool.false_and]at e4;refine⟨none,?_,?_,λx h=>by cases h⟩
  .rw [jyS];simp only[jg,p1,p2,p3,x1,hp0];rfl
  .rw [g42];simp only[jg,a2,c1,q1,c2,q2,q3,x1,zy,e4];rfl
 rw[decide_eq_true hp,Bool.true_and]at e4;by_cases he:c[m].2.name=[61];rotate_left
 .rw [decide_eq_false he]at e3 e4;refine⟨none,?_,?_,λx h=>by cases h⟩
  .rw [jyS];simp only[jg,p1,p2,p3,x1,ldT,hp,e3];rfl
  .rw [g42];simp only[jg,a2,c1,q1,c2,q2,q3,x1,zy,e4];rfl
 by_cases hne:p=[]
 .have e3':=e3;rw[decide_eq_true he]at e3' e4;subst hne;have hl:zG (ints [])=some (vi 0):=rfl;refine⟨none,?_,?_,λx h=>by cases h⟩
  .rw [jyS];simp only[jg,p1,p2,p3,x1,ldT,hp,e3',hl];rfl
  .rw [g42];simp only[jg,a2,c1,q1,c2,q2,q3,x1,zy,e4,hl];rfl
 obtain⟨_,k0,k1,n0,n1,i0,i1⟩:=jqh hb1.1 he hb1.2;have hside:side=0\/side=1:=by
  unfold ZW at hs;rw[Bool.and_eq_true,decide_eq_true_eq,decide_eq_true_eq]at hs;omega
 rcases hside with rfl|rfl
 .exact jio c d cc hd m n hm hn hp he (QA c[m].2) (jbD c[m].2) 0 hs i0 i1 k0 k1 n0 n1 p hpl hne
 .exact jio c d cc hd m n hm hn hp he (jbD c[m].2) (QA c[m].2) 1 hs i1 i0 k1 k0 n1 n0 p hpl hne
theorem jB4(c d:kg)(lc:c.length<=1048576)(zc:∀l∈c,Tz l.2)(ld:d.length<=1048576)(zd:∀l∈d,Tz l.2)(i side k:Int)(p:Xi)(hpl:p.length<=1048576):∃r:Option kg,jB5 (cm c) (vi i) (vi side) (cm d) (vi k) (ints p)=jtU r/\G 19 [cm c,vi i,vi side,cm d,vi k,ints p]=jbO r/\ ∀x,r=some x->zD x=true:=by
 have n1:=jcu c lc zc;have n2:=jcu d ld zd;have m1:=jjn c lc zc;have m2:=jjn d ld zd;cases hc:zD c<;>rw[hc]at n1 m1
 .exact ⟨none,by rw[jCX];simp only[jg,n1];rfl,by rw[g19];simp only[jg,m1];rfl,λx h=>by cases h⟩
 cases hd:zD d<;>rw[hd]at n2 m2
 .exact ⟨none,by rw[jCX];simp only[jg,n1,n2];rfl,by rw[g19];simp only[jg,m1,m2];rfl,λx h=>by cases h⟩
 obtain⟨r,e1,e2,e3⟩:=jzr c d hc hd i side k p hpl;obtain⟨c',b',hr,hw,_,_⟩:=jbP r;refine⟨r,?_,?_,e3⟩
 .rw [hw]at e1⊢;rw[jCX];simp only[jg,n1,n2,e1,jqo,List.getElem?_cons_zero,jfW]
 .rw [hr]at e2⊢;rw[g19];simp only[jg,m1,m2,e2]
theorem jpW(a b c d e f:A):zf [a,b,c] 0 [d,e,f]=[d,e,f]:=rfl
theorem juu(l:Lt)(h:tsz l.2<=1048576):jpp (ltm l)=some (.top,[vb l.1,sv l.2.name,.sl 66 (l.2.args.map jm)]):=by
 have e1:=jsm l.2 h;rw[jxB];simp only[jg,e1,List.getElem?_cons_zero]
theorem jsl(c:kg)(hl:c.length<=1048576)(hs:∀l∈c,tsz l.2<=1048576):jpj (.sl 3 (c.map jD))=some (.top,[.sl 67 (c.map jD)]):=by
 have key:=(upto (P:=λi=>jc6 (.sl 3 (c.map jD)) (vi i) (part jD [vb false,sv [],.sl 2 []] c i)=some (.top,[.sl 67 (c.map jD)])) (n:=c.length) ?_ ?_ 0 (Nat.zero_le _))
 .rw [jxu];have hm:=Y1 (b:=48) (n:=c.length) (by omega) hl;simp only[Int.natCast_zero,<-Y2]at key;simp only[jg,hm,key]
 .rw [jnb,ja1];simp only[jg]
 .intro i hi ih';have h1:=KE (f:=jD) (z:=[vb false,sv [],.sl 2 []]) (Nat.le_of_lt hi);have h2:ZB (part jD [vb false,sv [],.sl 2 []] c i).length (vi i)=some i:=zR (by omega);have h4:=ja3 (f:=jD) (z:=[vb false,sv [],.sl 2 []]) hi;have h5:=jy hi (Nat.le_trans hl (by decide));have e1:=juu c[i] (hs _ (List.getElem_mem _));rw[jnb];simp only[jg,hi,Int.ofNat_lt,jb hi,jbU,e1,List.getElem?_cons_zero,List.getElem?_cons_succ,Jj,Yd,h2,ja2 hi,jpW,h4,h5,ih']
theorem jma(c:kg)(hl:c.length<=1048576)(hs:∀l∈c,tsz l.2<=1048576):jnL (.sl 3 (c.map jD))=some (.top,[.sl 67 (c.map jD)]):=by
 have e1:=jsl c hl hs;rw[jzq];simp only[jg,e1]
def mkC:kg->Nat
 | []=>0
 |l::c=>2+KY l.2.args+mkC c
theorem jro:∀c:kg,mkC c<=2*c.length+lsz c
 | []=>by simp[mkC]
 |l::c=>by
  have h1:=jro c;have h2:=jdd l.2.args;have h3:=ze l.2;simp only[mkC,lsz,List.length_cons];omega
def jAy:List kg->Nat
 | []=>0
 |c::l=>mkC c+jAy l
def mkS(s:Stp):Nat:=1+s.par.length+s.whr.length+mkC s.cls
def jAz:List Stp->Nat
 | []=>0
 |s::l=>mkS s+jAz l
def HC:Nat->kg->Nat->Prop
 |k,[],k'=>k'=k
 |k,l::c,k'=>∃k1:Nat,l.1=decide (((k % 3:Nat):Int)=0)/\G 41 [vi ((k+1:Nat):Int)]=some (sv l.2.name,[])/\G 60 [jS l.2.args,vi ((k+2:Nat):Int)]=some (vi (k1:Nat),[])/\k<k1/\HC k1 c k'
theorem jpt:∀(r:kg)(k k':Nat),HC k r k'->k<=k'
 | [],k,k',h=>by have h:k'=k:=h;omega
 |u::r,k,k',⟨k1,_,_,_,g3,g4⟩=>by have:=jpt r k1 k' g4;omega
theorem Qr:∀(r M:kg)(k k':Nat),k'<=100000000->M.length+r.length<=9223372036854775807->k<=k'->HC k r k'->jmo (.sl 3 ((M++r).map jD)) (vi (k:Nat)) (vi (M.length:Nat))=some (vi (k':Nat),[])
 | [],M,k,k',_,_,_,h=>by
  have h:k'=k:=h;subst h;rw[juX,List.append_nil];simp only[jg]
 |l::r,M,k,k',hk,hl,hkk,⟨k1,g0,g1,g2,g3,g4⟩=>by
  have h1:((M.length:Nat):Int)<(((M++l::r).length:Nat):Int):=jrn M r l;have h2:jz 3 (.sl 3 ((M++l::r).map jD)) (vi (M.length:Nat))=some (.elt (jD l) 0):=jjC (f:=jD) (k:=3) M r l;have hle:k1<=k':=jpt r k1 k' g4;have hm:((k:Nat):Int).tmod 3=((k % 3:Nat):Int):=by rw[Int.tmod_eq_emod_of_nonneg (by omega)];rfl
  have e1:=jy (i:=k) (n:=k+1) (by omega) (by omega);have e1':=jy (i:=k+1) (n:=k+2) (by omega) (by omega);have h5:=jy (i:=M.length) (n:=(M++l::r).length) (by simp) (by simp;simp at hl;omega);have ih:=Qr r (M++[l]) k1 k' hk (by simp at hl⊢;omega) hle g4;have q:(M++[l]).length=M.length+1:=by simp
  rw[q,List.append_assoc,List.singleton_append]at ih;have a0:Jk (.elt (jD l) 0) 0=some (.elt (jD l) 0):=by rw[yN]
  have a1:Jk (.elt (jD l) 0) 1=some (.elt (jD l) 1):=by rw[yN]
  have a2:Jk (.elt (jD l) 1) 0=some (.elt (jD l) 1):=by rw[yN]
  have a3:Jk (.elt (jD l) 1) 1=some (.elt (jD l) 2):=by rw[yN]
  have p0:kU (.elt (jD l) 0)=some (vb l.1):=rfl;have p1:kU (.elt (jD l) 1)=some (sv l.2.name):=rfl;have p2:kU (.elt (jD l) 2)=some (jS l.2.args):=rfl;have nk:¬((k1:Nat):Int)<0:=by omega
  rw[juX];generalize hb:decide (((k % 3:Nat):Int)=0)=b at g0;cases b<;>simp only[jg,h1,h2,a0,a1,a2,a3,p0,p1,p2,g0,jgg,hm,hb,g1,e1,e1',g2,nk,h5,ih]
theorem ji2(c:kg)(k k':Nat)(hk:k'<=100000000)(hl:c.length<=9223372036854775807)(h:HC k c k'):G 32 [.sl 3 (c.map jD),vi (k:Nat)]=some (vi (k':Nat),[]):=by
 have:=Qr c [] k k' hk (by simpa using hl) (jpt c k k' h) h;rw[g32];exact this
theorem KA:∀(r:kg)(M:Xc)(k:Nat),k+mkC r<=100000000->M.length+r.length<=9223372036854775807->(∀l∈r,KZ l.2)->
  ∃c:kg,c.length=r.length/\HC k c (k+mkC r)/\jc7 (vi (k:Nat)) (vi (M.length:Nat)) (M++r.map jD)=some (.top,[vi ((k+mkC r:Nat):Int),.sl 67 (M++c.map jD)])
 | [],M,k,hk,hl,_=>by
  refine⟨[],rfl,rfl,?_⟩;rw[jnd,List.map_nil,List.append_nil];simp only[jg,mkC,Nat.add_zero]
 |l::r,M,k,hk,hl,ht=>by
  simp only[mkC,List.length_cons]at hk hl;have h1:((M.length:Nat):Int)<(((M++jD l::r.map jD).length:Nat):Int):=by simp;omega
  have hm:((k:Nat):Int).tmod 3=((k % 3:Nat):Int):=by rw[Int.tmod_eq_emod_of_nonneg (by omega)];rfl
  generalize hb:decide (((k % 3:Nat):Int)=0)=b;have h2:=jeW M (r.map jD) (jD l);have h3:=jbd M (r.map jD) (jD l);obtain⟨s,e0⟩:=jcD (k+1) (by omega);have s1:=jbe M (r.map jD) (jD l) [vb b,sv l.2.name,jS l.2.args];have i1:=jeW M (r.map jD) [vb b,sv l.2.name,jS l.2.args];have g1:=jbd M (r.map jD) [vb b,sv l.2.name,jS l.2.args];have s2:=jbe M (r.map jD) [vb b,sv l.2.name,jS l.2.args] [vb b,sv s,jS l.2.args];have i2:=jeW M (r.map jD) [vb b,sv s,jS l.2.args];have g2:=jbd M (r.map jD) [vb b,sv s,jS l.2.args];obtain⟨vs,e3,e4⟩:=jrm l.2 (ht l (by simp)) (k+2) (by omega);have s3:=jbe M (r.map jD) [vb b,sv s,jS l.2.args] [vb b,sv s,jS vs];have e1:=jy (i:=k) (n:=k+1) (by omega) (by omega);have e1':=jy (i:=k+1) (n:=k+2) (by omega) (by omega);have e2:=jy (i:=M.length) (n:=M.length+1) (by omega) (by omega);obtain⟨c,l1,l2,ih⟩:=KA r (M++[[vb b,sv s,jS vs]]) (k+2+KY l.2.args) (by omega) (by simp;omega) λu hu=>ht u (by simp[hu]);have q:(M++[[vb b,sv s,jS vs]]).length=M.length+1:=by simp
  have q2:M++[[vb b,sv s,jS vs]]++r.map jD=M++[vb b,sv s,jS vs]::r.map jD:=by simp
  have q3:M++[[vb b,sv s,jS vs]]++c.map jD=M++(((b,T.mk s vs):Lt)::c).map jD:=by rw[List.map_cons,List.append_assoc];rfl
  rw[q,q2,q3,show k+2+KY l.2.args+mkC r=k+(2+KY l.2.args+mkC r) by omega]at ih;have o1:zf (jD l) 0 [vb b]=[vb b,sv l.2.name,jS l.2.args]:=rfl;have o2:zf [vb b,sv l.2.name,jS l.2.args] 1 [sv s]=[vb b,sv s,jS l.2.args]:=rfl;have o3:zf [vb b,sv s,jS l.2.args] 2 [jS vs]=[vb b,sv s,jS vs]:=rfl;have t1:je9 (jD l) 0 1=true:=rfl;have t2:je9 [vb b,sv l.2.name,jS l.2.args] 1 1=true:=rfl;refine⟨(b,T.mk s vs)::c,by simp[l1],?_,?_⟩
  .rw [mkC];exact⟨k+2+KY l.2.args,hb.symm,e0,e4,by omega,by rw[show k+(2+KY l.2.args+mkC r)=k+2+KY l.2.args+mkC r by omega];exact l2⟩
  .rw [jnd,List.map_cons,mkC];simp only[jg,h1,jgg,hm,hb,h2,h3,Yd,t1,o1,e1,e0,s1,i1,Jj,g1,t2,o2,e1',s2,i2,g2,jjb,e3,List.getElem?_cons_zero,o3,s3,e2,ih]
theorem jhT(c:kg)(k:Nat)(hk:k+mkC c<=100000000)(hw:cwf c):∃d:kg,jpl (vi (k:Nat)) (c.map jD)=some (.top,[vi ((k+mkC c:Nat):Int),.sl 67 (d.map jD)])/\G 32 [.sl 3 (d.map jD),vi (k:Nat)]=some (vi ((k+mkC c:Nat):Int),[]):=by
 obtain⟨d,l1,l2,h⟩:=KA c [] k hk (by simpa using hw.2) hw.1;refine⟨d,?_,ji2 d k _ hk (by rw[l1];exact hw.2) l2⟩;rw[jxw];exact h
def HCs:Nat->List kg->Nat->Prop
 |k,[],k'=>k'=k
 |k,c::l,k'=>∃k1:Nat,G 32 [.sl 3 (c.map jD),vi (k:Nat)]=some (vi (k1:Nat),[])/\k<=k1/\HCs k1 l k'
def jx2:Nat->Nat->Xi
 |_,0=>[]
 |k,n+1=>(k:Int)::jx2 (k+1) n
def Cz(c:kg):Prop:=c.length<=1048576/\ ∀l∈c,Tz l.2
noncomputable def wfP(p:Prf):Bool:=decide (p.ax.length<=30) && p.ax.all zD && decide (p.st.length<=60)
def Pok(p:Prf)(s:Stp):Prop:=∀x∈s.par,0<=x/\x<((p.st.length:Nat):Int)
section
variable(a b c d e f g:A)
end
def Res(o:Xe)(r:Option kg):Prop:=∃(c:kg)(b:Bool),o=some (.tup [cm c,vb b],[])/\(b=true->r=some c)/\(b=false->r=none)
theorem Res.of{o:Xe}{r:Option kg}{c:kg}{b:Bool}(h:jbO r=some (.tup [cm c,vb b],[]))(ho:o=some (.tup [cm c,vb b],[])):Res o r:=by
 cases r with
 |none=>exact⟨[],false,by rw[ho,<-h];rfl,(λh=>by cases h),λ_=>rfl⟩
 |some c'=>exact⟨c',true,by rw[ho,<-h];rfl,(λ_=>rfl),λh=>by cases h⟩
def jyK:kg->Option T
 | [l]=>if l.1=true then some l.2 else none
 |_=>none
def jwK(p:Prf):Xi->Option Xg
 | []=>some []
 |x::xs=>match p.st[x.toNat]? with
  |some q=>(match jyK q.cls with
   |some t=>(jwK p xs).map (t::·)
   |none=>none)
  |none=>none
structure Pz(p:Prf):Prop where
 ax:p.ax.length<=1048576
 st:p.st.length<=1048576
 axs:∀c∈p.ax,Cz c
 par:∀s∈p.st,s.par.length<=1048576
 whr:∀s∈p.st,s.whr.length<=1048576
 wI:∀s∈p.st,∀x∈s.whr,I64 x
 cls:∀s∈p.st,Cz s.cls
theorem Cz.of{c:kg}(h:csz c<=1048576):Cz c:=⟨by unfold csz at h;omega,λl hl=>by have:=jnh hl;unfold csz at h;show tsz l.2<=1048576;omega⟩
theorem Pz.of{p:Prf}(hw:pwf p)(h:psz p<=1048576):Pz p:=by
 unfold psz at h;refine⟨by omega,by omega,λc hc=>?_,λs hs=>?_,λs hs=>?_,λs hs=>(hw.2.1 s hs).2.2.1.1,λs hs=>?_⟩
 .have:=jiM hc;exact Cz.of (by omega)
 .have:=jbk hs;unfold ssz at this;omega
 .have:=jbk hs;unfold ssz at this;omega
 .have:=jbk hs;unfold ssz at this;exact Cz.of (by omega)
theorem jcC(c:kg)(hw:cwf c)(hk:1+mkC c<=100000000):∃(m:Nat)(d:kg),jmk (vi 1) (c.map jD)=some (.top,[vi (m:Nat),.sl 67 (d.map jD)])/\G 12 [cm d,vi 1]=some (vi (m:Nat),[]):=by
 obtain⟨d,d1,d2⟩:=jhT c 1 hk hw;simp only[Int.natCast_one]at d1 d2;have n1:¬((1+mkC c:Nat):Int)<0:=by omega
 refine⟨1+mkC c,d,?_,?_⟩
 .rw [jxr];simp only[jg,d1,List.getElem?_cons_zero]
 .rw [g12];simp only[jg,d2,n1]
theorem jlD{c:kg}(h:zD c=true):cwf c/\mkC c<=10000000:=by
 have cn:=(Qv h).1;have hl:=cn.1;refine⟨⟨λl hl=>(cn.tz l hl).wf,by omega⟩,?_⟩;have hz:∀l∈c,tsz l.2<=1048576:=λl hl=>cn.tz l hl;have key:∀d:kg,(∀l∈d,tsz l.2<=1048576)->mkC d<=1048578*d.length:=λd=>by
  induction d with
  |nil=>intro _;exact Nat.zero_le _
  |cons l d ih=>
   intro h;have h1:=ih λx hx=>h x (by simp[hx]);have h2:=jdd l.2.args;have h4:=ze l.2;have h3:=h l (by simp);rw[mkC,List.length_cons,Nat.mul_add];omega
 have:=key c hz;have:1048578*c.length<=1048578*8:=Nat.mul_le_mul_left _ hl;omega
end Go.Proofs.YtkkcepmpbackoaaGreatDoor
