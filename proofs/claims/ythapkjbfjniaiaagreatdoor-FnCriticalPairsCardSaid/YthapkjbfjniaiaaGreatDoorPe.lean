/- Pe -/
import Derived.Test.YthapkjbfjniaiaaGreatDoorPd
import Derived.Test.YthapkjbfjniaiaaGreatDoorPb
import Derived.Test.YthapkjbfjniaiaaGreatDoorPa
import Derived.Test.YthapkjbfjniaiaaGreatDoorPq
import Derived.KernelRfl
namespace Go.Proofs.YthapkjbfjniaiaaGreatDoor
open Go Go.RowKit Go.Proofs.YthapkjbfjniaiaaGreatDoor.Abs
set_option linter.unusedSimpArgs false
set_option linter.unusedVariables false
set_option maxHeartbeats 1000000
theorem jrj:∀{q:Xf}{t:T},okP q t->atI (q.map λn:Nat=>(n:Int)) t=some (atT q t)
 | [],_,_=>rfl
 |i::q,t,h=>by
  show(if 0<=(i:Int)/\(i:Int)<(t.args.length:Int)then atI (q.map λn:Nat=>(n:Int)) (t.args.getD ((i:Int)).toNat (.mk [] []))else none)=_;rw[ju ⟨by omega,by have:=h.1;omega⟩,Int.toNat_natCast];exact jrj h.2
theorem jtJ(t:T)(q:Xf)(ht:Tz t)(hq:okP q t)(hl:q.length<=1048576):G 40 [tm t,pln q]=some (.tup [tm (atT q t),vb true],[])/\G 53 [tm t,pln q]=some (.tup [tm (atT q t),vb true],[]):=by
 refine⟨?_,at_eq t q ht hq (by omega)⟩;have:=jz5 t (q.map λn:Nat=>(n:Int)) ht (by rw[jbP];exact hl);rw[jwe,jrj hq]at this;exact this
theorem tm2(l r:T):tm (.mk [61] [l,r]) = .agg [sv [61],.sl 2 [[sv l.name,tms l.args],[sv r.name,tms r.args]]]:=by
 show A.agg [_,A.sl 2 [jbY l,jbY r]]=_;rw[jhF l,jhF r];rfl
theorem jjD{t:T}(h:okT t=true)(hn:nodes t<=100000):Tz t:=by have:=jjK t h;unfold Tz;omega
def jDj(o:Option T):Out:=match o with|none=>(.top,[sv [],vb false,.sl 66 []])|some u=>(.top,[sv u.name,vb true,.sl 66 (u.args.map jbY)])
def jDk(o:Option T):Out:=match o with|none=>(.tup [.agg [sv [],.sl 2 []],vb false],[])|some u=>(.tup [tm u,vb true],[])
theorem hRp(x y:A)(k:Nat)(r:Xc):hR k (A.top,[x,y,.sl k r]) 2=some r:=by
 unfold hR;simp
section
variable{x y:T}(hx:RL x)(hy:RL y){q:Xf}(hq:q∈jjz (jge y))
include hx hy hq
theorem jvc:jqZ (tm x) (tm y) (pln q)=some (jDj (jiu x y q)):=by
 obtain⟨ok,hl⟩:=jlO _ q hq;have nx:=hx.nd;have ny:=hy.nd;have tx0:=jjD hx.2.2.1 (by omega);have tx1:=jjD hx.2.2.2.1 (by omega);have ty0:=jjD hy.2.2.1 (by omega);have ty1:=jjD hy.2.2.2.1 (by omega);obtain⟨j0,j1⟩:=jkh hx.2.1;obtain⟨i0,i1⟩:=jkh hy.2.1;have a1:=(jtJ (jge y) q ty0 ok (by omega)).1;have hs:=jtK ok hy.2.2.1;have hn:=jlo ok;have v1:=jjr (atT q (jge y)) (Or.inl hs);have ea:=jlu hs (by omega);have ex:=jlu hx.2.2.1 (by omega);have u1:=jxG (atT q (jge y)) (jge x) ea ex;rw[jsl ex ea]at u1;rw[jBf];cases hv:jc2 (atT q (jge y)).name<;>rw[hv]at v1
 rotate_left
 .have ho:jiu x y q=none:=by unfold jiu;rw[ju hv]
  rw[ho];simp only[evz,i0,jbV,a1,v1];rfl
 cases hu:jj2 (jge x) (atT q (jge y))with
 |none=>
  rw[hu]at u1;have u1:G 42 [tm (atT q (jge y)),tm (jge x)]=some (.tup [.agg [.sl 3 []],vb false],[]):=u1;have ho:jiu x y q=none:=by unfold jiu;rw[jo (by rw[hv];decide),hu]
  rw[ho];simp only[evz,i0,j0,jbV,a1,v1,u1];rfl
 |some s=>
  rw[hu]at u1;have u1:G 42 [tm (atT q (jge y)),tm (jge x)]=some (.tup [sb s,vb true],[]):=u1;have hsv:=jkf ex ea hu;obtain⟨w1,w2,w3,w4,w5⟩:=jlN hx hy ok hsv;have r1:=jnA (jhE x) tx1 q (jge y) ty0 ok (by omega);have tw:=jjD w1 (by omega);have p1:=jlJ s hsv (jhD (jhE x) q (jge y)) (Or.inl w1) tw;have p2:=jlJ s hsv (jhE y) (Or.inl hy.2.2.2.1) ty1;have to2:tm (jjc s x y q) = .agg [sv [61],.sl 2 [[sv (sub s (jhD (jhE x) q (jge y))).name,tms (sub s (jhD (jhE x) q (jge y))).args],[sv (sub s (jhE y)).name,tms (sub s (jhE y)).args]]]:=tm2 _ _;have eo:jjc s x y q = .mk [61] [sub s (jhD (jhE x) q (jge y)),sub s (jhE y)]:=rfl;have ho:jiu x y q=if !je7 (jjc s x y q) || dq (sub s (jhD (jhE x) q (jge y))) (sub s (jhE y))then none else some (jiI 88 (jjc s x y q)):=by
   unfold jiu;rw[jo (by rw[hv];decide),hu]
  have nl:nodes (sub s (jhD (jhE x) q (jge y)))<=2700/\nodes (sub s (jhE y))<=2700:=by
   simp only[jjc,nodes,jcO]at w5;omega
  rw[ho];generalize sub s (jhD (jhE x) q (jge y))=l at *;generalize sub s (jhE y)=r at *;have tl:=jjD w3 (by omega);have tr:=jjD w4 (by omega);have to:Tz (jjc s x y q):=by
   rw[eo];have h1:=jjK l w3;have h2:=jjK r w4;unfold Tz;rw[jhG];simp only[jks,KP,YU,T.name,T.args];omega
  have sm:=jk2 (jjc s x y q) to.wf to;have en:=jix l tl.wf r tr.wf;have k0:pIx 2 (vi 0)=some 0:=jiG (i:=0) (by omega);have k1:pIx 2 (vi 1)=some 1:=jiG (i:=1) (by omega);have z0:jf5 [[sv l.name,tms l.args],[sv r.name,tms r.args]] 0 0 2=some (tm l):=by cases l;rfl
  have z1:jf5 [[sv l.name,tms l.args],[sv r.name,tms r.args]] 1 0 2=some (tm r):=by cases r;rfl
  have ln:JN [[sv l.name,tms l.args],[sv r.name,tms r.args]]=2:=rfl;cases hsm:je7 (jjc s x y q)<;>rw[hsm]at sm
  .rw [eo,tm2]at sm;rw[show(!false || dq l r)=true from rfl,ju rfl];simp only[evz,i0,i1,j0,j1,jbV,a1,v1,u1,r1,p1,p2,sm];rfl
  cases hd:dq l r<;>rw[hd]at en
  rotate_left
  .rw [eo,tm2]at sm;rw[show(!true || true)=true from rfl,ju rfl];simp only[evz,i0,i1,j0,j1,jbV,a1,v1,u1,r1,p1,p2,sm,ln,k0,k1,z0,z1,en];rfl
  .have he:jmH (jjc s x y q)=true:=by
    unfold jmH jjS;rw[hsm,eo];show(_ || (decide ([61]=[61]) && (decide (2=2) && (true && (okT l && okT r)))))=true;rw[w3,w4];simp
   have rn:=(jAN 88 (by decide) (jjc s x y q) to he).2;rw[eo,tm2]at sm;rw[to2]at rn;rw[show(!true || false)=false from rfl,jo Bool.false_ne_true];generalize jiI 88 (jjc s x y q)=u at *;show _=some (A.top,[sv u.name,vb true,.sl 66 (u.args.map jbY)]);simp only[evz,i0,i1,j0,j1,jbV,a1,v1,u1,r1,p1,p2,sm,ln,k0,k1,z0,z1,en,rn,hRp,List.getElem?_cons_zero,List.getElem?_cons_succ,jkl,jkm]
theorem jvd:G 24 [tm x,tm y,pln q]=some (jDk (jiu x y q)):=by
 obtain⟨ok,hl⟩:=jlO _ q hq;have nx:=hx.nd;have ny:=hy.nd;have tx0:=jjD hx.2.2.1 (by omega);have tx1:=jjD hx.2.2.2.1 (by omega);have ty0:=jjD hy.2.2.1 (by omega);have ty1:=jjD hy.2.2.2.1 (by omega);obtain⟨j0,j1⟩:=jkh hx.2.1;obtain⟨i0,i1⟩:=jkh hy.2.1;have a1:=(jtJ (jge y) q ty0 ok (by omega)).2;have hs:=jtK ok hy.2.2.1;have hn:=jlo ok;have v1:=jit (atT q (jge y)).name (((jhC _).1 (jjD hs (by omega)).wf).1);have ea:=jlu hs (by omega);have ex:=jlu hx.2.2.1 (by omega);have u1:=jsT (jge x) (atT q (jge y)) ex ea;rw[g24];cases hv:jc2 (atT q (jge y)).name<;>rw[hv]at v1
 rotate_left
 .have ho:jiu x y q=none:=by unfold jiu;rw[ju hv]
  rw[ho];simp only[evz,i0,jbV,a1,v1];rfl
 cases hu:jj2 (jge x) (atT q (jge y))with
 |none=>
  rw[hu]at u1;have u1:G 54 [tm (jge x),tm (atT q (jge y))]=some (.tup [.agg [.sl 3 []],vb false],[]):=u1;have ho:jiu x y q=none:=by unfold jiu;rw[jo (by rw[hv];decide),hu]
  rw[ho];simp only[evz,i0,j0,jbV,a1,v1,u1];rfl
 |some s=>
  rw[hu]at u1;have u1:G 54 [tm (jge x),tm (atT q (jge y))]=some (.tup [sb s,vb true],[]):=u1;have hsv:=jkf ex ea hu;obtain⟨w1,w2,w3,w4,w5⟩:=jlN hx hy ok hsv;have r1:=juu (jhE x) tx1 q (jge y) ty0 ok (by omega);have tw:=jjD w1 (by omega);have sz:Sz 1048576 s:=(jiQ hsv).sz;have p1:=jk4 s sz (jhD (jhE x) q (jge y)) tw;have p2:=jk4 s sz (jhE y) ty1;have to2:tm (jjc s x y q) = .agg [sv [61],.sl 2 [[sv (sub s (jhD (jhE x) q (jge y))).name,tms (sub s (jhD (jhE x) q (jge y))).args],[sv (sub s (jhE y)).name,tms (sub s (jhE y)).args]]]:=tm2 _ _;have eo:jjc s x y q = .mk [61] [sub s (jhD (jhE x) q (jge y)),sub s (jhE y)]:=rfl;have ho:jiu x y q=if !je7 (jjc s x y q) || dq (sub s (jhD (jhE x) q (jge y))) (sub s (jhE y))then none else some (jiI 88 (jjc s x y q)):=by
   unfold jiu;rw[jo (by rw[hv];decide),hu]
  have nl:nodes (sub s (jhD (jhE x) q (jge y)))<=2700/\nodes (sub s (jhE y))<=2700:=by
   simp only[jjc,nodes,jcO]at w5;omega
  rw[ho];generalize sub s (jhD (jhE x) q (jge y))=l at *;generalize sub s (jhE y)=r at *;have tl:=jjD w3 (by omega);have tr:=jjD w4 (by omega);have to:Tz (jjc s x y q):=by
   rw[eo];have h1:=jjK l w3;have h2:=jjK r w4;unfold Tz;rw[jhG];simp only[jks,KP,YU,T.name,T.args];omega
  have sm:=jmm (jjc s x y q) to.wf to (by rw[eo];rfl)
  have eq0:jjS (jjc s x y q)=je7 (jjc s x y q):=by
   unfold jjS;rw[eo];show(decide (2=2) && (je7 _ && (okT l && okT r)))=_;rw[w3,w4];simp
  rw[eq0]at sm;have en:=jjI l tl.wf r tr.wf;have k0:pIx 2 (vi 0)=some 0:=jiG (i:=0) (by omega);have k1:pIx 2 (vi 1)=some 1:=jiG (i:=1) (by omega);have z0:jf5 [[sv l.name,tms l.args],[sv r.name,tms r.args]] 0 0 2=some (tm l):=by cases l;rfl
  have z1:jf5 [[sv l.name,tms l.args],[sv r.name,tms r.args]] 1 0 2=some (tm r):=by cases r;rfl
  have ln:JN [[sv l.name,tms l.args],[sv r.name,tms r.args]]=2:=rfl;cases hsm:je7 (jjc s x y q)<;>rw[hsm]at sm
  .rw [eo,tm2]at sm;rw[show(!false || dq l r)=true from rfl,ju rfl];simp only[evz,i0,i1,j0,j1,jbV,a1,v1,u1,r1,p1,p2,sm];rfl
  cases hd:dq l r<;>rw[hd]at en
  rotate_left
  .rw [eo,tm2]at sm;rw[show(!true || true)=true from rfl,ju rfl];simp only[evz,i0,i1,j0,j1,jbV,a1,v1,u1,r1,p1,p2,sm,ln,k0,k1,z0,z1,en];rfl
  .have o1:=jDi l r tl tr (by omega) (by omega);have hno:nodes (jjc s x y q)<=30:=by simp only[je7,jm,KR]at hsm;exact hsm.1
   have rn:=jly 88 (jiN [] (jjc s x y q)) (jkQ (by omega)) (jjc s x y q) to;rw[<-eo]at o1;rw[eo,tm2]at sm;rw[to2]at rn;rw[show(!true || false)=false from rfl,jo Bool.false_ne_true];have hr0:∀R l',hR 2 (A.top,[.sl 2 R,.sl 1 l']) 0=some R:=λ_ _=>rfl;have hr1:∀R l',hR 1 (A.top,[.sl 2 R,.sl 1 l']) 1=some l':=λ_ _=>rfl;have rn:G 21 [.agg [sv [61],.sl 2 [[sv l.name,tms l.args],[sv r.name,tms r.args]]],strs (jiN [] (jjc s x y q)),sv [88]]=some (tm (jiI 88 (jjc s x y q)),[]):=rn;generalize jiI 88 (jjc s x y q)=u at *;generalize jiN [] (jjc s x y q)=os at *;show _=some (A.tup [tm u,vb true],[]);simp only[evz,i0,i1,j0,j1,jbV,a1,v1,u1,r1,p1,p2,sm,ln,k0,k1,z0,z1,en,o1,hr0,hr1,rn]
end
theorem RL.sz{t:T}(h:RL t):tsz t<=1000:=by
 have n:=h.nd;have h1:=jjK _ h.2.2.1;have h2:=jjK _ h.2.2.2.1;rw[jhG,h.two,h.1];simp only[jks,KP,YU];omega
theorem RL.tz{t:T}(h:RL t):Tz t:=by have:=h.sz;unfold Tz;omega
theorem jqL{x y:T}(hx:RL x)(hy:RL y){q:Xf}(hq:q∈jjz (jge y)){u:T}(h:jiu x y q=some u):RL u:=by
 obtain⟨ok,_⟩:=jlO _ q hq;have nx:=hx.nd;have ny:=hy.nd;have hs:=jtK ok hy.2.2.1;have hn:=jlo ok;unfold jiu at h;split at h
 .cases h
 split at h
 .cases h
 rename_i s hu;have hsv:=jkf (jlu hx.2.2.1 (by omega)) (jlu hs (by omega)) hu;obtain⟨w1,w2,w3,w4,w5⟩:=jlN hx hy ok hsv;split at h
 .cases h
 rename_i hc;cases h;have hsm:je7 (jjc s x y q)=true:=by
  cases e:je7 (jjc s x y q)
  .rw [e]at hc;exact absurd rfl hc
  .rfl
 simp only[je7,jm,KR]at hsm;exact joZ (by decide) ⟨rfl,rfl,w3,w4,hsm.1⟩
theorem jok(acc:Xg)(o:Option T):(jl0 acc o).length<=acc.length+1:=by
 cases o with
 |none=>exact Nat.le_succ _
 |some t=>
  show(if _ then acc else acc++[t]).length<=_;split
  .omega
  .simp
theorem jol{p:T->Prop}{acc:Xg}(h:∀u∈acc,p u){o:Option T}(ho:∀u,o=some u->p u):∀u∈jl0 acc o,p u:=by
 cases o with
 |none=>exact h
 |some t=>
  show ∀u∈(if acc.any (λu=>dq u t)then acc else acc++[t]),p u;split
  .exact h
  .intro u hu;rcases j4.1 hu with hu|hu
   .exact h u hu
   .rw [jA.1 hu];exact ho t rfl
theorem jxX(acc:Xg)(hl:acc.length<=1000)(hz:∀v∈acc,RL v)(u:T)(hu:RL u):G 17 [A.sl 2 (acc.map jbY),A.fn 18 [A.elt [sv u.name,tms u.args] 0]]=some (vb (acc.any λv=>dq v u),[]):=
 jlr (f:=18) (caps:=[A.elt [sv u.name,tms u.args] 0]) rfl (λv=>dq v u) acc (by show acc.length<=9223372036854775807;omega) λv hv=>by
  have e:=jix v (hz v hv).tz.wf u hu.tz.wf;have l:jch 2 (.elt [sv u.name,tms u.args] 0)=some (tm u):=by cases u;rfl
  rw[g18];simp only[evz,l,e]
theorem jpw(acc:Xg)(u:T):jgD (acc.map jbY) [[sv u.name,tms u.args]]=(acc++[u]).map jbY:=by
 unfold jgD;rw[jbM,show[sv u.name,tms u.args]=jbY u from(jhF u).symm];rfl
section
variable{x y:T}(hx:RL x)(hy:RL y)
include hx hy
theorem jrq:∀(r M:List Xf)(acc:Xg),M++r=jjz (jge y)->(∀u∈acc,RL u)->acc.length+r.length<=1000->(M++r).length<=1000->
  jm3 (.sl 1 ((M++r).map plc)) (vi ((M++r).length:Nat)) (vi (M.length:Nat)) (sv x.name) (tms x.args) (sv y.name) (tms y.args) (acc.map jbY)=some (.top,[vb true,.sl 66 ((r.foldl (λacc q=>jl0 acc (jiu x y q)) acc).map jbY)])
 | [],M,acc,_,_,_,_=>by
  have nlt:¬((M.length:Nat):Int)<((M.length:Nat):Int):=by omega
  rw[jwO,KQ];simp only[evz,nlt,List.foldl_nil]
 |q::r,M,acc,hM,ha,hl,hn=>by
  have h1:=joL M r q;have h2:zN 1 (.sl 1 ((M++q::r).map plc)) (vi (M.length:Nat))=some (.elt (plc q) 0):=joK (f:=plc) (k:=1) M r q;have h3:jci (.elt (plc q) 0)=some (pln q):=rfl;have h5:=jeZ (i:=M.length) (n:=(M++q::r).length) (by simp) (by omega);have hq:q∈jjz (jge y):=by rw[<-hM];simp
  have e:=jvc hx hy hq;have hrl:∀u,jiu x y q=some u->RL u:=λu h=>jqL hx hy hq h;have hal:=jok acc (jiu x y q);have ih:=jrq r (M++[q]) (jl0 acc (jiu x y q)) (by rw[<-hM];simp) (jol ha hrl) (by simp only[KP]at hl;omega) (by simpa using hn);rw[show(M++[q]).length=M.length+1 by simp,jio,List.singleton_append]at ih;rw[jwO,List.foldl_cons];cases ho:jiu x y q with
  |none=>
   rw[ho]at e ih;have e:jqZ (tm x) (tm y) (pln q)=some (.top,[sv [],vb false,.sl 66 []]):=e;have ih:jm3 (.sl 1 ((M++q::r).map plc)) (vi ((M++q::r).length:Nat)) (vi ((M.length+1:Nat):Int)) (sv x.name) (tms x.args) (sv y.name) (tms y.args) (acc.map jbY)=_:=ih;simp only[evz,h1,h2,h3,e,h5,ih,hRp,List.getElem?_cons_zero,List.getElem?_cons_succ,jkl,jkm]
  |some u=>
   rw[ho]at e ih;have e:jqZ (tm x) (tm y) (pln q)=some (.top,[sv u.name,vb true,.sl 66 (u.args.map jbY)]):=e;have hu:=hrl u ho;have hc:=jxX acc (by simp only[KP]at hl;omega) ha u hu;cases hb:(acc.any λv=>dq v u)<;>rw[hb]at hc
   .have ea:jl0 acc (some u)=acc++[u]:=by show(if _ then acc else acc++[u])=_;rw[hb];rfl
    have hf:jbk (acc.length+1) 40=true:=js0 (by simp only[KP]at hl;omega)
    have ap:=jpw acc u;rw[ea]at ih⊢;simp only[evz,h1,h2,h3,e,h5,hc,hf,ap,ih,hRp,List.getElem?_cons_zero,List.getElem?_cons_succ,jkl,jkm,jrw]
   .have ea:jl0 acc (some u)=acc:=by show(if _ then acc else acc++[u])=_;rw[hb];rfl
    rw[ea]at ih⊢;simp only[evz,h1,h2,h3,e,h5,hc,ih,hRp,List.getElem?_cons_zero,List.getElem?_cons_succ,jkl,jkm]
omit hx hy in
theorem inS(P:A)(i:Nat)(hi:i<=100000)(u:T)(hu:RL u)(b1 b2 b3 b4:A):∀(r M:Xg)(b:Bool),(∀v∈r,RL v)->(M++r).length<=1000->
  jvN P (vi (i:Nat)) (vb b) (vi (M.length:Nat)) b1 b2 b3 b4 (sv u.name) (tms u.args) ((M++r).map jbY)=jra P (vi ((i+1:Nat):Int)) b1 b2 b3 b4 ((if b && !(r.any λv=>dq v u)then M++r++[u]else M++r).map jbY)
 | [],M,b,_,hl=>by
  have h5:=jeZ (i:=i) (n:=i+1) (by omega) (by omega);have nlt:¬((M.length:Nat):Int)<((M.length:Nat):Int):=by omega
  have hf:jbk (M.length+1) 40=true:=js0 (by simp only[KQ]at hl;omega)
  have ap:=jpw M u;rw[jyK,KQ];cases b
  .rw [Bool.false_and,jo Bool.false_ne_true];simp only[evz,nlt,h5]
  .rw [show(true && !(([]:Xg).any λv=>dq v u))=true from rfl,ju rfl];simp only[evz,nlt,hf,ap,h5]
 |v::r,M,false,_,hl=>by
  have h5:=jeZ (i:=i) (n:=i+1) (by omega) (by omega);have h1:=joL M r v;rw[jyK,Bool.false_and,jo Bool.false_ne_true];simp only[evz,h1,h5]
 |v::r,M,true,hv,hl=>by
  have h1:=joL M r v;have h4:=jeZ (i:=M.length) (n:=(M++v::r).length) (by simp) (by omega);have i0:pIx (M++v::r).length (vi (M.length:Nat))=some M.length:=jiG (by simp);have z0:jf5 ((M++v::r).map jbY) M.length 0 2=some (tm v):=by
   unfold jf5;rw[kL];simp;rw[jhF];rfl
  have e:=jjI v (hv v (by simp)).tz.wf u hu.tz.wf;have ih:=inS P i hi u hu b1 b2 b3 b4 r (M++[v]) (!dq v u) (λw hw=>hv w (by simp[hw])) (by simpa using hl);rw[show(M++[v]).length=M.length+1 by simp,jio,List.singleton_append]at ih;rw[jyK,List.any_cons];cases hd:dq v u<;>rw[hd]at e ih
  .rw [show(!false)=true from rfl,Bool.true_and]at ih;rw[Bool.false_or,Bool.true_and];simp only[evz,h1,i0,z0,e,h4,ih]
  .rw [show(!true)=false from rfl,Bool.false_and,jo Bool.false_ne_true]at ih;rw[Bool.true_or,show(true && !true)=false from rfl,jo Bool.false_ne_true];simp only[evz,h1,i0,z0,e,h4,ih]
theorem jrr:∀(r M:List Xf)(acc:Xg),M++r=jjz (jge y)->(∀u∈acc,RL u)->acc.length+r.length<=1000->(M++r).length<=1000->
  jra (.sl 1 ((M++r).map plc)) (vi (M.length:Nat)) (sv x.name) (tms x.args) (sv y.name) (tms y.args) (acc.map jbY)=some (.tup [tms (r.foldl (λacc q=>jl0 acc (jiu x y q)) acc),vb true],[])
 | [],M,acc,_,_,_,_=>by
  have nlt:¬((M.length:Nat):Int)<((M.length:Nat):Int):=by omega
  rw[jAq,KQ];simp only[evz,nlt,List.foldl_nil]
 |q::r,M,acc,hM,ha,hl,hn=>by
  have h1:=joL M r q;have h2:zN 1 (.sl 1 ((M++q::r).map plc)) (vi (M.length:Nat))=some (.elt (plc q) 0):=joK (f:=plc) (k:=1) M r q;have h3:jci (.elt (plc q) 0)=some (pln q):=rfl;have hq:q∈jjz (jge y):=by rw[<-hM];simp
  have e:=jvd hx hy hq;have hrl:∀u,jiu x y q=some u->RL u:=λu h=>jqL hx hy hq h;have hal:=jok acc (jiu x y q);have hML:M.length<=1000:=by rw[Y0]at hn;omega
  have hal2:acc.length<=1000:=by omega
  have ih:=jrr r (M++[q]) (jl0 acc (jiu x y q)) (by rw[<-hM];simp) (jol ha hrl) (by simp only[KP]at hl;omega) (by simpa using hn)
  rw[show(M++[q]).length=M.length+1 by simp,jio,List.singleton_append]at ih;rw[jAq,List.foldl_cons];cases ho:jiu x y q with
  |none=>
   rw[ho]at e ih;have e:G 24 [tm x,tm y,pln q]=some (.tup [.agg [sv [],.sl 2 []],vb false],[]):=e;have hin2:jvN (.sl 1 ((M++q::r).map plc)) (vi (M.length:Nat)) (vb false) (vi 0) (sv x.name) (tms x.args) (sv y.name) (tms y.args) (sv []) (.sl 2 []) (acc.map jbY)=jra (.sl 1 ((M++q::r).map plc)) (vi ((M.length+1:Nat):Int)) (sv x.name) (tms x.args) (sv y.name) (tms y.args) (acc.map jbY):=by
    have h5:=jeZ (i:=M.length) (n:=M.length+1) (by omega) (by omega);rw[jyK];by_cases hc:(0:Int)<((acc.length:Nat):Int)
    .simp only[evz,hc,h5]
    .simp only[evz,hc,h5]
   have ih:jra (.sl 1 ((M++q::r).map plc)) (vi ((M.length+1:Nat):Int)) (sv x.name) (tms x.args) (sv y.name) (tms y.args) (acc.map jbY)=_:=ih;simp only[evz,h1,h2,h3,e,hin2,ih]
  |some u=>
   rw[ho]at e ih;have e:G 24 [tm x,tm y,pln q]=some (.tup [tm u,vb true],[]):=e;have hu:=hrl u ho;have hin:=inS (.sl 1 ((M++q::r).map plc)) M.length (by omega) u hu (sv x.name) (tms x.args) (sv y.name) (tms y.args) acc [] true ha (by rw[qf];exact hal2);have ea:jl0 acc (some u)=if true && !(acc.any λv=>dq v u)then[]++acc++[u]else[]++acc:=by
    show(if _ then acc else acc++[u])=_;cases (acc.any λv=>dq v u)<;>rfl
   rw[<-ea,ih]at hin;simp only[qf,YU,Int.natCast_zero]at hin;simp only[evz,h1,h2,h3,e,hin]
end
theorem jru{t:T}(h:t.name=[61])(he:jjS t=true):jmH t=true:=by
 unfold jmH;rw[h,he];simp
theorem js2{t:T}(h:nodes t<=30):(jjz t).length<=30:=by rw[jmU];exact h
theorem joy{x y:T}(hx:RL x)(hy:RL y):∀(r:List Xf)(acc:Xg),(∀q∈r,q∈jjz (jge y))->(∀u∈acc,RL u)->(∀u∈r.foldl (λacc q=>jl0 acc (jiu x y q)) acc,RL u)/\(r.foldl (λacc q=>jl0 acc (jiu x y q)) acc).length<=acc.length+r.length
 | [],acc,_,ha=>⟨ha,jR _⟩
 |q::r,acc,hq,ha=>by
  obtain⟨h1,h2⟩:=joy hx hy r (jl0 acc (jiu x y q)) (λp hp=>hq p (by simp[hp])) (jol ha λu h=>jqL hx hy (hq q (by simp)) h);have:=jok acc (jiu x y q);refine⟨h1,?_⟩;rw[List.foldl_cons,KP];omega
theorem jx2(a b:T)(ha:Tz a)(hb:Tz b):∃(l:Xg)(p q:Bool),G 8 [tm a]=some (vb p,[])/\G 8 [tm b]=some (vb q,[])/\(∀u∈l,RL u)/\l.length<=100/\jxT (tm a) (tm b)=some (.top,[vb (p && q),.sl 66 (l.map jbY)])/\G 7 [tm a,tm b]=some (.tup [tms l,vb (p && q)],[])/\
  ((p && q)=true->(RL a/\jjS a=true)/\(RL b/\jjS b=true)/\l=jmp (jiI 65 a) (jiI 66 b))/\((p && q)=false->l=[]):=by
 obtain⟨p,p1,p2,p3⟩:=jup a ha;obtain⟨q,q1,q2,q3⟩:=jup b hb;refine(λ(H:∃l:Xg,(∀u∈l,RL u)/\l.length<=100/\jxT (tm a) (tm b)=some (.top,[vb (p && q),.sl 66 (l.map jbY)])/\G 7 [tm a,tm b]=some (.tup [tms l,vb (p && q)],[])/\
  ((p && q)=true->(RL a/\jjS a=true)/\(RL b/\jjS b=true)/\l=jmp (jiI 65 a) (jiI 66 b))/\((p && q)=false->l=[]))=>?_) ?_
 .obtain ⟨l,h⟩:=H;exact⟨l,p,q,p2,q2,h⟩
 cases p
 .refine ⟨[],(λu h=>by cases h),by simp,?_,?_,(λh=>by cases h),λ_=>rfl⟩
  .rw [jAa];simp only[evz,p2];rfl
  .rw [g7];simp only[evz,p1];rfl
 cases q
 .refine ⟨[],(λu h=>by cases h),by simp,?_,?_,(λh=>by cases h),λ_=>rfl⟩
  .rw [jAa];simp only[evz,p2,q2];rfl
  .rw [g7];simp only[evz,p1,q1];rfl
 obtain⟨na,ea,va⟩:=p3 rfl;obtain⟨nb,eb,vb'⟩:=q3 rfl;have la:=juo na ea;have lb:=juo nb eb;have hx:RL (jiI 65 a):=joZ (by decide) la;have hy:RL (jiI 66 b):=joZ (by decide) lb;have r1:=(jAN 65 (by decide) a ha (jru na ea)).1;have r2:=(jAN 66 (by decide) b hb (jru nb eb)).1;have s1:=jBX a ha la.2.2.2.2 (by rw[na];decide);have s2:=jBX b hb lb.2.2.2.2 (by rw[nb];decide);have s3:G 21 [tm a,strs (jiN [] a),sv [65]]=some (tm (jiI 65 a),[]):=jly 65 (jiN [] a) (jkQ (by have:=la.2.2.2.2;omega)) a ha;have s4:G 21 [tm b,strs (jiN [] b),sv [66]]=some (tm (jiI 66 b),[]):=jly 66 (jiN [] b) (jkQ (by have:=lb.2.2.2.2;omega)) b hb;have ny:=hy.nd;have ty0:=jjD hy.2.2.1 (by omega);obtain⟨i0,_⟩:=jkh hy.2.1;have po:=jqM (jge (jiI 66 b)) ty0;have wa:=walk_eq (jge (jiI 66 b)) [] ty0 (by have:=ty0;unfold Tz at this;simp only[YU];omega);have wa:G 23 [tm (jge (jiI 66 b)),.sl 1 []]=some (.sl 1 ((jjz (jge (jiI 66 b))).map plc),[]):=wa;have hp:=js2 (t:=jge (jiI 66 b)) (by omega);obtain⟨f1,f2⟩:=joy hx hy (jjz (jge (jiI 66 b))) [] (λ_ h=>h) (λu h=>by cases h);have cI:=jrq hx hy (jjz (jge (jiI 66 b))) [] [] rfl (λu h=>by cases h) (by simp only[YU];omega) (by rw[qf];omega);have cS:=jrr hx hy (jjz (jge (jiI 66 b))) [] [] rfl (λu h=>by cases h) (by simp only[YU];omega) (by rw[qf];omega);simp only[qf,YU,Int.natCast_zero,List.map_nil]at cI cS;have hl:(jjz (jge (jiI 66 b))).foldl (λacc q=>jl0 acc (jiu (jiI 65 a) (jiI 66 b) q)) []=jmp (jiI 65 a) (jiI 66 b):=rfl;rw[hl]at f1 f2 cI cS;clear hl;generalize hL:jmp (jiI 65 a) (jiI 66 b)=l at *;generalize jjz (jge (jiI 66 b))=P at *;generalize jiI 65 a=x at *;generalize jiI 66 b=y at *;have h02:jz2 (.sl 1 (P.map plc)) (vi 0) (sv x.name) (tms x.args) (sv y.name) (tms y.args) []=jra (.sl 1 (P.map plc)) (vi 0) (sv x.name) (tms x.args) (sv y.name) (tms y.args) []:=by
  rw[jDg,jAq]
 refine⟨l,f1,by simp only[YU]at f2;omega,?_,?_,(λ_=>⟨⟨la,ea⟩,⟨lb,eb⟩,rfl⟩),λh=>by cases h⟩
 .rw [jAa];simp only[evz,p2,q2,r1,r2,i0,jbV,po,cI]
 .rw [g7];simp only[evz,p1,q1,s1,s2,s3,s4,i0,jbV,wa,h02,cS,List.getElem?_cons_zero]
structure Mdl where
 M:Xb->Xi->Int
 Q:Xb->Xi->Bool
 good:Int->Prop
 ok:∀n vs,good (M n vs)
def jkn(m:Mdl)(e:Xb->Int)(t:T):Bool:=if t.name=[61]/\t.args.length=2 then decide (val m.M e (jge t)=val m.M e (jhE t))else m.Q t.name (t.args.map (val m.M e))
def clV(m:Mdl)(e:Xb->Int)(c:Cls):Prop:=∃l∈c,jkn m e l.2=l.1
def jvC(m:Mdl)(e:Xb->Int):Prop:=∀x,m.good (e x)
def trM(m:Mdl)(c:Cls):Prop:=∀e,jvC m e->clV m e c
def Sd(ps:List Cls)(x:Cls):Prop:=∀m:Mdl,(∀c∈ps,trM m c)->trM m x
theorem jxY{t:T}(h:t.args.length=2):t.args=[jge t,jhE t]:=by
 obtain⟨n,us⟩:=t
 match us,h with
 | [a,b],_=>rfl
section
variable(m:Mdl)
theorem jus{f:Xb->Xb}(hf:∀n,jc2 n=true->jc2 (f n)=true)(e:Xb->Int):∀t:T,okT t=true->val m.M e (jiv f t)=val m.M (λx=>e (f x)) t:=by
 refine T.ind λt ih=>?_;intro ht;rw[jlb];cases hv:jc2 t.name with
 |true=>
  rw[ju rfl,jlW (t:=t) ht hv,jlE];show(if([]:Xg).isEmpty && upN (f t.name)then e (f t.name)else _)=_;rw[jn6 (hf _ hv)];rfl
 |false=>
  have hs:=jlV (jng ht hv);rw[jo Bool.false_ne_true,jkF (t:= .mk t.name (t.args.map (jiv f))) hs,jkF (t:=t) hs];show m.M t.name ((t.args.map (jiv f)).map (val m.M e))=_;rw[qP];exact congrArg _ (List.map_congr_left λa ha=>ih a ha (jhB ht a ha))
variable{m}
end
def jqp(M:Xb->Xi->Int)(e:Xb->Int)(s:je6):Prop:=∀q∈s,e q.1=val M e q.2
section
variable{M:Xb->Xi->Int}{e:Xb->Int}
theorem jxv{s:je6}(h:jqp M e s){n:Xb}(hn:jc2 n=true):val M e (jkc s n)=e n:=by
 rw[jkc];cases hl:look s n with
 |some r=>exact(h _ (jkD hl)).symm
 |none=>
  show val M e (.mk n [])=e n;rw[jlE];show(if([]:Xg).isEmpty && upN n then e n else _)=_;rw[jn6 hn];rfl
theorem jqO{s:je6}(h:jqp M e s){t:T}(ht:okT t=true):val M e (sub s t)=val M e t:=by
 rw[jn7 s e t ht];exact jnp t ht λx hx=>jxv h (jo9 t hx)
theorem jxJ{a b:T}(ha:okT a=true)(hb:okT b=true)(va:jc2 a.name=false)(vb:jc2 b.name=false)(hn:a.name=b.name)(hv:a.args.map (val M e)=b.args.map (val M e)):val M e a=val M e b:=by
 rw[jkF (t:=a) (jlV (jng ha va)),jkF (t:=b) (jlV (jng hb vb)),hn,hv]
theorem juw:∀{us bs:Xg},us.length=bs.length->(∀p∈us.zip bs,val M e p.1=val M e p.2)->us.map (val M e)=bs.map (val M e)
 | [],[],_,_=>rfl
 |a::us,b::bs,hl,h=>by
  rw[zB,zB,h (a,b) (by simp),juw (by simpa using hl) λp hp=>h p (by simp[hp])]
 | [],b::bs,hl,_=>by cases hl
 |a::us,[],hl,_=>by cases hl
theorem jxF:∀(k:Nat)(s:je6)(es:Eqs){u:je6},jjE s es->(∀p∈es,okT p.1=true/\okT p.2=true)->jhp k s es=some (some u)->jqp M e u->jqp M e s/\ ∀p∈es,val M e p.1=val M e p.2:=by
 intro k;induction k with
 |zero=>
  intro s es u h ho hu hs;cases es with
  |nil=>simp only[jhp,jz]at hu;rw[hu];exact⟨hs,λp hp=>by cases hp⟩
  |cons p es=>simp[jhp]at hu
 |succ k ih=>
  intro s es u h ho hu hs;cases es with
  |nil=>simp only[jhp,jz]at hu;rw[hu];exact⟨hs,λp hp=>by cases hp⟩
  |cons p es=>
   obtain⟨l,r⟩:=p;rw[jhp]at hu;cases hst:jiF s l r es with
   |none=>
    have hst:jiF s (l,r).1 (l,r).2 es=none:=hst;rw[hst]at hu;simp at hu
   |some q=>
    have hst':jiF s (l,r).1 (l,r).2 es=some q:=hst;rw[hst']at hu;obtain⟨s',es'⟩:=q;have hu:jhp k s' es'=some (some u):=hu;have hinv:=(jiB h hst).1;obtain⟨ol,or'⟩:=ho (l,r) (Y3 ..);have ores:∀p∈es,okT p.1=true/\okT p.2=true:=λp hp=>ho p (YY _ hp);obtain⟨hv,hi,he⟩:=h;have hk:=ji7 hv;have kl:=jkJ hk l ol;have kr:=jkJ hk r or';have fin:∀{es0:Eqs},jqp M e s->val M e (sub s l)=val M e (sub s r)->(∀p∈es,val M e p.1=val M e p.2)->jqp M e s/\ ∀p∈(l,r)::es,val M e p.1=val M e p.2:=by
     intro _ h1 h2 h3;refine⟨h1,λp hp=>?_⟩;rcases jK.1 hp with rfl|hp
     .rw [jqO h1 ol,jqO h1 or']at h2;exact h2
     .exact h3 p hp
    unfold jiF at hst;split at hst
    .cases hst
    split at hst
    .rename_i heq;cases hst;obtain⟨h1,h2⟩:=ih s es hinv ores hu hs;exact fin (es0:=[]) h1 (by rw[jh4.1 heq]) h2
    split at hst
    .rename_i hvar;split at hst
     .cases hst
     rename_i hno;cases hst;obtain⟨h1,h2⟩:=ih _ es hinv ores hu hs;have c1:(jeY (sub s l) (sub s r)).1 ∉ jhx (jeY (sub s l) (sub s r)).2:=λh=>hno (Or.inl h);have c3:jfN [jeY (sub s l) (sub s r)]=true:=by
      cases h:jfN [jeY (sub s l) (sub s r)]with
      |true=>rfl
      |false=>exact absurd (Or.inr (Or.inl h)) hno
     obtain⟨_,_,h4⟩:=jf9 c3;obtain⟨k1,_,k3⟩:=h4 _ (List.mem_singleton_self _);have hb:look s (jeY (sub s l) (sub s r)).1=none/\(∀x∈jhx (jeY (sub s l) (sub s r)).2,look s x=none)/\(e (jeY (sub s l) (sub s r)).1=val M e (jeY (sub s l) (sub s r)).2->val M e (sub s l)=val M e (sub s r)):=by
      unfold jeY;split
      .rename_i hc;have hy:jc2 (sub s r).name=true:=by
        rcases hc with hc|hc
        .rcases hvar with h|h
         .rw [hc]at h;cases h
         .exact h
        .exact hc.1
       exact⟨jkt hi r (by rw[vsv hy];simp),λx hx=>jkt hi l hx,λh=>by rw[jlW kr hy];exact h.symm⟩
      .rename_i hc;have hx:jc2 (sub s l).name=true:=by
        cases h:jc2 (sub s l).name with
        |true=>rfl
        |false=>exact absurd (Or.inl h) hc
       exact⟨jkt hi l (by rw[vsv hx];simp),λx hx=>jkt hi r hx,λh=>by rw[jlW kl hx];exact h⟩
     generalize jeY (sub s l) (sub s r)=b at *;obtain⟨n,t⟩:=b;obtain⟨_,_,c5,_⟩:=jor hv hi k1 hb.1 hb.2.1 c1 k3;have hb1:e n=val M e t:=h1 (n,t) ((c5 _).2 (Or.inr rfl));have hsb:jqp M e [(n,t)]:=λq hq=>by rw[jA.1 hq];exact hb1
     have hss:jqp M e s:=λq hq=>by
      have:=h1 _ ((c5 _).2 (Or.inl ⟨q,hq,rfl⟩));have h6:val M e (sub [(n,t)] q.2)=val M e q.2:=jqO hsb (hk q hq);rw[<-h6];exact this
     exact fin (es0:=[]) hss (hb.2.2 hb1) h2
    .rename_i hnv;split at hst
     .rename_i hnm;cases hst;have v1:jc2 (sub s l).name=false:=by
       cases h:jc2 (sub s l).name with
       |false=>rfl
       |true=>exact absurd (Or.inl h) hnv
      have v2:jc2 (sub s r).name=false:=by
       cases h:jc2 (sub s r).name with
       |false=>rfl
       |true=>exact absurd (Or.inr h) hnv
      obtain⟨h1,h2⟩:=ih s _ hinv (λp hp=>by
       rcases j4.1 hp with hp|hp
       .have hm:=List.of_mem_zip (a:=p.1) (b:=p.2) hp;exact⟨jhB kl _ hm.1,jhB kr _ hm.2⟩
       .exact ores p hp) hu hs
      exact fin (es0:=[]) h1 (jxJ kl kr v1 v2 hnm.1 (juw hnm.2 λp hp=>h2 p (Y1 _ hp))) λp hp=>h2 p (jdj _ hp)
     .cases hst
theorem joJ:∀{u:je6}{q:Xb×T},(u.map Prod.fst).Nodup->q∈u->look u q.1=some q.2
 |p::u,q,hn,hq=>by
  rw[look];rcases jK.1 hq with rfl|hq
  .rw [ju rfl]
  .rw [zB,Ju]at hn;rw[jo (λe=>hn.1 (by rw[e];exact qQ.2 ⟨q,hq,rfl⟩))];exact joJ hn.2 hq
theorem jAP{u:je6}(hv:jfN u=true)(hi:IdS u):jqp M (λx=>val M e (jkc u x)) u:=by
 intro q hq;have hk:=ji7 hv;have hl:=joJ (jlz hv) hq;show val M e (jkc u q.1)=val M (λx=>val M e (jkc u x)) q.2;rw[<-jn7 u e q.2 (hk q hq),jqR q.2 (hk q hq) λx hx=>hi q hq x hx,jkc,hl];rfl
end
theorem jvn{M:Xb->Xi->Int}{e:Xb->Int}{a b:T}(ka:okT a=true)(kb:okT b=true)(na:nodes a<=31)(nb:nodes b<=31){u:je6}(hu:jj2 a b=some u):val M (λx=>val M e (jkc u x)) a=val M (λx=>val M e (jkc u x)) b:=by
 have xa:Exx a:=⟨Or.inl ka,na⟩;have xb:Exx b:=⟨Or.inl kb,nb⟩;obtain⟨k,hk⟩:=jju xa xb;rw[hu]at hk;have hinv:=jpT xa xb;obtain⟨hv,hi⟩:=jsk k _ _ hinv hk;exact(jxF k _ _ hinv (λp hp=>by rw[jA.1 hp];exact⟨ka,kb⟩) hk (jAP (M:=M) (e:=e) hv hi)).2 (a,b) (List.mem_singleton_self _)
theorem jsu{M:Xb->Xi->Int}{e:Xb->Int}{r:T} :∀(p:Xf)(t:T),okP p t->val M e r=val M e (atT p t)->val M e (jhD r p t)=val M e t/\(p≠ []->(jhD r p t).name=t.name/\(jhD r p t).args.map (val M e)=t.args.map (val M e))
 | [],t,_,h=>⟨h,λh=>absurd rfl h⟩
 |i::p,t,hk,h=>by
  obtain⟨h1,h2⟩:=hk;rw[atT]at h;obtain⟨q,_⟩:=jsu p _ h2 h;have hargs:(jhD r (i::p) t).args.map (val M e)=t.args.map (val M e):=by
   rw[jhD];show(t.args.set i (jhD r p (t.args.getD i (.mk [] [])))).map (val M e)=_;rw[List.map_set,q,ji3 h1];have:(t.args.map (val M e))[i]'(by rw[jbP];exact h1)=val M e t.args[i]:=List.getElem_map _;rw[<-this];exact List.set_getElem_self _
  have hlen:(jhD r (i::p) t).args.isEmpty=false/\t.args.isEmpty=false:=by
   constructor
   .rw [jhD];show(t.args.set i _).isEmpty=false;cases hq:t.args with
    |nil=>rw[hq]at h1;simp at h1
    |cons a l=>cases i<;>rfl
   .cases hq:t.args with
    |nil=>rw[hq]at h1;simp at h1
    |cons a l=>rfl
  refine⟨?_,λ_=>⟨rfl,hargs⟩⟩;rw[jlE,jlE M e t,hlen.1,hlen.2,hargs];rfl
section
variable(m:Mdl)
def jj3(r:T):Prop:=∀e,jvC m e->val m.M e (jge r)=val m.M e (jhE r)
theorem jnb{p:UInt8}(hp:upc p=true){r:T}(h:RL r)(hh:jj3 m r):jj3 m (jiI p r):=by
 intro e he;have hl:=jkQ (t:=r) (by have:=h.2.2.2.2;omega);unfold jiI;generalize jiN [] r=l at hl;have hf:∀n,jc2 n=true->jc2 (jiC p l n)=true:=λn hn=>jm5 hp hl hn;have h1:=jus (m:=m) hf e (jge r) h.2.2.1;have h2:=jus (m:=m) hf e (jhE r) h.2.2.2.1;rw[jun h.1,h.two];show val m.M e (jiv (jiC p l) (jge r))=val m.M e (jiv (jiC p l) (jhE r));rw[h1,h2];exact hh _ λx=>he _
theorem juJ{x y:T}(hx:RL x)(hy:RL y)(hhx:jj3 m x)(hhy:jj3 m y){q:Xf}(hq:q∈jjz (jge y)){u:T}(h:jiu x y q=some u):jj3 m u:=by
 obtain⟨ok,_⟩:=jlO _ q hq;have nx:=hx.nd;have ny:=hy.nd;have hs:=jtK ok hy.2.2.1;have hn:=jlo ok;unfold jiu at h;split at h
 .cases h
 split at h
 .cases h
 rename_i s hu;have hsv:=jkf (jlu hx.2.2.1 (by omega)) (jlu hs (by omega)) hu;obtain⟨w1,w2,w3,w4,w5⟩:=jlN hx hy ok hsv;split at h
 .cases h
 rename_i hc;cases h;have hsm:je7 (jjc s x y q)=true:=by
  cases e:je7 (jjc s x y q)
  .rw [e]at hc;exact absurd rfl hc
  .rfl
 simp only[je7,jm,KR]at hsm;refine jnb m (by decide) ⟨rfl,rfl,w3,w4,hsm.1⟩ λe he=>?_;have he':jvC m λv=>val m.M e (jkc s v):=λv=>jo6 m.ok he (jkc s v);have k1:=jvn (M:=m.M) (e:=e) hx.2.2.1 hs (by omega) (by omega) hu;have k2:=(jsu (M:=m.M) (e:=λv=>val m.M e (jkc s v)) (r:=jhE x) q (jge y) ok ((hhx _ he').symm.trans k1)).1;show val m.M e (sub s (jhD (jhE x) q (jge y)))=val m.M e (sub s (jhE y));rw[jn7 s e _ w1,jn7 s e _ hy.2.2.2.1];exact k2.trans (hhy _ he')
theorem jpy{x y:T}(hx:RL x)(hy:RL y)(hhx:jj3 m x)(hhy:jj3 m y):∀(r:List Xf)(acc:Xg),(∀q∈r,q∈jjz (jge y))->(∀u∈acc,jj3 m u)-> ∀u∈r.foldl (λacc q=>jl0 acc (jiu x y q)) acc,jj3 m u
 | [],_,_,ha=>ha
 |q::r,acc,hq,ha=>by
  refine jpy hx hy hhx hhy r _ (λp hp=>hq p (by simp[hp])) λu hu=>?_;have hu:u∈jl0 acc (jiu x y q):=hu;cases ho:jiu x y q with
  |none=>rw[ho]at hu;exact ha u hu
  |some t=>
   rw[ho]at hu;have hu:u∈(if acc.any (λu=>dq u t)then acc else acc++[t]):=hu;split at hu
   .exact ha u hu
   .rcases j4.1 hu with hu|hu
    .exact ha u hu
    .rw [jA.1 hu];exact juJ m hx hy hhx hhy (hq q (by simp)) ho
theorem jsN{a b:T}(ha:RL a)(hb:RL b)(hha:jj3 m a)(hhb:jj3 m b):∀u∈jmp (jiI 65 a) (jiI 66 b),jj3 m u:=
 jpy m (joZ (by decide) ha) (joZ (by decide) hb) (jnb m (by decide) ha hha) (jnb m (by decide) hb hhb) _ [] (λ_ h=>h) λu h=>by cases h
end
noncomputable def jnM(r:Xa)(a b:T):Int:=if dq a b then 1 else if 12<r.length then 0 else if r.length=0 then 0 else jjH (jli r) a b
theorem joQ(a b:T)(hw:twf a)(hw':twf b)(hs:tsz a<=1048576)(hs':tsz b<=1048576)(hva:jgc a=true)(hvb:jgc b=true) :
  ∃r:Xa,Srt r/\(∀n,n∈r↔n∈jjl a\/n∈jjl b)/\G 28 [tm a,tm b]=some (vi (jnM r a b),[]):=by
 have hk:okT a=true:=by unfold jgc at hva;rw[jm]at hva;exact hva.2
 have hk':okT b=true:=by unfold jgc at hvb;rw[jm]at hvb;exact hvb.2
 have na:nodes a<=30:=by simp only[jgc,je7,jm,KR]at hva;exact hva.1.1
 have nb:nodes b<=30:=by simp only[jgc,je7,jm,KR]at hvb;exact hvb.1.1
 have e2:=jix a hw b hw';obtain⟨r1,f1,⟨c1,c2⟩,c3⟩:=jkB a hw [] (by simp;omega);obtain⟨r,f2,⟨d1,d2⟩,d3⟩:=jkB b hw' r1 (by simp at c2;omega);have hsrt:Srt r:=d3 (c3 List.Pairwise.nil);have hmem:∀n,n∈r↔n∈jjl a\/n∈jjl b:=λn=>by rw[d1,c1];simp
 have hlen:r.length<=60:=by simp at c2;omega
 refine⟨r,hsrt,hmem,?_⟩;rw[g28];cases hd:dq a b<;>rw[hd]at e2
 rotate_left
 .have ev:jnM r a b=1:=by unfold jnM;rw[hd];rfl
  rw[ev];simp only[evz,e2]
 obtain⟨p1,g1,⟨i1,i2⟩,i3⟩:=jke a hw hk [] (by simp;omega)
 obtain⟨p,g2,⟨j1,j2⟩,j3⟩:=jke b hw' hk' p1 (by simp at i2;omega)
 have hnd:p.Nodup:=j3 (i3 List.nodup_nil);have hpm:∀n,n∈p↔n∈jjl a\/n∈jjl b:=λn=>by rw[j1,i1];simp
 have hsort:kY p=r:=jn4 _ _ (jsd hnd) hsrt λn=>by rw[hmem,<-hpm];unfold kY;exact List.mem_mergeSort
 have hpl:p.length=r.length:=by rw[<-hsort];simp[kY]
 have g1:jl5 (sv a.name) (tms a.args) []=some (.top,[strs p1]):=g1;have g3:jpo (p.map cs)=some (.top,[strs r]):=by
  rw[jvS];simp only[jeO,jcv];rw[ju (by omega),hsort]
 by_cases h12:r.length<=12;rotate_left
 .have hgt:((12:Nat):Int)<((r.length:Nat):Int):=by omega
  have hle:¬((r.length:Nat):Int)<=12:=by omega
  have hgt:(12:Int)<((r.length:Nat):Int):=by omega
  have hz:¬((r.length:Nat):Int)=0:=by omega
  have ev:jnM r a b=0:=by unfold jnM;rw[hd,jo Bool.false_ne_true,ju (by omega)]
  rw[ev];simp only[evz,e2,g1,g2,hpl,hgt]
 have hle:((r.length:Nat):Int)<=12:=by omega
 have hgt:¬(12:Int)<((r.length:Nat):Int):=by omega
 have hrep:=jxr h12;have hci:(ints (List.replicate r.length 1):A) = .sl 1 (List.replicate r.length [vi 1]):=by show A.sl 1 _=_;rw[List.map_replicate]
 have hod:(od (jli r):A) = .agg [strs r,.sl 1 (List.replicate r.length [vi 1]),vi 1]:=by rw[<-hci];rfl
 by_cases h0:r.length=0
 .have hr:r=[]:=List.length_eq_zero_iff.1 h0;have hz:((r.length:Nat):Int)=0:=by omega
  have va:jc2 a.name=true:=by
   cases hv:jc2 a.name
   .have:=(hmem a.name).2 (Or.inl (by rw[jjV,hv];simp))
    rw[hr]at this;cases this
   .rfl
  have vb':jc2 b.name=true:=by
   cases hv:jc2 b.name
   .have:=(hmem b.name).2 (Or.inr (by rw[jjV,hv];simp))
    rw[hr]at this;cases this
   .rfl
  have hne:¬a.name=b.name:=λe=>by
   rw[jx3,e,jjN hk va,jjN hk' vb',jmG]at hd;simp at hd
  have q:=jlq (jli r) a b hw hw' false false (jmM _ a b hw hw' hk hk' va vb' hne) (jmM _ b a hw' hw hk' hk vb' va (λe=>hne e.symm));rw[hd,hod]at q;have ev:jnM r a b=0:=by unfold jnM;rw[hd,jo Bool.false_ne_true,jo (by omega),ju h0]
  rw[ev];simp only[evz,e2,g1,g2,hpl,hgt,g3,hrep,q,jkj]
 have hsym:∀n∈r,jiX n=true:=λn hn=>by
  rcases(hmem n).1 hn with h|h
  .exact jlU a hk n h
  .exact jlU b hk' n h
 have hval:=jpY (by omega) h12 hsym (jpS hsrt);have hca:jjv (jli r).syms a=true:=jmF _ a λn hn=>(hmem n).2 (Or.inl hn);have hcb:jjv (jli r).syms b=true:=jmF _ b λn hn=>(hmem n).2 (Or.inr hn);have howf:owf (jli r):=by
  refine⟨⟨λs hs=>?_,by show r.length<=_;omega⟩,⟨λx hx=>?_,by show(List.replicate r.length (1:Int)).length<=_;rw[Ka];omega⟩,by show I64 1;exact⟨by decide,by decide⟩⟩
  .have:=jsf (hsym s hs);omega
  .have:x=1:=by have:=jbT hx;exact this
   rw[this];exact⟨by decide,by decide⟩
 have q2:=jle hval a b howf hw hs hw' hs' hk hk' hca hcb;rw[hod]at q2;have ev:jnM r a b=jjH (jli r) a b:=by unfold jnM;rw[hd,jo Bool.false_ne_true,jo (by omega),jo h0]
 rw[ev];simp only[evz,e2,g1,g2,hpl,hgt,g3,hrep,q2]
theorem jsX(a b:T)(hw:twf a)(hw':twf b)(hs:tsz a<=1048576)(hs':tsz b<=1048576)(hva:jgc a=true)(hvb:jgc b=true)(h:G 28 [tm a,tm b]=some (vi 2,[])):G 28 [tm b,tm a]=some (vi 3,[]):=by
 have hk:okT a=true:=by unfold jgc at hva;rw[jm]at hva;exact hva.2
 have hk':okT b=true:=by unfold jgc at hvb;rw[jm]at hvb;exact hvb.2
 obtain⟨r,s1,m1,e1⟩:=joQ a b hw hw' hs hs' hva hvb;obtain⟨r',s2,m2,e2⟩:=joQ b a hw' hw hs' hs hvb hva;have hr:r'=r:=jn4 _ _ s2 s1 λn=>by rw[m1,m2];exact Or.comm
 subst hr;rw[e1]at h;have hv:jnM r' a b=2:=by injection h with h;injection h with h _;injection h with h;injection h with _ h
 have hv2:jnM r' b a=3:=by
  unfold jnM at hv⊢;rw[show dq b a=dq a b by rw[Bool.eq_iff_iff,jh4,jh4];exact⟨Eq.symm,Eq.symm⟩];cases hd:dq a b
  .rw [hd,jo Bool.false_ne_true]at hv;rw[jo Bool.false_ne_true];by_cases h1:12<r'.length
   .rw [ju h1]at hv;exact absurd hv (by decide)
   rw[jo h1]at hv⊢;by_cases h2:r'.length=0
   .rw [ju h2]at hv;exact absurd hv (by decide)
   rw[jo h2]at hv⊢;rw[jwh hk hk',hv];rfl
  .rw [hd,ju rfl]at hv;exact absurd hv (by decide)
 rw[e2,hv2]
abbrev cy(n:Int):Xd:=[vy n]
abbrev bts(l:Xi):A:= .sl 1 (l.map cy)
abbrev vu(n:Int):A:= .val (.int .u64 n)
def By(l:Xi):Prop:=(∀n∈l,0<=n/\n<=255)/\l.length<=65536
theorem jmj(a x0 x1 x2 x3:A)(us:Xg)(l:Xd):hR 2 (a,x0::x1::x2::x3::tms us::l) 4=some (us.map jbY):=by simp[hR,tms]
set_option maxRecDepth 100000 in
theorem jxN:∀n:Fin 256,IntKind.u64.wrap ((n.val:Nat):Int)=((n.val:Nat):Int):=by decide
theorem jxh(x y:Int):jgx .mul false (vu x) (vu y)=some (vu (IntKind.u64.wrap (x*y))):=rfl
theorem jxg(x y:Int):jgx .add false (vu x) (vu y)=some (vu (IntKind.u64.wrap (x+y))):=rfl
theorem jAL(x:Int):jgx .shr false (vu x) (vu 40)=some (vu (Y7 .shr .u64 x 40)):=by
 show(if(0:Int)<=40 then some (vu (Y7 .shr .u64 x 40))else none)=_;rw[ju (by decide)]
theorem jAK(x:Int):jgx .and false (vu x) (vu 255)=some (vu (Y7 .and .u64 x 255)):=rfl
theorem jux(x:Int):0<=Y7 .and .u64 x 255/\Y7 .and .u64 x 255<=255:=by
 have h:(BitVec.ofInt 64 x &&& BitVec.ofInt 64 255).toNat<=255:=by
  rw[BitVec.toNat_and];have h2:(BitVec.ofInt 64 255).toNat=255:=by decide
  rw[h2];exact Nat.and_le_right
 show 0<=IntKind.u64.wrap (((BitVec.ofInt 64 x &&& BitVec.ofInt 64 255).toNat:Nat):Int)/\IntKind.u64.wrap (((BitVec.ofInt 64 x &&& BitVec.ofInt 64 255).toNat:Nat):Int)<=255;generalize (BitVec.ofInt 64 x &&& BitVec.ofInt 64 255).toNat=m at *;have:=jxN ⟨m,by omega⟩;simp only at this;rw[this];omega
theorem jw8(k:IntKind)(a:Int):jeA .u64 (.val (.int k a))=some (vu (IntKind.u64.wrap a)):=rfl
theorem jsY(k:IntKind)(a:Int):jeA .i64 (.val (.int k a))=ck a:=rfl
theorem jwY(n:Int):ZO (vu n)=true:=rfl
section
variable{code:Xi}(hb:By code)
include hb
theorem jyQ(a s:Int)(h0:0<=a)(h1:a<=1000000000):∃s' x,0<=x/\x<=255/\jtj (bts code) (vi a) (vu s)=some (.top,[bts code,vi (a+1),vu s',vi x]):=by
 obtain⟨k,rfl⟩:∃k:Nat,a=(k:Nat):=⟨a.toNat,by omega⟩;have c1:ck (((k:Nat):Int)+1)=some (vi (((k:Nat):Int)+1)):=jgN (by omega) (by omega);have hcl:=hb.2;rw[jBr];by_cases hk:k<code.length
 .have hlt:((k:Nat):Int)<((code.length:Nat):Int):=by omega
  have hle:((k:Nat):Int)+1<=((code.length:Nat):Int):=by omega
  have hv:=hb.1 code[k] (YX hk);have c2:ck code[k]=some (vi code[k]):=jgN (by omega) (by omega);exact⟨_,code[k],hv.1,hv.2,by simp only[evz,hlt,jaH hk,jsY,c2,c1,jxh,jw8,jxg,jwY,hle];rfl⟩
 .have hlt:¬((k:Nat):Int)<((code.length:Nat):Int):=by omega
  have hle:¬((k:Nat):Int)+1<=((code.length:Nat):Int):=by omega
  generalize hz:IntKind.u64.wrap (IntKind.u64.wrap (IntKind.u64.wrap (s*6364136223846793005)+IntKind.u64.wrap 0)+892892)=z;have hbd:=jux (Y7 .shr .u64 z 40);have c2:ck (Y7 .and .u64 (Y7 .shr .u64 z 40) 255)=some (vi (Y7 .and .u64 (Y7 .shr .u64 z 40) 255)):=jgN (by omega) (by omega);exact⟨z,_,hbd.1,hbd.2,by simp only[evz,hlt,c1,jxh,jw8,jxg,hz,jwY,hle,jAL,jAK,jsY,c2]⟩
omit hb in
theorem jqK{x n:Int}(h0:0<=x)(hn:1<=n):jgx .rem false (vi x) (vi n)=some (vi (x % n)):=by
 show(if n=0 then none else some (vi (x.tmod n)))=_;rw[jo (by omega),Int.tmod_eq_emod_of_nonneg h0]
theorem jud(n:Int)(hn:1<=n)(hn':n<=200)(a s:Int)(h0:0<=a)(h1:a<=1000000000):∃a' s' x,a<=a'/\a'<=a+1/\0<=x/\x<n/\jth (vi n) (bts code) (vi a) (vu s)=some (.top,[bts code,vi a',vu s',vi x]):=by
 rw[jBk];by_cases h:n<=1
 .exact ⟨a,s,0,by omega,by omega,by omega,by omega,by simp only[evz,h]⟩
 .obtain ⟨s',x,x0,x1,e⟩:=jyQ hb a s h0 h1;have e2:=jqK x0 hn;have hg:¬(200:Int)<n:=by omega
  refine⟨a+1,s',x % n,by omega,by omega,Int.emod_nonneg _ (by omega),Int.emod_lt_of_pos _ (by omega),?_⟩;simp only[evz,h,e,List.getElem?_cons_zero,List.getElem?_cons_succ,hg,e2,jmj]
theorem jnh(n:Int)(hn:1<=n)(hn':n<=200)(a s:Int)(h0:0<=a)(h1:a<=1000000000):∃a' s' b,a<=a'/\a'<=a+1/\jpl (vi n) (bts code) (vi a) (vu s)=some (.top,[bts code,vi a',vu s',vb b]):=by
 obtain⟨a',s',x,q1,q2,_,_,e⟩:=jud hb n hn hn' a s h0 h1;refine⟨a',s',decide (x=0),q1,q2,?_⟩;rw[jBc];simp only[evz,e,List.getElem?_cons_zero,List.getElem?_cons_succ,jmj]
theorem jzP(l:Xa)(hn:1<=l.length)(hn':l.length<=200)(a s:Int)(h0:0<=a)(h1:a<=1000000000):∃a' s' w,w∈l/\a<=a'/\a'<=a+1/\jpm (bts code) (vi a) (vu s) (l.map cs)=some (.top,[bts code,vi a',vu s',sv w]):=by
 obtain⟨a',s',x,q1,q2,x0,x1,e⟩:=jud hb ((l.length:Nat):Int) (by omega) (by omega) a s h0 h1;obtain⟨i,rfl⟩:∃i:Nat,x=(i:Nat):=⟨x.toNat,by omega⟩;have hi:i<l.length:=by omega
 have e1:pIx l.length (vi ((i:Nat):Int))=some i:=jiG hi;have e2:jf6 (l.map cs) i 0=some (sv l[i]):=by unfold jf6;simp[hi]
 refine⟨a',s',l[i],YX hi,q1,q2,?_⟩;rw[jBj];simp only[evz,e,List.getElem?_cons_zero,List.getElem?_cons_succ,e1,e2]
end
theorem jB6(t:T):tms [t] = .sl 2 [[sv t.name,.sl 2 (t.args.map jbY)]]:=by
 show A.sl 2 [jbY t]=_;rw[jhF]
theorem jAU(t u:T):tms [t,u] = .sl 2 [[sv t.name,.sl 2 (t.args.map jbY)],[sv u.name,.sl 2 (u.args.map jbY)]]:=by
 show A.sl 2 [jbY t,jbY u]=_;rw[jhF,jhF]
abbrev S5:Xa:=[[88],[89],[90],[88,121,122,57],[81,49]]
def juX(n:Xb):Bool:= !jc2 n || S5.contains n
mutual
def nmT:T->Bool
 |.mk n us=>juX n && jwU us
def jwU:Xg->Bool
 | []=>true
 |t::ts=>nmT t && jwU ts
end
theorem jAu(t:T):nmT t=(juX t.name && jwU t.args):=by cases t;rw[nmT];rfl
def TD(code:Xi)(z q:Nat)(a:Int)(o:Xe):Prop:=∃a' s' t,a<=a'/\a'<=a+(q:Nat)/\(tsz t<=z/\nmT t=true)/\o=some (.top,[bts code,vi a',vu s',sv (T.name t),tms (T.args t)])
section
variable{code:Xi}(hb:By code)
include hb
end
theorem jAD{n:Nat}(h:n<=4194304):jbk n 16=true:=by
 unfold jbk;exact decide_eq_true ⟨by omega,by omega⟩
theorem jvb{n:Nat}(h:n<=4194304):jbk n 8=true:=by
 unfold jbk;exact decide_eq_true ⟨by omega,by omega⟩
abbrev nbs(vs:Xi):A:= .sl 1 (vs.map ci)
theorem jDm{x n:Int}(h0:0<=x)(hn:2<=n)(hx:x<=9223372036854775807):jgx .quo false (vi x) (vi n)=some (vi (x / n)):=by
 show(if n=0 then none else ck (x.tdiv n))=_;rw[jo (by omega),Int.tdiv_eq_ediv_of_nonneg h0,jgN]
 .have:=Int.ediv_nonneg h0 (show(0:Int)<=n by omega);omega
 .have:=Int.ediv_le_self n h0;omega
theorem jw9(x:Int)(h0:0<=x)(h1:x<=255):jeA .i64 (vy x)=some (vi x):=by
 rw[jsY,jgN (by omega) (by omega)]
theorem jrL{l:Xa}{i:Nat}(h:i<l.length):jf6 (l.map cs) i 0=some (sv l[i]):=by
 unfold jf6;simp[h]
section
variable{code:Xi}(hb:By code)
include hb
theorem jxH(i:Int)(h0:0<=i)(h1:i<=1000):∃x,0<=x/\x<=255/\G 143 [bts code,vi i]=some (vi x,[]):=by
 obtain⟨k,rfl⟩:∃k:Nat,i=(k:Nat):=⟨i.toNat,by omega⟩;have hl:=hb.2;rw[jC0];by_cases hk:k<code.length
 .have hlt:((k:Nat):Int)<((code.length:Nat):Int):=by omega
  have hv:=hb.1 code[k] (YX hk);have c:=jw9 code[k] hv.1 hv.2;exact⟨code[k],hv.1,hv.2,by simp only[evz,hlt,jaH hk,c]⟩
 .have hlt:¬((k:Nat):Int)<((code.length:Nat):Int):=by omega
  have c1:ck (((k:Nat):Int)*7)=some (vi (((k:Nat):Int)*7)):=jgN (by omega) (by omega);have c2:ck (((k:Nat):Int)*7+((code.length:Nat):Int))=some (vi (((k:Nat):Int)*7+((code.length:Nat):Int))):=jgN (by omega) (by omega);have c3:=jqK (x:=((k:Nat):Int)*7+((code.length:Nat):Int)) (n:=256) (by omega) (by decide);exact⟨(((k:Nat):Int)*7+((code.length:Nat):Int)) % 256,Int.emod_nonneg _ (by decide),by have:=Int.emod_lt_of_pos (((k:Nat):Int)*7+((code.length:Nat):Int)) (show(0:Int)<256 by decide);omega,by simp only[evz,hlt,c1,c2,c3]⟩
theorem jxI(vs:Xi)(hvs:∀v∈vs,0<=v/\v<=10)(hl:vs.length<=4000000):∀i,i<=vs.length-> ∀h:Int,0<=h->h<65521-> ∃x,0<=x/\jp6 (bts code) (nbs vs) (vi h) (vi (i:Nat))=some (vi x,[]):=by
 refine upto ?_ ?_
 .intro h h0 h1;obtain⟨a,a0,a1,ea⟩:=jxH hb (h % 53) (Int.emod_nonneg _ (by decide)) (by have:=Int.emod_lt_of_pos h (show(0:Int)<53 by decide);omega);obtain⟨b,b0,b1,eb⟩:=jxH hb (h % 89) (Int.emod_nonneg _ (by decide)) (by have:=Int.emod_lt_of_pos h (show(0:Int)<89 by decide);omega);have r1:=jqK (x:=h) (n:=53) h0 (by decide);have r2:=jqK (x:=h) (n:=89) h0 (by decide);have c1:ck (13*a)=some (vi (13*a)):=jgN (by omega) (by omega);have c2:ck (h+13*a)=some (vi (h+13*a)):=jgN (by omega) (by omega);have c3:ck (h+13*a+b)=some (vi (h+13*a+b)):=jgN (by omega) (by omega);have q:=jDm (x:=h+13*a+b) (n:=3) (by omega) (by decide) (by omega);refine⟨(h+13*a+b) / 3,Int.ediv_nonneg (by omega) (by decide),?_⟩;rw[jwl];simp only[evz,r1,r2,ea,eb,c1,c2,c3,q]
 .intro i hi ih h h0 h1;have hlt:(i:Int)<((vs.length:Nat):Int):=by omega
  have h5:=jeZ hi (by show vs.length<=9223372036854775807;omega)
  have hv:=hvs vs[i] (YX hi);have c1:ck (37*h)=some (vi (37*h)):=jgN (by omega) (by omega);have c2:ck (37*h+vs[i])=some (vi (37*h+vs[i])):=jgN (by omega) (by omega);have c3:ck (37*h+vs[i]+1)=some (vi (37*h+vs[i]+1)):=jgN (by omega) (by omega);have r:=jqK (x:=37*h+vs[i]+1) (n:=65521) (by omega) (by decide);obtain⟨x,x0,e⟩:=ih ((37*h+vs[i]+1) % 65521) (Int.emod_nonneg _ (by decide)) (Int.emod_lt_of_pos _ (by decide));refine⟨x,x0,?_⟩;rw[jwl];simp only[evz,hlt,jaH hi,c1,c2,c3,r,h5,e]
theorem jy8(n:Xb)(hn:n.length<=4000000)(vs:Xi)(hvs:∀v∈vs,0<=v/\v<=10)(hl:vs.length<=4000000):∃x,0<=x/\G 101 [bts code,sv n,nbs vs]=some (vi x,[]):=by
 have key:∀i,i<=n.length-> ∀h:Int,0<=h->h<65521-> ∃x,0<=x/\jp5 (bts code) (sv n) (nbs vs) (vi h) (vi (i:Nat))=some (vi x,[]):=by
  refine upto ?_ ?_
  .intro h h0 h1;obtain⟨x,x0,e⟩:=jxI hb vs hvs hl 0 (Nat.zero_le _) h h0 h1;refine⟨x,x0,?_⟩;rw[jwk];simp only[Int.natCast_zero]at e;simp only[evz,e]
  .intro i hi ih h h0 h1;have hlt:(i:Int)<((n.length:Nat):Int):=by omega
   have h5:=jeZ hi (by show n.length<=9223372036854775807;omega)
   have hx:=jjL hi;have hc:n[i].toNat<=255:=by have:=n[i].toNat_lt;omega
   generalize n[i].toNat=c at *;have c0:=jw9 ((c:Nat):Int) (by omega) (by omega);have c1:ck (31*h)=some (vi (31*h)):=jgN (by omega) (by omega);have c2:ck (31*h+((c:Nat):Int))=some (vi (31*h+((c:Nat):Int))):=jgN (by omega) (by omega);have r:=jqK (x:=31*h+((c:Nat):Int)) (n:=65521) (by omega) (by decide);obtain⟨x,x0,e⟩:=ih ((31*h+((c:Nat):Int)) % 65521) (Int.emod_nonneg _ (by decide)) (Int.emod_lt_of_pos _ (by decide));refine⟨x,x0,?_⟩;rw[jwk];simp only[evz,hlt,hx,c0,c1,c2,r,h5,e]
 obtain⟨x,x0,e⟩:=key 0 (Nat.zero_le _) 17 (by decide) (by decide);refine⟨x,x0,?_⟩;rw[jCC];simp only[Int.natCast_zero]at e;exact e
end
noncomputable def joM(code:Xi)(n:Xb)(vs:Xi):Int:=match G 101 [bts code,sv n,nbs vs]with|some (.val (.int _ x),_)=>x|_=>0
theorem jt5{code:Xi}(hb:By code)(n:Xb)(hn:n.length<=4000000)(vs:Xi)(hvs:∀v∈vs,0<=v/\v<=10)(hl:vs.length<=4000000):0<=joM code n vs/\G 101 [bts code,sv n,nbs vs]=some (vi (joM code n vs),[]):=by
 obtain⟨x,x0,e⟩:=jy8 hb n hn vs hvs hl;have:joM code n vs=x:=by unfold joM;rw[e]
 rw[this];exact⟨x0,e⟩
noncomputable abbrev jip(code:Xi)(s:Int):Xb->Xi->Int:=λn vs=>joM code n vs % s
abbrev Env:=List (Xb×Int)
abbrev ev(E:Env):A:= .agg [.sl 1 (E.map λp=>cs p.1),.sl 1 (E.map λp=>ci p.2)]
def jhz(E:Env)(n:Xb):Int:=E.foldl (λa p=>if p.1=n then p.2 else a) 0
theorem juF(E:Env)(p:Xb×Int)(n:Xb):jhz (E++[p]) n=if p.1=n then p.2 else jhz E n:=by
 unfold jhz;rw[List.foldl_append];rfl
theorem jyy(E:Env)(hl:E.length<=4000000)(n:Xb):G 142 [ev E,sv n]=some (vi (jhz E n),[]):=by
 have key:∀k,k<=E.length->jqf (sv n) (vi ((k:Nat)-1:Int)) (.sl 1 (E.map λp=>cs p.1)) (.sl 1 (E.map λp=>ci p.2))=some (vi (jhz (E.take k) n),[]):=by
  intro k;induction k with
  |zero=>
   intro _;have h:¬(0:Int)<=((0:Nat):Int)-1:=by omega
   rw[jww];simp only[evz,h];rfl
  |succ k ih=>
   intro hk;have hk':k<E.length:=by omega
   have h:(0:Int)<=(k:Int):=by omega
   have e1:((k+1:Nat):Int)-1=(k:Int):=by omega
   have c1:ck ((k:Int)-1)=some (vi ((k:Int)-1)):=jgN (by omega) (by omega);have i1:=jaH (k:=1) (f:=λp:Xb×Int=>cs p.1) hk';have i2:=jaH (k:=1) (f:=λp:Xb×Int=>ci p.2) hk';rw[e1,jww,List.take_succ_eq_append_getElem hk',juF];by_cases hn:E[k].1=n
   .rw [ju hn];simp only[evz,h,i1,i2,hn]
   .rw [jo hn,<-ih (by omega)];simp only[evz,h,i1,i2,hn,c1]
 have:=key E.length (jR _);rw[List.take_length]at this;have c1:ck (((E.length:Nat):Int)-1)=some (vi (((E.length:Nat):Int)-1)):=jgN (by omega) (by omega);rw[jCZ];simp only[evz,c1,this]
theorem jne{code:Xi}(s:Int)(hs:1<=s)(n:Xb)(vs:Xi):0<=jip code s n vs/\jip code s n vs<s:=⟨Int.emod_nonneg _ (by omega),Int.emod_lt_of_pos _ (by omega)⟩
theorem jpN{c:UInt8}{r:Xb} :jar (sv (c::r)) (vi 0)=some (vy (c.toNat:Int)):=ji0
section
variable{code:Xi}(hb:By code)
include hb
theorem jsp(s:Int)(hs:1<=s/\s<=10)(E:Env)(hE:∀x,0<=jhz E x/\jhz E x<s)(n:Xb)(hn:n.length<=1048576)(us:Xg)(hl:us.length<=1048576)(ih:∀u∈us,G 100 [bts code,vi s,ev E,tm u]=some (vi (val (jip code s) (jhz E) u),[])) :
  jm2 (bts code) (vi s) (vi 0) (.sl 1 (E.map λp=>cs p.1)) (.sl 1 (E.map λp=>ci p.2)) (sv n) (tms us) []=some (vi (jip code s n (us.map (val (jip code s) (jhz E)))),[]):=by
 have key:=upto (P:=λi=>jm2 (bts code) (vi s) (vi (i:Nat)) (.sl 1 (E.map λp=>cs p.1)) (.sl 1 (E.map λp=>ci p.2)) (sv n) (tms us) (((us.take i).map (val (jip code s) (jhz E))).map ci)=some (vi (jip code s n (us.map (val (jip code s) (jhz E)))),[])) (n:=us.length) ?_ ?_ 0 (Nat.zero_le _)
 .exact key
 .have hv:∀v∈us.map (val (jip code s) (jhz E)),0<=v/\v<=10:=by
   intro v hv;obtain⟨u,_,rfl⟩:=qQ.1 hv;have:=jo6 (good:=λv=>0<=v/\v<s) (M:=jip code s) (jne s hs.1) hE u;omega
  obtain⟨m0,me⟩:=jt5 hb n (by omega) _ hv (by rw[jbP];omega)
  have r:=jqK (x:=joM code n (us.map (val (jip code s) (jhz E)))) (n:=s) m0 hs.1;rw[List.take_length,jwj];generalize us.map (val (jip code s) (jhz E))=vs at *;show _=some (vi (joM code n vs % s),[]);simp only[evz,me,r]
 .intro i hi ihi;have hlt:(i:Int)<((us.length:Nat):Int):=by omega
  have h5:=jeZ hi (by show us.length<=9223372036854775807;omega)
  have e1:=ih us[i] (YX hi);have f:jbk (i+1) 8=true:=jvb (by omega);have hmin:min i us.length=i:=by omega
  rw[List.take_succ_eq_append_getElem hi,jbM,jbM,show([us[i]].map (val (jip code s) (jhz E))).map ci=[[vi (val (jip code s) (jhz E) us[i])]] from rfl]at ihi;rw[jwj];generalize val (jip code s) (jhz E) us[i]=v at *;have ihi:jm2 (bts code) (vi s) (vi ((i+1:Nat):Int)) (.sl 1 (E.map λp=>cs p.1)) (.sl 1 (E.map λp=>ci p.2)) (sv n) (tms us) (jgD (((us.take i).map (val (jip code s) (jhz E))).map ci) [[vi v]])=_:=ihi;have hlen:(((us.take i).map (val (jip code s) (jhz E))).map ci).length=i:=by simp[hmin]
  generalize ((us.take i).map (val (jip code s) (jhz E))).map ci=R at *;have f2:jbk (R.length+1) 8=true:=by rw[hlen];exact f
  simp only[evz,hlt,jaH hi,jbV,e1,h5,f2,ihi]
theorem jno(s:Int)(hs:1<=s/\s<=10)(E:Env)(hEl:E.length<=4000000)(hE:∀x,0<=jhz E x/\jhz E x<s):∀t:T,Tz t->G 100 [bts code,vi s,ev E,tm t]=some (vi (val (jip code s) (jhz E) t),[]):=by
 refine T.ind λt ih ht=>?_;have hz:=ht;unfold Tz at hz;rw[jhG]at hz;have e0:=jsp hb s hs E hE t.name (by omega) t.args (by omega) λu hu=>ih u hu (ht.args u hu);have e1:=jyy E hEl t.name;rw[jCB,jlE];cases ha:t.args with
 |cons u us=>
  rw[ha]at e0;have hne:¬(((u::us).length:Nat):Int)=0:=by rw[KP];omega
  rw[show(u::us).isEmpty=false from rfl,Bool.false_and,jo Bool.false_ne_true];generalize u::us=vs at *;simp only[evz,ha,hne,e0]
 |nil=>
  rw[ha]at e0;rw[show([]:Xg).isEmpty=true from rfl,Bool.true_and];cases hn:t.name with
  |nil=>
   rw[hn]at e0;rw[show upN []=false from rfl,jo Bool.false_ne_true];have z1:(((([]:Xg).length:Nat):Int)=0):=rfl;have z2:¬(0:Int)<((0:Nat):Int):=by decide
   generalize hE0:([]:Xg)=vs at *;simp only[evz,ha,hn,z1,z2,e0]
  |cons c r=>
   rw[hn]at e0 e1;have hpos:(0:Int)<(((c::r).length:Nat):Int):=Int.natCast_pos.2 (Nat.succ_pos _);have hx:=jpN (c:=c) (r:=r);have hu:upN (c::r)=(decide ((65:Int)<=(c.toNat:Int)) && decide ((c.toNat:Int)<=90)):=rfl;rw[hu];have z1:(((([]:Xg).length:Nat):Int)=0):=rfl;generalize hE0:([]:Xg)=vs at *;generalize c::r=nm at *;by_cases h1:(65:Int)<=(c.toNat:Int)
   .by_cases h2:(c.toNat:Int)<=90
    .rw [decide_eq_true h1,decide_eq_true h2,Bool.and_self,ju rfl];simp only[evz,ha,hn,z1,hpos,hx,h1,h2,e1]
    .rw [decide_eq_true h1,decide_eq_false h2,Bool.and_false,jo Bool.false_ne_true];simp only[evz,ha,hn,z1,hpos,hx,h1,h2,e0]
   .rw [decide_eq_false h1,Bool.false_and,jo Bool.false_ne_true];simp only[evz,ha,hn,z1,hpos,hx,h1,e0]
theorem jvo(s:Int)(hs:1<=s/\s<=10)(E:Env)(hEl:E.length<=4000000)(hE:∀x,0<=jhz E x/\jhz E x<s)(t:T)(hn:t.name=[61])(hl:t.args.length=2)(ht:Tz t):G 65 [bts code,vi s,ev E,tm t]=some (vb (decide (val (jip code s) (jhz E) (jge t)=val (jip code s) (jhz E) (jhE t))),[]):=by
 obtain⟨n,us⟩:=t;have hn:n=[61]:=hn;subst hn;obtain⟨u,v,rfl⟩:∃u v,us=[u,v]:=by
  match us,hl with
  | [u,v],_=>exact⟨u,v,rfl⟩
 have e1:=jno hb s hs E hEl hE u (ht.args u (Y3 ..));have e2:=jno hb s hs E hEl hE v (ht.args v (YY _ (Y3 ..)));show _=some (vb (decide (val (jip code s) (jhz E) u=val (jip code s) (jhz E) v)),[]);generalize val (jip code s) (jhz E) u=x at *;generalize val (jip code s) (jhz E) v=y at *;have i0:zN 2 (tms [u,v]) (vi 0)=some (.elt (jbY u) 0):=jaH (xs:=[u,v]) (i:=0) (by simp);have i1:zN 2 (tms [u,v]) (vi 1)=some (.elt (jbY v) 0):=jaH (xs:=[u,v]) (i:=1) (by simp);have c1:ck ((0:Int)+1)=some (vi 1):=jgN (n:=0+1) (by decide) (by decide);have c2:ck ((1:Int)+1)=some (vi 2):=jgN (n:=1+1) (by decide) (by decide);have l0:(0:Int)<((([u,v]:Xg).length:Nat):Int):=show(0:Int)<((2:Nat):Int) by decide
 have l1:(1:Int)<((([u,v]:Xg).length:Nat):Int):=show(1:Int)<((2:Nat):Int) by decide
 have l2:¬(2:Int)<((([u,v]:Xg).length:Nat):Int):=show ¬(2:Int)<((2:Nat):Int) by decide
 have f1:jbk 1 8=true:=jvb (by decide);have f2:jbk (1+1) 8=true:=jvb (by decide);have k2:jl6 (bts code) (vi s) (vi 2) (.sl 1 (E.map λp=>cs p.1)) (.sl 1 (E.map λp=>ci p.2)) (sv [61]) (tms [u,v]) [[vi x],[vi y]]=some (vb (decide (x=y)),[]):=by
  rw[jrE];generalize [u,v]=us at *;have p0:pIx 2 (vi 0)=some 0:=rfl;have p1:pIx 2 (vi 1)=some 1:=rfl;have q0:jf6 [[vi x],[vi y]] 0 0=some (vi x):=rfl;have q1:jf6 [[vi x],[vi y]] 1 0=some (vi y):=rfl;have hl:([[vi x],[vi y]]:Xc).length=2:=rfl;have h2:((2:Nat):Int)=2:=rfl;generalize hR: [[vi x],[vi y]]=R at *;simp only[evz,l2,hl,h2,p0,p1,q0,q1]
 have k1:jl6 (bts code) (vi s) (vi 1) (.sl 1 (E.map λp=>cs p.1)) (.sl 1 (E.map λp=>ci p.2)) (sv [61]) (tms [u,v]) [[vi x]]=some (vb (decide (x=y)),[]):=by
  have k2:jl6 (bts code) (vi s) (vi 2) (.sl 1 (E.map λp=>cs p.1)) (.sl 1 (E.map λp=>ci p.2)) (sv [61]) (tms [u,v]) (jgD [[vi x]] [[vi y]])=some (vb (decide (x=y)),[]):=k2;rw[jrE];generalize [u,v]=us at *;have hl:([[vi x]]:Xc).length=1:=rfl;generalize hR: [[vi x]]=R at *;simp only[evz,l1,i1,jbV,e2,c2,hl,f2,k2]
 have k1:jl6 (bts code) (vi s) (vi 1) (.sl 1 (E.map λp=>cs p.1)) (.sl 1 (E.map λp=>ci p.2)) (sv [61]) (tms [u,v]) (jgD [] [[vi x]])=some (vb (decide (x=y)),[]):=k1;rw[g65];have k0:jl6 (bts code) (vi s) (vi 0) (.sl 1 (E.map λp=>cs p.1)) (.sl 1 (E.map λp=>ci p.2)) (sv [61]) (tms [u,v]) []=some (vb (decide (x=y)),[]):=by
  rw[jrE];generalize [u,v]=us at *;simp only[evz,l0,i0,jbV,e1,c1,f1,k1]
 exact k0
end
theorem jza(l:Xa)(n:Xb):(vnA l n).length<=l.length+1:=by
 unfold vnA;split
 .omega
 .simp
theorem jtd:∀(t:T)(l:Xa),(vn l t).length<=l.length+nodes t:=by
 refine T.ind λt ih l=>?_;have hn:=jfw t;rw[jut];split
 .have:=jza l t.name;omega
 .have key:∀us:Xg,(∀u∈us,u∈t.args)-> ∀l:Xa,(vnL l us).length<=l.length+jcO us:=by
   intro us;induction us with
   |nil=>intro _ l;simp[vnL,jcO]
   |cons u us ih2=>
    intro hu l;have h1:=ih u (hu u (by simp)) l;have h2:=ih2 (λv hv=>hu v (by simp[hv])) (vn l u);rw[vnL,jcO];omega
  have:=key t.args (λ_ h=>h) l;omega
theorem jtb(n:Xb)(x:A)(hx:n.length<=1048576)(l:Xa)(hl:l.length<=4000000):jlI (vi 0) (sv n) x (l.map cs)=some (.top,[.sl 1 ((vnA l n).map cs)]):=by
 have key:=upto (P:=λi=>jlI (vi (i:Nat)) (sv n) x (l.map cs)=some (.top,[.sl 1 ((if(l.drop i).contains n then l else l++[n]).map cs)])) (n:=l.length) ?_ ?_ 0 (Nat.zero_le _)
 .exact key
 .have f:jbk (l.length+1) 16=true:=jAD (by omega);rw[jt3,List.drop_length,show([]:Xa).contains n=false from rfl,jo Bool.false_ne_true,jbM];simp only[evz,f];rfl
 .intro i hi ih;have hlt:(i:Int)<((l.length:Nat):Int):=by omega
  have h5:=jeZ hi (by show l.length<=9223372036854775807;omega)
  have x1:pIx l.length (vi ((i:Nat):Int))=some i:=jiG hi;have x2:=jrL hi;rw[jt3,jeX hi,List.contains_cons];by_cases he:l[i]=n
  .rw [<-he,beq_self_eq_true,Bool.true_or,ju rfl];rw[he]at x2⊢;simp only[evz,hlt,x1,x2]
  .have hne:(n == l[i])=false:=by
    cases h:(n == l[i])with
    |false=>rfl
    |true=>exact absurd (eq_of_beq h).symm he
   rw[hne,Bool.false_or,<-ih];simp only[evz,hlt,x1,x2,he,h5]
theorem jpU:∀t:T,Tz t-> ∀l:Xa,l.length+nodes t<=4000000->jq1 (tm t) (l.map cs)=some (.top,[.sl 1 ((vn l t).map cs)]):=by
 refine T.ind λt ih ht l hl=>?_;have hz:=ht;unfold Tz at hz;rw[jhG]at hz;have hn:=jfw t;have e1:∀x,jlI (vi 0) (sv t.name) x (l.map cs)=_:=λx=>jtb t.name x (by omega) l (by omega);have key:=upto (P:=λi=>∀l:Xa,l.length+jcO (t.args.drop i)<=4000000->jnW (vi (i:Nat)) (sv t.name) (tms t.args) (l.map cs)=some (.top,[.sl 1 ((vnL l (t.args.drop i)).map cs)])) (n:=t.args.length) ?_ ?_ 0 (Nat.zero_le _);rotate_left
 .intro l _;rw[jqG,List.drop_length];simp only[evz];rfl
 .intro i hi ihi l hl;have hlt:(i:Int)<((t.args.length:Nat):Int):=by omega
  have h5:=jeZ hi (by show t.args.length<=9223372036854775807;omega)
  rw[jeX hi,jcO]at hl;have q:=ih t.args[i] (YX hi) (ht.args _ (YX hi)) l (by omega);have hln:=jtd t.args[i] l;have q2:=ihi (vn l t.args[i]) (by omega);rw[jqG,jeX hi,vnL];generalize vn l t.args[i]=l' at *;have hr:hR 1 (A.top,[.sl 1 (l'.map cs)]) 0=some (l'.map cs):=rfl;simp only[evz,hlt,jaH hi,jbV,q,hr,h5,q2]
 have e2:jnV (vi 0) (sv t.name) (tms t.args) (l.map cs)=some (.top,[.sl 1 ((vnL l t.args).map cs)]):=by
  have key:=key l (by rw[List.drop_zero];omega)
  rw[List.drop_zero]at key;have:jnV (vi 0) (sv t.name) (tms t.args) (l.map cs)=jnW (vi 0) (sv t.name) (tms t.args) (l.map cs):=by rw[jyJ,jqG]
  rw[this];exact key
 rw[jBp,jut];cases ha:t.args with
 |cons u us=>
  rw[ha]at e2;have hne:¬(((u::us).length:Nat):Int)=0:=by rw[KP];omega
  rw[show(u::us).isEmpty=false from rfl,Bool.false_and,jo Bool.false_ne_true];generalize u::us=vs at *;simp only[evz,ha,hne,e2]
 |nil=>
  rw[ha]at e2;rw[show([]:Xg).isEmpty=true from rfl,Bool.true_and];cases hnm:t.name with
  |nil=>
   rw[hnm]at e2;rw[show upN []=false from rfl,jo Bool.false_ne_true];have z1:(((([]:Xg).length:Nat):Int)=0):=rfl;have z2:¬(0:Int)<((0:Nat):Int):=by decide
   generalize hE0:([]:Xg)=vs at *;simp only[evz,ha,hnm,z1,z2,e2]
  |cons c r=>
   rw[hnm]at e1 e2;have hpos:(0:Int)<(((c::r).length:Nat):Int):=Int.natCast_pos.2 (Nat.succ_pos _);have hx:=jpN (c:=c) (r:=r);have hu:upN (c::r)=(decide ((65:Int)<=(c.toNat:Int)) && decide ((c.toNat:Int)<=90)):=rfl;rw[hu];have z1:(((([]:Xg).length:Nat):Int)=0):=rfl;generalize hE0:([]:Xg)=vs at *;generalize c::r=nm at *;by_cases h1:(65:Int)<=(c.toNat:Int)
   .by_cases h2:(c.toNat:Int)<=90
    .rw [decide_eq_true h1,decide_eq_true h2,Bool.and_self,ju rfl];simp only[evz,ha,hnm,z1,hpos,hx,h1,h2,e1]
    .rw [decide_eq_true h1,decide_eq_false h2,Bool.and_false,jo Bool.false_ne_true];simp only[evz,ha,hnm,z1,hpos,hx,h1,h2,e2]
   .rw [decide_eq_false h1,Bool.false_and,jo Bool.false_ne_true];simp only[evz,ha,hnm,z1,hpos,hx,h1,e2]
theorem jB3{x n:Int}(h0:0<=x)(hn:1<=n)(hx:x<=9223372036854775807):jgx .quo false (vi x) (vi n)=some (vi (x / n)):=by
 show(if n=0 then none else ck (x.tdiv n))=_;rw[jo (by omega),Int.tdiv_eq_ediv_of_nonneg h0,jgN]
 .have:=Int.ediv_nonneg h0 (show(0:Int)<=n by omega);omega
 .have:=Int.ediv_le_self n h0;omega
theorem jvY{n:Nat}(hn:1<=n):∀(l k:Nat),∀v∈dec n l k,v<n
 |0,_,v,h=>by cases h
 |l+1,k,v,h=>by
  rw[dec]at h;rcases jK.1 h with rfl|h
  .exact Nat.mod_lt _ (by omega)
  .exact jvY hn l _ v h
theorem jtP(n:Nat):∀l k:Nat,(dec n l k).length=l
 |0,_=>rfl
 |l+1,k=>by rw[dec,KP,jtP n l]
theorem juE{s:Int}(hs:1<=s){E:Env}(h:∀p∈E,0<=p.2/\p.2<s)(x:Xb):0<=jhz E x/\jhz E x<s:=by
 have key:∀(E:Env)(a:Int),(0<=a/\a<s)->(∀p∈E,0<=p.2/\p.2<s)->0<=E.foldl (λa p=>if p.1=x then p.2 else a) a/\E.foldl (λa p=>if p.1=x then p.2 else a) a<s:=by
  intro E;induction E with
  |nil=>intro a ha _;exact ha
  |cons p E ih=>
   intro a ha h;rw[List.foldl_cons];refine ih _ ?_ λq hq=>h q (by simp[hq]);split
   .exact h p (by simp)
   .exact ha
 exact key E 0 ⟨by omega,by omega⟩ h
theorem jwb(f:Xb->Int){l:Xa}{x:Xb}(hx:x∈l):jhz (l.map λn=>(n,f n)) x=f x:=by
 have key:∀(l:Xa)(a:Int),(x∈l\/a=f x)->(l.map λn=>(n,f n)).foldl (λa (p:Xb×Int)=>if p.1=x then p.2 else a) a=f x:=by
  intro l;induction l with
  |nil=>intro a h;exact h.elim (λh=>absurd h Y2) id
  |cons n l ih=>
   intro a h;rw[zB,List.foldl_cons];refine ih _ ?_;show x∈l\/(if n=x then f n else a)=f x;by_cases hn:n=x
   .right;rw[ju hn,hn]
   .rw [jo hn];rcases h with h|h
    .rcases jK.1 h with h|h
     .exact absurd h.symm hn
     .exact Or.inl h
    .exact Or.inr h
 exact key l 0 (Or.inl hx)
theorem jmZ{α β:Type}(f:α->β):∀l:List α,l.zip (l.map f)=l.map λx=>(x,f x)
 | []=>rfl
 |x::l=>by rw[zB,List.zip_cons_cons,jmZ f l,zB]
def jj8(s:Nat)(names:Xa)(k:Nat):Env:=names.zip ((dec s names.length k).map λv=>((v:Nat):Int))
theorem jm9{s:Nat}(hs:1<=s)(names:Xa)(k:Nat)(x:Xb):0<=jhz (jj8 s names k) x/\jhz (jj8 s names k) x<(s:Int):=by
 refine juE (by omega) (λp hp=>?_) x;obtain⟨v,hv,e⟩:=qQ.1 (List.of_mem_zip hp).2;have:=jvY hs _ _ v hv;rw[<-e];omega
theorem jv7{s:Nat}(hs:1<=s)(names:Xa)(e:Xb->Int)(he:∀x,0<=e x/\e x<(s:Int)):∃k,k<s ^ names.length/\ ∀x∈names,jhz (jj8 s names k) x=e x:=by
 have hv:∀v∈names.map (λx=>(e x).toNat),v<s:=by
  intro v hv;obtain⟨x,_,rfl⟩:=qQ.1 hv;have:=he x;omega
 refine⟨enc s (names.map λx=>(e x).toNat),?_,λx hx=>?_⟩
 .have:=jv6 hs _ hv;rwa[jbP]at this
 .have h1:=jtO hs _ hv;rw[jbP]at h1;unfold jj8;rw[h1,qP,jmZ,jwb _ hx];have:=he x;show(((e x).toNat:Nat):Int)=e x;omega
theorem jrt(s:Nat)(names:Xa)(k:Nat):(jj8 s names k).length=names.length:=by
 unfold jj8;rw[List.length_zip,jbP,jtP,Nat.min_self]
section
variable{code:Xi}(hb:By code)
include hb
omit hb in
theorem jxM(n:Xb)(v:Int)(E:Env)(hl:E.length<=1000000):jvB (sv n) (vi v) (E.map λp=>cs p.1) (E.map λp=>ci p.2)=some (.top,[.sl 1 (E.map λp=>cs p.1),.sl 1 (E.map λp=>ci p.2),.sl 1 ((E++[(n,v)]).map λp=>cs p.1),.sl 1 ((E++[(n,v)]).map λp=>ci p.2)]):=by
 have f1:jbk E.length 16=true:=jAD (by omega);have f2:jbk E.length 8=true:=jvb (by omega);have f3:jbk (E.length+1) 16=true:=jAD (by omega);have f4:jbk (E.length+1) 8=true:=jvb (by omega);rw[jBq];simp only[evz,f1,f2,f3,f4,jbM];rfl
omit hb in
theorem jnD(s:Nat)(hs:1<=s/\s<=3)(al k:A)(X:A)(names:Xa)(hn:names.length<=1000):∀(m i rest:Nat)(E:Env),i+m=names.length->E.length=i->rest<=1000000000->
  jq3 (bts code) (vi (s:Nat)) al k (vi (rest:Nat)) (vi (i:Nat)) X (names.map cs) (E.map λp=>cs p.1) (E.map λp=>ci p.2) =
  joh (bts code) (vi (s:Nat)) al k (vb false) (vi 0) X (names.map cs) ((E++(names.drop i).zip ((dec s m rest).map λv=>((v:Nat):Int))).map λp=>cs p.1) ((E++(names.drop i).zip ((dec s m rest).map λv=>((v:Nat):Int))).map λp=>ci p.2):=by
 intro m;induction m with
 |zero=>
  intro i rest E hi hE hr;have hlt:¬(i:Int)<((names.length:Nat):Int):=by omega
  rw[dec,List.map_nil,List.zip_nil_right,KQ,jzo];simp only[evz,hlt]
 |succ m ih=>
  intro i rest E hi hE hr;have hi':i<names.length:=by omega
  have hlt:(i:Int)<((names.length:Nat):Int):=by omega
  have h5:=jeZ hi' (by show names.length<=9223372036854775807;omega)
  have x1:pIx names.length (vi ((i:Nat):Int))=some i:=jiG hi';have x2:=jrL hi';have r1:=jqK (x:=((rest:Nat):Int)) (n:=((s:Nat):Int)) (by omega) (by omega);have r2:=jB3 (x:=((rest:Nat):Int)) (n:=((s:Nat):Int)) (by omega) (by omega) (by omega);rw[<-Int.natCast_emod]at r1;rw[<-Int.natCast_ediv]at r2;have w:=jxM names[i] ((rest % s:Nat):Int) E (by omega);have hd:rest / s<=1000000000:=JU (Nat.div_le_self _ _) hr;have q:=ih (i+1) (rest / s) (E++[(names[i],((rest % s:Nat):Int))]) (by omega) (by rw[Y0,List.length_singleton,hE]) hd;rw[dec,jeX hi',zB,List.zip_cons_cons,show E++(names[i],((rest % s:Nat):Int))::((names.drop (i+1)).zip ((dec s m (rest / s)).map λv=>((v:Nat):Int)))=(E++[(names[i],((rest % s:Nat):Int))])++(names.drop (i+1)).zip ((dec s m (rest / s)).map λv=>((v:Nat):Int)) by rw[jio];rfl,<-q,jzo];generalize hE':E++[(names[i],((rest % s:Nat):Int))]=E' at *;have hR:∀a b c d:Xc,hR 1 (A.top,[.sl 1 a,.sl 1 b,.sl 1 c,.sl 1 d]) 0=some a/\hR 1 (A.top,[.sl 1 a,.sl 1 b,.sl 1 c,.sl 1 d]) 1=some b/\hR 1 (A.top,[.sl 1 a,.sl 1 b,.sl 1 c,.sl 1 d]) 2=some c/\hR 1 (A.top,[.sl 1 a,.sl 1 b,.sl 1 c,.sl 1 d]) 3=some d:=λ_ _ _ _=>⟨rfl,rfl,rfl,rfl⟩;obtain⟨z0,z1,z2,z3⟩:=hR (E.map λp=>cs p.1) (E.map λp=>ci p.2) (E'.map λp=>cs p.1) (E'.map λp=>ci p.2);simp only[evz,hlt,x1,x2,r1,r2,h5,w,z0,z1,z2,z3]
theorem jqW(s:Nat)(hs:1<=s/\s<=3)(r:T)(hn:r.name=[61])(hl:r.args.length=2)(hr:Tz r)(names:Xa)(hnl:names.length<=3)(al:A)(k:Nat)(hk:k<=1000) :
  jq3 (bts code) (vi (s:Nat)) al (vi (k:Nat)) (vi (k:Nat)) (vi 0) (.sl 3 [[vb true,sv r.name,tms r.args]]) (names.map cs) [] [] =
  if decide (val (jip code s) (jhz (jj8 s names k)) (jge r)=val (jip code s) (jhz (jj8 s names k)) (jhE r))then jln (bts code) (vi (s:Nat)) al (vi ((k+1:Nat):Int)) (.sl 3 [[vb true,sv r.name,tms r.args]]) (names.map cs)else some (vb false,[]):=by
 have hv:=jvo hb s (by omega) (jj8 s names k) (by rw[jrt];omega) (jm9 hs.1 names k) r hn hl hr
 have q1:jf1 (.sl 3 [[vb true,sv r.name,tms r.args]])=some (vi 1):=rfl;have q2:zN 3 (.sl 3 [[vb true,sv r.name,tms r.args]]) (vi 0)=some (.elt [vb true,sv r.name,tms r.args] 0):=rfl;have q3:jgw (.elt [vb true,sv r.name,tms r.args] 0) 1=some (.elt [vb true,sv r.name,tms r.args] 1):=rfl;have q4:jch 2 (.elt [vb true,sv r.name,tms r.args] 1)=some (tm r):=rfl;have q5:jgw (.elt [vb true,sv r.name,tms r.args] 0) 0=some (.elt [vb true,sv r.name,tms r.args] 0):=rfl;have q6:jci (.elt [vb true,sv r.name,tms r.args] 0)=some (vb true):=rfl;have c0:jgx .add false (vi 0) (vi 1)=some (vi 1):=by rw[jjy,jgN (by decide) (by decide)];rfl
 have ck1:jgx .add false (vi (k:Nat)) (vi 1)=some (vi ((k+1:Nat):Int)):=jeZ (n:=k+1) (by omega) (by omega);generalize A.sl 3 [[vb true,sv r.name,tms r.args]]=X at *;generalize A.elt [vb true,sv r.name,tms r.args] 0=e0 at *;generalize A.elt [vb true,sv r.name,tms r.args] 1=e1 at *;generalize hbb:decide (val (jip code s) (jhz (jj8 s names k)) (jge r)=val (jip code s) (jhz (jj8 s names k)) (jhE r))=b at *;have h10:¬(1:Int)<1:=by decide
 have h01:(0:Int)<1:=by decide
 have e6:∀E:Env,G 65 [bts code,vi (s:Nat),ev E,tm r]=some (vb b,[])->joh (bts code) (vi (s:Nat)) al (vi (k:Nat)) (vb false) (vi 0) X (names.map cs) (E.map λp=>cs p.1) (E.map λp=>ci p.2)=if b then jln (bts code) (vi (s:Nat)) al (vi ((k+1:Nat):Int)) X (names.map cs)else some (vb false,[]):=by
  intro E hv;have e61:∀x y:Xc,joh (bts code) (vi (s:Nat)) al (vi (k:Nat)) (vb b) (vi 1) X (names.map cs) x y=if b then jln (bts code) (vi (s:Nat)) al (vi ((k+1:Nat):Int)) X (names.map cs)else some (vb false,[]):=by
   intro x y;rw[jtZ];cases b<;>simp only[evz,q1,h10,ck1]
  rw[jtZ];cases b<;>simp only[evz,q1,h01,q2,q3,q4,hv,q5,q6,c0,e61]
 have key:=jnD (code:=code) s hs al (vi (k:Nat)) X names (by omega) names.length 0 k [] (by omega) rfl (by omega);rw[List.drop_zero,qf,show names.zip ((dec s names.length k).map λv=>((v:Nat):Int))=jj8 s names k from rfl,e6 (jj8 s names k) hv]at key;exact key
end
def R3(S:Xa)(r:T):Prop:=r.name=[61]/\r.args.length=2/\Tz r/\(okT (jge r)=true/\VIn S (jge r))/\okT (jhE r)=true/\VIn S (jhE r)
def jvD(code:Xi)(s:Int)(r:T):Prop:=∀e:Xb->Int,(∀x,0<=e x/\e x<s)->val (jip code s) e (jge r)=val (jip code s) e (jhE r)
theorem jxD{r:T}(h:r.args.length=2):r.args=[jge r,jhE r]:=by
 obtain⟨n,us⟩:=r
 match us,h with
 | [u,v],_=>rfl
theorem jvP{S:Xa}(hS:S.length<=3){r:T}(h:R3 S r):(vn [] r).length<=3/\(∀x∈jhx (jge r),x∈vn [] r)/\(∀x∈jhx (jhE r),x∈vn [] r):=by
 obtain⟨hn,hl,_,⟨o1,v1⟩,o2,v2⟩:=h;have e:vn [] r=vn (vn [] (jge r)) (jhE r):=by
  rw[jut,hn,show upN [61]=false from by decide,Bool.and_false,jo Bool.false_ne_true,jxD hl,vnL,vnL,vnL]
 obtain⟨a1,a2,a3,a4⟩:=jss (S:=S) (jge r) o1 v1 [] (by simp) (λx h=>by cases h);obtain⟨b1,b2,b3,b4⟩:=jss (S:=S) (jhE r) o2 v2 _ a1 a2;rw[e];exact⟨JU (jpK S _ b1 b2) hS,λx hx=>b3 x (a4 x hx),b4⟩
section
variable{code:Xi}(hb:By code)
include hb
theorem js9{S:Xa}(hS:S.length<=3)(s:Nat)(hs:1<=s/\s<=3)(r:T)(h:R3 S r):∃b,G 29 [bts code,vi (s:Nat),.agg [.sl 3 [[vb true,sv r.name,tms r.args]]]]=some (vb b,[])/\(b=true->jvD code s r):=by
 obtain⟨n1,n2,n3⟩:=jvP hS h;have hz:=h.2.2.1;have hz':=hz;unfold Tz at hz';have hnl:nodes r<=3000000:=by have:=jiS r;omega
 have q:=jpU r hz [] (by simp;omega)
 generalize hnm:vn [] r=names at *;have hp:s ^ names.length<=27:=by
  have h1:s ^ names.length<=3 ^ names.length:=Nat.pow_le_pow_left hs.2 _;have h2:3 ^ names.length<=3 ^ 3:=Nat.pow_le_pow_right (by decide) n1;exact JU h1 h2
 have key:∀k,k<=s ^ names.length-> ∃b,jln (bts code) (vi (s:Nat)) (vi ((s ^ names.length:Nat):Int)) (vi (k:Nat)) (.sl 3 [[vb true,sv r.name,tms r.args]]) (names.map cs)=some (vb b,[])/\(b=true-> ∀k',k<=k'->k'<s ^ names.length->val (jip code s) (jhz (jj8 s names k')) (jge r)=val (jip code s) (jhz (jj8 s names k')) (jhE r)):=by
  refine upto ?_ ?_
  .refine ⟨true,?_,λ_ k' h1 h2=>by omega⟩;rw[jpC];have:¬((s ^ names.length:Nat):Int)<((s ^ names.length:Nat):Int):=by omega
   generalize ((s ^ names.length:Nat):Int)=n at *;simp only[evz,this]
  .rintro k hk ⟨b,e,hbb⟩;have st:=jqW hb s hs r h.1 h.2.1 hz names n1 (vi ((s ^ names.length:Nat):Int)) k (by omega);rw[e]at st;have hlt:(k:Int)<((s ^ names.length:Nat):Int):=by omega
   generalize hX:A.sl 3 [[vb true,sv r.name,tms r.args]]=X at *;generalize ((s ^ names.length:Nat):Int)=n at *;by_cases hv:val (jip code s) (jhz (jj8 s names k)) (jge r)=val (jip code s) (jhz (jj8 s names k)) (jhE r)
   .rw [decide_eq_true hv,ju rfl]at st;refine⟨b,by rw[jpC];simp only[evz,hlt,st],λhb1 k' h1 h2=>?_⟩;by_cases hkk:k'=k
    .rw [hkk];exact hv
    .exact hbb hb1 k' (by omega) h2
   .rw [decide_eq_false hv,jo Bool.false_ne_true]at st;exact⟨false,by rw[jpC];simp only[evz,hlt,st],λh=>by cases h⟩
 obtain⟨b,eb,hbb⟩:=key 0 (Nat.zero_le _);simp only[Int.natCast_zero]at eb;refine⟨b,?_,λhb1 e he=>?_⟩
 .
  have pow:∀i,i<=names.length->jpr (bts code) (vi (s:Nat)) (vi ((s ^ i:Nat):Int)) (vi (i:Nat)) (.sl 3 [[vb true,sv r.name,tms r.args]]) (names.map cs)=some (vb b,[]):=by
   refine upto ?_ ?_
   .have hlt:¬((names.length:Nat):Int)<((names.length:Nat):Int):=by omega
    rw[jrC];generalize hX:A.sl 3 [[vb true,sv r.name,tms r.args]]=X at *;generalize ((s ^ names.length:Nat):Int)=n at *;simp only[evz,hlt,eb]
   .intro i hi ih;have hlt:(i:Int)<((names.length:Nat):Int):=by omega
    have h5:=jeZ hi (by show names.length<=9223372036854775807;omega)
    have hpi:s ^ i<=27:=by
     have h1:s ^ i<=3 ^ i:=Nat.pow_le_pow_left hs.2 _;have h2:3 ^ i<=3 ^ 3:=Nat.pow_le_pow_right (by decide) (by omega);exact JU h1 h2
    have hpn:s ^ (i+1)<=27:=by
     have h1:s ^ (i+1)<=3 ^ (i+1):=Nat.pow_le_pow_left hs.2 _;have h2:3 ^ (i+1)<=3 ^ 3:=Nat.pow_le_pow_right (by decide) (by omega);exact JU h1 h2
    have h200:((s ^ i:Nat):Int)<200:=by omega
    have c1:ck (((s ^ i:Nat):Int)*((s:Nat):Int))=some (vi ((s ^ (i+1):Nat):Int)):=by
     have he:((s ^ i:Nat):Int)*((s:Nat):Int)=((s ^ (i+1):Nat):Int):=by rw[Nat.pow_succ,Int.natCast_mul]
     rw[he,jgN (by omega) (by omega)]
    generalize ((s ^ (i+1):Nat):Int)=p2 at *;generalize ((s ^ i:Nat):Int)=p1 at *;rw[jrC];generalize hX:A.sl 3 [[vb true,sv r.name,tms r.args]]=X at *;simp only[evz,hlt,h5,h200,c1,ih]
  have p0:=pow 0 (Nat.zero_le _);rw[Nat.pow_zero]at p0;simp only[Int.natCast_zero,Int.natCast_one]at p0;have q1:jf1 (.sl 3 [[vb true,sv r.name,tms r.args]])=some (vi 1):=rfl;have q2:zN 3 (.sl 3 [[vb true,sv r.name,tms r.args]]) (vi 0)=some (.elt [vb true,sv r.name,tms r.args] 0):=rfl;have q3:jgw (.elt [vb true,sv r.name,tms r.args] 0) 1=some (.elt [vb true,sv r.name,tms r.args] 1):=rfl;have q4:jch 2 (.elt [vb true,sv r.name,tms r.args] 1)=some (tm r):=rfl;have c0:jgx .add false (vi 0) (vi 1)=some (vi 1):=by rw[jjy,jgN (by decide) (by decide)];rfl
  have h10:¬(1:Int)<1:=by decide
  have h01:(0:Int)<1:=by decide
  have hr:hR 1 (A.top,[.sl 1 (names.map cs)]) 0=some (names.map cs):=rfl;have q:jq1 (tm r) []=some (.top,[.sl 1 (names.map cs)]):=q;have z1:jpq (bts code) (vi (s:Nat)) (vi 1) (.sl 3 [[vb true,sv r.name,tms r.args]]) (names.map cs)=some (vb b,[]):=by
   rw[jtY];generalize hX:A.sl 3 [[vb true,sv r.name,tms r.args]]=X at *;simp only[evz,q1,h10,p0]
  have z0:jpq (bts code) (vi (s:Nat)) (vi 0) (.sl 3 [[vb true,sv r.name,tms r.args]]) []=some (vb b,[]):=by
   rw[jtY];generalize hX:A.sl 3 [[vb true,sv r.name,tms r.args]]=X at *;generalize A.elt [vb true,sv r.name,tms r.args] 0=e0 at *;generalize A.elt [vb true,sv r.name,tms r.args] 1=e1 at *;simp only[evz,q1,h01,q2,q3,q4,q,hr,c0,z1]
  rw[g29];exact z0
 .obtain ⟨k,hk,hke⟩:=jv7 hs.1 names e he;have:=hbb hb1 k (Nat.zero_le _) hk;rw[jnp (jge r) h.2.2.2.1.1 (λx hx=>hke x (n2 x hx)),jnp (jhE r) h.2.2.2.2.1 (λx hx=>hke x (n3 x hx))]at this;exact this
theorem jvp{S:Xa}(hS:S.length<=3)(s:Nat)(hs:1<=s/\s<=3)(rs:Xg)(hl:rs.length<=1048576)(h:∀r∈rs,R3 S r):∃b,G 9 [bts code,vi (s:Nat),tms rs]=some (vb b,[])/\(b=true-> ∀r∈rs,jvD code s r):=by
 have key:∀i,i<=rs.length-> ∃b,jvO (bts code) (vi (s:Nat)) (tms rs) (vi (i:Nat))=some (vb b,[])/\(b=true-> ∀r∈rs.drop i,jvD code s r):=by
  refine upto ?_ ?_
  .refine ⟨true,?_,λ_ r hr=>by rw[List.drop_length]at hr;cases hr⟩
   rw[jyL];simp only[evz]
  .rintro i hi ⟨b,e,hbb⟩;have hlt:(i:Int)<((rs.length:Nat):Int):=by omega
   have c5:ck ((i:Int)+1)=some (vi ((i+1:Nat):Int)):=by rw[show((i:Nat):Int)+1=((i+1:Nat):Int) by omega,jgN (by omega) (by omega)]
   obtain⟨b1,e1,hb1⟩:=js9 hb hS s hs rs[i] (h _ (YX hi));have e1:G 29 [bts code,vi (s:Nat),.agg [.sl 3 [[vb true,sv rs[i].name,tms rs[i].args]]]]=some (vb b1,[]):=e1;rw[jyL,jeX hi];refine⟨b1 && b,?_,λhb2=>?_⟩
   .simp only[evz,hlt,jaH hi,jbV];generalize hB:K3 _ _ _=B;have hB':B=some (.agg [vb true,sv rs[i].name,tms rs[i].args]):=by rw[<-hB];kernel_rfl
    rw[hB'];cases b1<;>simp only[evz,e1,c5,e,Bool.true_and,Bool.false_and]
   .rw [jm]at hb2;intro r hr;rcases jK.1 hr with rfl|hr
    .exact hb1 hb2.1
    .exact hbb hb2.2 r hr
 obtain⟨b,e,hbb⟩:=key 0 (Nat.zero_le _);rw[List.drop_zero]at hbb;simp only[Int.natCast_zero]at e;exact⟨b,by rw[g9];exact e,hbb⟩
end
def MD(code:Xi)(z q:Nat)(a:Int)(o:Xe):Prop:=∃a' s' t,a<=a'/\a'<=a+(q:Nat)/\(tsz t<=z/\nmT t=true)/\o=some (.top,[bts code,vi a',vu s',tm t])
def fT(n:Xb):T:= .mk [102] [.mk n []]
def hT:T:= .mk [104] [fT [97],fT [97],fT [97],fT [97]]
def gT(us:Xg):T:= .mk [103] us
section
variable{code:Xi}(hb:By code)
include hb
end
def OD(code:Xi)(q:Nat)(a:Int)(o:Xe):Prop:=∃a' s' r,a<=a'/\a'<=a+(q:Nat)/\owf r/\o=some (.top,[bts code,vi a',vu s',od r])
section
variable{code:Xi}(hb:By code)
include hb
end
def PD(code:Xi)(z q:Nat)(a:Int)(o:Xe):Prop:=∃a' s' t u,a<=a'/\a'<=a+(q:Nat)/\tsz t<=z/\tsz u<=z/\o=some (.top,[bts code,vi a',vu s',.tup [tm t,tm u]])
section
variable{code:Xi}(hb:By code)
include hb
end
section
variable{code:Xi}(hb:By code)
include hb
end
section
variable{code:Xi}(hb:By code)
include hb
end
abbrev S3:Xa:=[[88],[89],[90]]
theorem jBV:∀t:T,okT t=true->VIn S3 t->nmT t=true:=by
 refine T.ind λt ih hk hv=>?_;rw[jiM]at hk;unfold VIn at hv;rw[ji6]at hv;rw[jAu];cases h:jc2 t.name with
 |true=>
  rw[h,ju rfl]at hk hv;have h1:=hv t.name (by simp);have h2:juX t.name=true:=by
   unfold juX;simp only[jK,Y2,or_false]at h1;rcases h1 with e|e|e<;>rw[e]<;>decide
  rw[h2,List.isEmpty_iff.1 hk];rfl
 |false=>
  rw[h,jo Bool.false_ne_true]at hk hv;simp only[jm]at hk;have h2:juX t.name=true:=by unfold juX;rw[h];rfl
  have h3:∀us:Xg,(∀u∈us,u∈t.args)->(∀x∈jhV us,x∈S3)->jnJ us=true->jwU us=true:=by
   intro us;induction us with
   |nil=>intro _ _ _;rfl
   |cons u us ih2=>
    intro hm hx hk;rw[jnJ,jm]at hk;rw[jhV]at hx;rw[jwU,ih u (hm u (by simp)) hk.1 (λx h=>hx x (Y1 _ h)),ih2 (λv h=>hm v (by simp[h])) (λx h=>hx x (jdj _ h)) hk.2];rfl
  rw[h2,h3 t.args (λ_ h=>h) hv hk.2.2];rfl
def GT(N:Nat)(t:T):Prop:=okT t=true/\nodes t<=N/\VIn S3 t
theorem GT.valid{N:Nat}(hN:N<=8){t:T}(h:GT N t):jgc t=true/\tsz t<=80:=by
 have h1:=jjK t h.1;have h2:=jsJ t;have h3:=h.2.1;refine⟨?_,by omega⟩;unfold jgc je7;rw[h.1,decide_eq_true (show nodes t<=30 by omega),decide_eq_true (show dep t<=8 by omega)];rfl
theorem GT.nm{N:Nat}{t:T}(h:GT N t):nmT t=true:=jBV t h.1 h.2.2
theorem GT.le{M N:Nat}(h:M<=N){t:T}(ht:GT M t):GT N t:=⟨ht.1,JU ht.2.1 h,ht.2.2⟩
theorem GT.leaf{w:Xb}(h:w∈([[88],[89],[90],[97],[98]]:Xa)):GT 1 (.mk w []):=by
 simp only[jK,Y2,or_false]at h;refine⟨?_,jR _,?_⟩
 .rcases h with rfl|rfl|rfl|rfl|rfl<;>decide
 .intro x hx;rw[ji6]at hx;rcases h with rfl|rfl|rfl|rfl|rfl<;>simp[jc2,upc,inB,T.name,T.args,jhV]at hx<;>simp[hx]
theorem GT.app{n:Xb}{us:Xg}{N:Nat}(hv:jc2 n=false)(hs:jiX n=true)(hl:us.length<=4)(h:∀u∈us,okT u=true/\VIn S3 u)(hN:1+jcO us<=N):GT N (.mk n us):=by
 refine⟨?_,?_,?_⟩
 .rw [jiM];show(if jc2 n then _ else jiX n && (decide (us.length<=4) && jnJ us))=true;rw[hv,jo Bool.false_ne_true,hs,decide_eq_true hl,Bool.true_and,Bool.true_and,jjT,jaF];exact λu hu=>(h u hu).1
 .rw [jfw];exact hN
 .intro x hx;rw[ji6]at hx;have hx:x∈(if jc2 n then[n]else jhV us):=hx;rw[hv,jo Bool.false_ne_true]at hx;have:∀us:Xg,(∀u∈us,VIn S3 u)->x∈jhV us->x∈S3:=by
   intro us;induction us with
   |nil=>intro _ h;cases h
   |cons u us ih=>
    intro h hx;rw[jhV]at hx;rcases j4.1 hx with hx|hx
    .exact h u (by simp) x hx
    .exact ih (λv hv=>h v (by simp[hv])) hx
  exact this us (λu hu=>(h u hu).2) hx
def GD(code:Xi)(N q:Nat)(a:Int)(o:Xe):Prop:=∃a' s' t,a<=a'/\a'<=a+(q:Nat)/\GT N t/\o=some (.top,[bts code,vi a',vu s',sv (T.name t),tms (T.args t)])
section
variable{code:Xi}(hb:By code)
include hb
theorem joH(a s:Int)(h0:0<=a)(h1:a<=1000000000):∃a' s' w,GT 1 (.mk w [])/\a<=a'/\a'<=a+1/\jpm (bts code) (vi a) (vu s) [[sv [88]],[sv [89]],[sv [90]],[sv [97]],[sv [98]],[sv [88]],[sv [97]]]=some (.top,[bts code,vi a',vu s',sv w]):=by
 obtain⟨a',s',w,hw,q1,q2,e⟩:=jzP hb [[88],[89],[90],[97],[98],[88],[97]] (by decide) (by decide) a s h0 h1;refine⟨a',s',w,GT.leaf ?_,q1,q2,e⟩;simp only[jK,Y2,or_false]at hw⊢;rcases hw with h|h|h|h|h|h|h<;>simp[h]
theorem juG(dep:Int)(hd:dep<=1)(a s:Int)(h0:0<=a)(h1:a<=999999000):GD code 1 1 a (jlj (vi dep) (bts code) (vi a) (vu s)):=by
 obtain⟨a1,s1,w,hw,q1,q2,e⟩:=joH hb a s h0 (by omega);refine⟨a1,s1,.mk w [],q1,by omega,hw,?_⟩;rw[jop];simp only[evz,hd,e,List.getElem?_cons_zero,List.getElem?_cons_succ,jmj];rfl
theorem juI(N q:Nat)(d:Nat)(h1d:1<=d)(hd:d<=10)(ih:∀a s:Int,0<=a->a<=999999000->GD code N q a (jlj (vi (d:Nat)) (bts code) (vi a) (vu s)))(hq:q<=300)(a s:Int)(h0:0<=a)(h1:a<=999998000):GD code (2*N+1) (2*q+3) a (jlj (vi ((d+1:Nat):Int)) (bts code) (vi a) (vu s)):=by
 have hle:¬((d+1:Nat):Int)<=1:=by omega
 obtain⟨a1,s1,b1,q1,q2,e1⟩:=jnh hb 3 (by decide) (by decide) a s h0 (by omega);cases b1 with
 |true=>
  obtain⟨a2,s2,w,hw,r1,r2,e⟩:=joH hb a1 s1 (by omega) (by omega);refine⟨a2,s2,.mk w [],by omega,by omega,hw.le (by omega),?_⟩;rw[jop];simp only[evz,hle,e1,e,List.getElem?_cons_zero,List.getElem?_cons_succ,jmj];rfl
 |false=>
  obtain⟨a2,s2,b2,r1,r2,e2⟩:=jnh hb 2 (by decide) (by decide) a1 s1 (by omega) (by omega);have c1:ck (((d+1:Nat):Int)-1)=some (vi (d:Nat)):=by rw[show((d+1:Nat):Int)-1=(d:Nat) by omega];exact jgN (by omega) (by omega)
  obtain⟨a3,s3,t3,u1,u2,u3,e3⟩:=ih a2 s2 (by omega) (by omega);cases b2 with
  |true=>
   refine⟨a3,s3,.mk [102] [t3],by omega,by omega,GT.app (by decide) (by decide) (by simp) (λu hu=>?_) ?_,?_⟩
   .simp only[jA]at hu;subst hu;exact⟨u3.1,u3.2.2⟩
   .have:=u3.2.1;simp only[jcO];omega
   rw[jop];simp only[evz,hle,e1,e2,c1,e3,List.getElem?_cons_zero,List.getElem?_cons_succ,jmj];rw[<-jB6];rfl
  |false=>
   obtain⟨a4,s4,t4,v1,v2,v3,e4⟩:=ih a3 s3 (by omega) (by omega);refine⟨a4,s4,.mk [103] [t3,t4],by omega,by omega,GT.app (by decide) (by decide) (by simp) (λu hu=>?_) ?_,?_⟩
   .simp only[jK,Y2,or_false]at hu;rcases hu with rfl|rfl
    .exact ⟨u3.1,u3.2.2⟩
    .exact ⟨v3.1,v3.2.2⟩
   .have:=u3.2.1;have:=v3.2.1;simp only[jcO];omega
   rw[jop];simp only[evz,hle,e1,e2,c1,e3,e4,List.getElem?_cons_zero,List.getElem?_cons_succ,jmj];rw[<-jAU];rfl
theorem jna(a s:Int)(h0:0<=a)(h1:a<=999998000):GD code 3 5 a (jlj (vi 2) (bts code) (vi a) (vu s)):=
 juI hb 1 1 1 (by decide) (by decide) (λa s h0 h1=>juG hb 1 (by decide) a s h0 h1) (by decide) a s h0 h1
theorem juH(a s:Int)(h0:0<=a)(h1:a<=999997000):GD code 7 13 a (jlj (vi 3) (bts code) (vi a) (vu s)):=by
 obtain⟨a1,s1,b1,q1,q2,e1⟩:=jnh hb 3 (by decide) (by decide) a s h0 (by omega);have hle:¬(3:Int)<=1:=by decide
 cases b1 with
 |true=>
  obtain⟨a2,s2,w,hw,r1,r2,e⟩:=joH hb a1 s1 (by omega) (by omega);refine⟨a2,s2,.mk w [],by omega,by omega,hw.le (by omega),?_⟩;rw[jop];simp only[evz,hle,e1,e,List.getElem?_cons_zero,List.getElem?_cons_succ,jmj];rfl
 |false=>
  obtain⟨a2,s2,b2,r1,r2,e2⟩:=jnh hb 2 (by decide) (by decide) a1 s1 (by omega) (by omega);have c1:ck ((3:Int)-1)=some (vi 2):=jgN (n:=3-1) (by decide) (by decide);obtain⟨a3,s3,t3,u1,u2,u3,e3⟩:=jna hb a2 s2 (by omega) (by omega);cases b2 with
  |true=>
   refine⟨a3,s3,.mk [102] [t3],by omega,by omega,GT.app (by decide) (by decide) (by simp) (λu hu=>?_) ?_,?_⟩
   .simp only[jA]at hu;subst hu;exact⟨u3.1,u3.2.2⟩
   .have:=u3.2.1;simp only[jcO];omega
   rw[jop];simp only[evz,hle,e1,e2,c1,e3,List.getElem?_cons_zero,List.getElem?_cons_succ,jmj];rw[<-jB6];rfl
  |false=>
   obtain⟨a4,s4,t4,v1,v2,v3,e4⟩:=jna hb a3 s3 (by omega) (by omega);refine⟨a4,s4,.mk [103] [t3,t4],by omega,by omega,GT.app (by decide) (by decide) (by simp) (λu hu=>?_) ?_,?_⟩
   .simp only[jK,Y2,or_false]at hu;rcases hu with rfl|rfl
    .exact ⟨u3.1,u3.2.2⟩
    .exact ⟨v3.1,v3.2.2⟩
   .have:=u3.2.1;have:=v3.2.1;simp only[jcO];omega
   rw[jop];simp only[evz,hle,e1,e2,c1,e3,e4,List.getElem?_cons_zero,List.getElem?_cons_succ,jmj];rw[<-jAU];rfl
end
theorem jtF{u v:T}(hu:GT 7 u)(hv:GT 7 v):R3 S3 (.mk [61] [u,v]):=by
 have h1:=(hu.valid (by decide)).2;have h2:=(hv.valid (by decide)).2;exact⟨rfl,rfl,by unfold Tz;rw[jxC];simp only[KP,YU,jks];omega,⟨hu.1,hu.2.2⟩,hv.1,hv.2.2⟩
def ED(code:Xi)(q:Nat)(a:Int)(o:Xe):Prop:=∃a' s' r,a<=a'/\a'<=a+(q:Nat)/\R3 S3 r/\(tsz r<=400/\nodes r<=15)/\o=some (.top,[bts code,vi a',vu s',tm r])
theorem jtG{u v:T}(hu:GT 7 u)(hv:GT 7 v):tsz (.mk [61] [u,v])<=400/\nodes (.mk [61] [u,v])<=15:=by
 have h1:=(hu.valid (by decide)).2;have h2:=(hv.valid (by decide)).2;have h3:=hu.2.1;have h4:=hv.2.1;refine⟨by rw[jxC];simp only[KP,YU,jks];omega,?_⟩;rw[jfw];show 1+jcO [u,v]<=15;simp only[jcO];omega
theorem jqU(u v:T):tm (.mk [61] [u,v]) = .agg [sv [61],.sl 2 [[sv u.name,tms u.args],[sv v.name,tms v.args]]]:=by
 show A.agg [sv [61],tms [u,v]]=_;rw[jAU]
section
variable{code:Xi}(hb:By code)
include hb
theorem jow(a s:Int)(h0:0<=a)(h1:a<=999990000):ED code 30 a (jte (bts code) (vi a) (vu s)):=by
 obtain⟨a1,s1,t,q1,q2,q3,e1⟩:=juH hb a s h0 (by omega);obtain⟨a2,s2,u,r1,r2,r3,e2⟩:=jna hb a1 s1 (by omega) (by omega);obtain⟨a3,s3,b,u1,u2,e3⟩:=jnh hb 3 (by decide) (by decide) a2 s2 (by omega) (by omega);obtain⟨t1,t2⟩:=q3.valid (by decide);have fin:∀(v:T),GT 7 v-> ∃x:Int,G 33 [.agg [sv t.name,tms t.args],.agg [sv v.name,tms v.args]]=some (vi x,[]):=by
  intro v hv;obtain⟨v1,v2⟩:=hv.valid (by decide);have z1:Tz t:=by unfold Tz;omega
  have z2:Tz v:=by unfold Tz;omega
  obtain⟨x,e,_⟩:=joP t v z1.wf z2.wf z1 z2 t1 v1;exact⟨x,e⟩
 rw[jBb];cases b with
 |true=>
  obtain⟨a4,s4,w,hw,v1,v2,e4⟩:=jzP hb [[97],[98],[88],[89]] (by decide) (by decide) a3 s3 (by omega) (by omega);have e4:jpm (bts code) (vi a3) (vu s3) [[sv [97]],[sv [98]],[sv [88]],[sv [89]]]=some (.top,[bts code,vi a4,vu s4,sv w]):=e4;have hG:GT 1 (.mk w []):=by
   refine GT.leaf ?_;simp only[jK,Y2,or_false]at hw⊢;rcases hw with h|h|h|h<;>simp[h]
  have hG:=hG.le (N:=7) (by decide);obtain⟨x,e5⟩:=fin _ hG;have e5:G 33 [.agg [sv t.name,tms t.args],.agg [sv w,.sl 2 []]]=some (vi x,[]):=e5;by_cases hx:x=3
  .refine ⟨a4,s4,.mk [61] [.mk w [],t],by omega,by omega,jtF hG q3,jtG hG q3,?_⟩;rw[jqU];simp only[evz,e1,e2,e3,e4,e5,hx,List.getElem?_cons_zero,List.getElem?_cons_succ,jmj];rfl
  .refine ⟨a4,s4,.mk [61] [t,.mk w []],by omega,by omega,jtF q3 hG,jtG q3 hG,?_⟩;rw[jqU];simp only[evz,e1,e2,e3,e4,e5,hx,List.getElem?_cons_zero,List.getElem?_cons_succ,jmj];rfl
 |false=>
  have hG:=r3.le (N:=7) (by decide);obtain⟨x,e5⟩:=fin _ hG;by_cases hx:x=3
  .refine ⟨a3,s3,.mk [61] [u,t],by omega,by omega,jtF hG q3,jtG hG q3,?_⟩;rw[jqU];simp only[evz,e1,e2,e3,e5,hx,List.getElem?_cons_zero,List.getElem?_cons_succ,jmj]
  .refine ⟨a3,s3,.mk [61] [t,u],by omega,by omega,jtF q3 hG,jtG q3 hG,?_⟩;rw[jqU];simp only[evz,e1,e2,e3,e5,hx,List.getElem?_cons_zero,List.getElem?_cons_succ,jmj]
end
def RT:T:= .mk [61] [.mk [102] [.mk [88] []],.mk [88] []]
def LD(code:Xi)(q:Nat)(a:Int)(o:Xe):Prop:=∃a' s' rs,a<=a'/\a'<=a+(q:Nat)/\rs.length<=14/\(∀r∈rs,R3 S3 r/\tsz r<=400)/\o=some (.top,[bts code,vi a',vu s',tms rs])
section
variable{code:Xi}(hb:By code)
include hb
end
noncomputable def jk5(code:Xi)(s:Int)(hs:1<=s):Mdl:=⟨jip code s,λn vs=>decide (joM code (126::n) vs % 2=1),λv=>0<=v/\v<s,jne s hs⟩
section
variable{code:Xi}(hb:By code)
include hb
theorem jta(s:Int)(hs:1<=s/\s<=10)(E:Env)(hEl:E.length<=4000000)(hE:∀x,0<=jhz E x/\jhz E x<s)(t:T)(ht:Tz t):G 65 [bts code,vi s,ev E,tm t]=some (vb (jkn (jk5 code s hs.1) (jhz E) t),[]):=by
 have hz:=ht;unfold Tz at hz;rw[jhG]at hz;have hv:∀v∈t.args.map (val (jip code s) (jhz E)),0<=v/\v<=10:=by
  intro v hv;obtain⟨u,_,rfl⟩:=qQ.1 hv;have:=jo6 (good:=λv=>0<=v/\v<s) (M:=jip code s) (jne s hs.1) hE u;omega
 have key:=upto (P:=λi=>jl6 (bts code) (vi s) (vi (i:Nat)) (.sl 1 (E.map λp=>cs p.1)) (.sl 1 (E.map λp=>ci p.2)) (sv t.name) (tms t.args) (((t.args.take i).map (val (jip code s) (jhz E))).map ci)=some (vb (jkn (jk5 code s hs.1) (jhz E) t),[])) (n:=t.args.length) ?_ ?_ 0 (Nat.zero_le _)
 .rw [g65];exact key
 .obtain ⟨m0,me⟩:=jt5 hb (126::t.name) (by rw[KP];omega) _ hv (by rw[jbP];omega)
  have r:=jqK (x:=joM code (126::t.name) (t.args.map (val (jip code s) (jhz E)))) (n:=2) m0 (by decide);have sa:jgx .add false (sv [126]) (sv t.name)=some (sv (126::t.name)):=by rw[jnj,ju (by simp;omega)];rfl
  have lt0:¬((t.args.length:Nat):Int)<((t.args.length:Nat):Int):=by omega
  have hlen:(t.args.map (val (jip code s) (jhz E))).length=t.args.length:=jbP ..;rw[List.take_length,jrE];by_cases hn:t.name=[61]
  .by_cases h2:t.args.length=2
   .have ha:=jxY h2;have hh:jkn (jk5 code s hs.1) (jhz E) t=decide (val (jip code s) (jhz E) (jge t)=val (jip code s) (jhz E) (jhE t)):=by
     unfold jkn;rw[ju ⟨hn,h2⟩];rfl
    rw[hh];have hm:(t.args.map (val (jip code s) (jhz E))).map ci=[[vi (val (jip code s) (jhz E) (jge t))],[vi (val (jip code s) (jhz E) (jhE t))]]:=by rw[ha];rfl
    rw[hm];generalize val (jip code s) (jhz E) (jge t)=x at *;generalize val (jip code s) (jhz E) (jhE t)=y at *;have p0:pIx 2 (vi 0)=some 0:=rfl;have p1:pIx 2 (vi 1)=some 1:=rfl;have q0:jf6 [[vi x],[vi y]] 0 0=some (vi x):=rfl;have q1:jf6 [[vi x],[vi y]] 1 0=some (vi y):=rfl;have hl2:([[vi x],[vi y]]:Xc).length=2:=rfl;have h22:((2:Nat):Int)=2:=rfl;generalize hR: [[vi x],[vi y]]=R at *;simp only[evz,lt0,hn,hl2,h22,p0,p1,q0,q1]
   .have hh:jkn (jk5 code s hs.1) (jhz E) t=decide (joM code (126::t.name) (t.args.map (val (jip code s) (jhz E))) % 2=1):=by
     unfold jkn;rw[jo (λh=>h2 h.2)];rfl
    have h2':¬((t.args.length:Nat):Int)=2:=by omega
    rw[hh];generalize t.args.map (val (jip code s) (jhz E))=vs at *;have hl:((vs.length:Nat):Int)=((t.args.length:Nat):Int):=by rw[hlen]
    rw[hn]at sa me r;simp only[evz,lt0,hn,hl,h2',sa,me,r]
  .have hh:jkn (jk5 code s hs.1) (jhz E) t=decide (joM code (126::t.name) (t.args.map (val (jip code s) (jhz E))) % 2=1):=by
    unfold jkn;rw[jo (λh=>hn h.1)];rfl
   rw[hh];generalize t.args.map (val (jip code s) (jhz E))=vs at *;simp only[evz,lt0,hn,sa,me,r]
 .intro i hi ihi;have hlt:(i:Int)<((t.args.length:Nat):Int):=by omega
  have h5:=jeZ hi (by show t.args.length<=9223372036854775807;omega)
  have e1:=jno hb s hs E hEl hE t.args[i] (ht.args _ (YX hi));have f:jbk (i+1) 8=true:=jvb (by omega);have hmin:min i t.args.length=i:=by omega
  rw[List.take_succ_eq_append_getElem hi,jbM,jbM,show([t.args[i]].map (val (jip code s) (jhz E))).map ci=[[vi (val (jip code s) (jhz E) t.args[i])]] from rfl]at ihi;rw[jrE];generalize val (jip code s) (jhz E) t.args[i]=v at *;have ihi:jl6 (bts code) (vi s) (vi ((i+1:Nat):Int)) (.sl 1 (E.map λp=>cs p.1)) (.sl 1 (E.map λp=>ci p.2)) (sv t.name) (tms t.args) (jgD (((t.args.take i).map (val (jip code s) (jhz E))).map ci) [[vi v]])=_:=ihi;have hlen:(((t.args.take i).map (val (jip code s) (jhz E))).map ci).length=i:=by simp[hmin]
  generalize ((t.args.take i).map (val (jip code s) (jhz E))).map ci=R at *;have f2:jbk (R.length+1) 8=true:=by rw[hlen];exact f
  simp only[evz,hlt,jaH hi,jbV,e1,h5,f2,ihi]
end
def vnC(l:Xa)(c:Cls):Xa:=c.foldl (λl x=>vn l x.2) l
def jrg(s:Nat):Nat->Nat->Nat
 |0,a=>a
 |k+1,a=>if a<200 then jrg s k (a*s)else a
theorem jtH{s:Nat}(hs:s<=3):∀(k a:Nat),a<=600->jrg s k a<=600
 |0,a,h=>h
 |k+1,a,h=>by
  rw[jrg];split
  .refine jtH hs k _ ?_;have:a*s<=a*3:=Nat.mul_le_mul_left _ hs;omega
  .exact h
section
variable{code:Xi}(hb:By code)
include hb
theorem jqV(s:Nat)(hs:1<=s/\s<=3)(hs1:(1:Int)<=(s:Int))(c:Cls)(hc:c.length<=1000)(hz:∀l∈c,Tz l.2)(al:A)(k:Nat)(hk:k<=1000)(names:Xa)(E:Env)(hEl:E.length<=4000000)(hE:∀x,0<=jhz E x/\jhz E x<(s:Int)) :
  ∀i,i<=c.length-> ∀b:Bool,joh (bts code) (vi (s:Nat)) al (vi (k:Nat)) (vb b) (vi (i:Nat)) (.sl 3 (c.map ltc)) (names.map cs) (E.map λp=>cs p.1) (E.map λp=>ci p.2) =
   if b || (c.drop i).any (λl=>decide (jkn (jk5 code s hs1) (jhz E) l.2=l.1))then jln (bts code) (vi (s:Nat)) al (vi ((k+1:Nat):Int)) (.sl 3 (c.map ltc)) (names.map cs)else some (vb false,[]):=by
 have ck1:jgx .add false (vi (k:Nat)) (vi 1)=some (vi ((k+1:Nat):Int)):=jeZ (n:=k+1) (by omega) (by omega);have ld2:∀l:Lt,jch 2 (.elt (ltc l) 1)=some (tm l.2):=λl=>rfl;have ld0:∀l:Lt,jci (.elt (ltc l) 0)=some (vb l.1):=λl=>rfl;have ad:∀(l:Lt)(n:Nat),jgw (.elt (ltc l) 0) n=some (.elt (ltc l) n):=λl n=>by rw[joS,qM]
 generalize hZ:jln (bts code) (vi (s:Nat)) al (vi ((k+1:Nat):Int)) (.sl 3 (c.map ltc)) (names.map cs)=Z;refine upto ?_ ?_
 .intro b;have nlt:¬((c.length:Nat):Int)<((c.length:Nat):Int):=by omega
  rw[List.drop_length,List.any_nil,Bool.or_false,jtZ];cases b<;>simp only[evz,nlt,ck1,hZ]
 .intro i hi ih b;have hlt:(i:Int)<((c.length:Nat):Int):=by omega
  have h5:=jeZ hi (by show c.length<=9223372036854775807;omega)
  have x1:zN 3 (.sl 3 (c.map ltc)) (vi (i:Nat))=some (.elt (ltc c[i]) 0):=jaH hi;have e:=jta hb (s:Nat) (by omega) E hEl hE c[i].2 (hz _ (YX hi));rw[jeX hi,List.any_cons,jtZ];generalize c[i]=l at x1 e⊢;cases b with
  |true=>simp only[evz,hlt,ck1,hZ,Bool.true_or]
  |false=>
   have ih:=ih (decide (jkn (jk5 code s hs1) (jhz E) l.2=l.1));rw[Bool.false_or];generalize jkn (jk5 code s hs1) (jhz E) l.2=h at e ih⊢;rw[<-ih];simp only[evz,hlt,x1,ad,ld2,ld0,e,h5]
omit hb in
theorem jsW(s:Nat)(c:Cls)(hc:c.length<=1000)(hz:∀l∈c,Tz l.2)(hn:∀l∈c,nodes l.2<=3000):∀i,i<=c.length-> ∀l:Xa,l.length<=3000*i->jpq (bts code) (vi (s:Nat)) (vi (i:Nat)) (.sl 3 (c.map ltc)) (l.map cs)=jpr (bts code) (vi (s:Nat)) (vi 1) (vi 0) (.sl 3 (c.map ltc)) ((vnC l (c.drop i)).map cs):=by
 have ld2:∀l:Lt,jch 2 (.elt (ltc l) 1)=some (tm l.2):=λl=>rfl;have ad:∀(l:Lt)(n:Nat),jgw (.elt (ltc l) 0) n=some (.elt (ltc l) n):=λl n=>by rw[joS,qM]
 have hr:∀x:Xc,hR 1 (A.top,[.sl 1 x]) 0=some x:=λx=>rfl;refine upto ?_ ?_
 .intro l hl;have nlt:¬((c.length:Nat):Int)<((c.length:Nat):Int):=by omega
  rw[List.drop_length,jtY];simp only[evz,nlt,vnC,List.foldl_nil]
 .intro i hi ih l hl;have hlt:(i:Int)<((c.length:Nat):Int):=by omega
  have h5:=jeZ hi (by show c.length<=9223372036854775807;omega)
  have x1:zN 3 (.sl 3 (c.map ltc)) (vi (i:Nat))=some (.elt (ltc c[i]) 0):=jaH hi;have hm:=YX hi;have nn:=hn _ hm;have e:=jpU c[i].2 (hz _ hm) l (by omega);have ln:=jtd c[i].2 l;have ih:=ih (vn l c[i].2) (by omega);rw[jeX hi,show vnC l (c[i]::c.drop (i+1))=vnC (vn l c[i].2) (c.drop (i+1)) from rfl,<-ih,jtY];generalize c[i]=y at x1 e⊢;simp only[evz,hlt,x1,ad,ld2,e,hr,h5]
omit hb in
theorem jvt(s:Nat)(hs:1<=s/\s<=3)(C:A)(names:Xa)(hn:names.length<=3000000):∀i,i<=names.length-> ∀a:Nat,a<=600->jpr (bts code) (vi (s:Nat)) (vi (a:Nat)) (vi (i:Nat)) C (names.map cs)=jln (bts code) (vi (s:Nat)) (vi ((jrg s (names.length-i) a:Nat):Int)) (vi 0) C (names.map cs):=by
 refine upto ?_ ?_
 .intro a ha;have nlt:¬((names.length:Nat):Int)<((names.length:Nat):Int):=by omega
  rw[Nat.sub_self,jrg,jrC];simp only[evz,nlt]
 .intro i hi ih a ha;have hlt:(i:Int)<((names.length:Nat):Int):=by omega
  have h5:=jeZ hi (by show names.length<=9223372036854775807;omega)
  rw[show names.length-i=(names.length-(i+1))+1 by omega,jrg];by_cases h2:a<200
  .have h2':(a:Int)<200:=by omega
   have hm:a*s<=600:=by have:a*s<=a*3:=Nat.mul_le_mul_left _ hs.2;omega
   have c1:ck ((a:Int)*((s:Nat):Int))=some (vi ((a*s:Nat):Int)):=by rw[<-Int.natCast_mul,jgN (by omega) (by omega)]
   have ih:=ih (a*s) hm;rw[ju h2,<-ih,jrC];simp only[evz,hlt,h2',c1,h5]
  .have h2':¬(a:Int)<200:=by omega
   rw[jo h2,jrC];simp only[evz,hlt,h2']
theorem jsm(s:Nat)(hs:1<=s/\s<=3)(hs1:(1:Int)<=(s:Int))(c:Cls)(hc:c.length<=1000)(hz:∀l∈c,Tz l.2)(hn:∀l∈c,nodes l.2<=3000)(hnm:(vnC [] c).length<=1000) :
  ∃b,G 29 [bts code,vi (s:Nat),cm c]=some (vb b,[])/\(b=true↔ ∀k,k<jrg s (vnC [] c).length 1->clV (jk5 code s hs1) (jhz (jj8 s (vnC [] c) k)) c):=by
 have e0:=jsW (code:=code) s c hc hz hn 0 (Nat.zero_le _) [] (Nat.zero_le _);have hall:=jtH hs.2 (vnC [] c).length 1 (by decide);have e1:=jvt (code:=code) s hs (.sl 3 (c.map ltc)) (vnC [] c) (by omega) 0 (Nat.zero_le _) 1 (by decide);rw[Nat.sub_zero]at e1;simp only[Int.natCast_zero,Int.natCast_one,List.drop_zero,List.map_nil]at e0 e1;generalize vnC [] c=names at *;generalize jrg s names.length 1=n at *;have key:∀k,k<=n-> ∃b,jln (bts code) (vi (s:Nat)) (vi (n:Nat)) (vi (k:Nat)) (.sl 3 (c.map ltc)) (names.map cs)=some (vb b,[])/\(b=true↔ ∀k',k<=k'->k'<n->clV (jk5 code s hs1) (jhz (jj8 s names k')) c):=by
  refine upto ?_ ?_
  .refine ⟨true,?_,by simp;intro k' h1 h2;omega⟩
   have nlt:¬((n:Nat):Int)<((n:Nat):Int):=by omega
   rw[jpC];simp only[evz,nlt]
  .rintro k hk ⟨b,e,hbb⟩;have hlt:(k:Int)<((n:Nat):Int):=by omega
   have en:=jnD (code:=code) s hs (vi (n:Nat)) (vi (k:Nat)) (.sl 3 (c.map ltc)) names hnm names.length 0 k [] (by omega) rfl (by omega);have el:=jqV hb s hs hs1 c hc hz (vi (n:Nat)) k (by omega) names (jj8 s names k) (by rw[jrt];omega) (jm9 hs.1 names k) 0 (Nat.zero_le _) false;simp only[Int.natCast_zero]at el;rw[List.drop_zero,qf,show names.zip ((dec s names.length k).map λv=>((v:Nat):Int))=jj8 s names k from rfl,el,Bool.false_or,List.drop_zero,e]at en;have hcl:c.any (λl=>decide (jkn (jk5 code s hs1) (jhz (jj8 s names k)) l.2=l.1))=true↔clV (jk5 code s hs1) (jhz (jj8 s names k)) c:=by
    rw[List.any_eq_true];unfold clV;simp only[KR]
   simp only[Int.natCast_zero,List.map_nil]at en;by_cases ha:c.any (λl=>decide (jkn (jk5 code s hs1) (jhz (jj8 s names k)) l.2=l.1))=true
   .rw [ju ha]at en;refine⟨b,by rw[jpC];simp only[evz,hlt,en],hbb.trans ⟨λh k' h1 h2=>?_,λh k' h1 h2=>h k' (by omega) h2⟩⟩;by_cases hkk:k'=k
    .rw [hkk];exact hcl.1 ha
    .exact h k' (by omega) h2
   .rw [jo ha]at en;refine⟨false,by rw[jpC];simp only[evz,hlt,en],⟨λh=>(by cases h),λh=>absurd (hcl.2 (h k (jR _) hk)) ha⟩⟩
 obtain⟨b,e,hbb⟩:=key 0 (Nat.zero_le _);simp only[Int.natCast_zero]at e;refine⟨b,?_,hbb.trans ⟨λh k hk=>h k (Nat.zero_le _) hk,λh k _ hk=>h k hk⟩⟩;rw[g29];simp only[evz,e0,e1,e]
theorem jqX(s:Nat)(hs:1<=s/\s<=3)(hs1:(1:Int)<=(s:Int))(c:Cls)(hc:c.length<=1000)(hz:∀l∈c,Tz l.2)(hn:∀l∈c,nodes l.2<=3000)(hnm:(vnC [] c).length<=1000)(ht:trM (jk5 code s hs1) c):G 29 [bts code,vi (s:Nat),cm c]=some (vb true,[]):=by
 obtain⟨b,e,h⟩:=jsm hb s hs hs1 c hc hz hn hnm;rw[h.2 λk _=>ht _ (jm9 hs.1 _ k)]at e;exact e
end
theorem jqY:∀{c:Cls}{l:Xa},(∀y∈c,nodes y.2<=30)->(vnC l c).length<=l.length+30*c.length
 | [],l,_=>by simp[vnC]
 |y::c,l,h=>by
  have h1:=jtd y.2 l;have h2:=h y (by simp);have h3:=jqY (c:=c) (l:=vn l y.2) λz hz=>h z (by simp[hz]);show(vnC (vn l y.2) c).length<=_;rw[KP];omega
theorem CN.vn{c:Cls}(h:CN c):(vnC [] c).length<=240:=by
 have h1:=jqY (c:=c) (l:=[]) λy hy=>(h.2 y hy).2;have h2:=h.1;rw[YU]at h1;omega
theorem CN.nodes{c:Cls}(h:CN c):∀l∈c,nodes l.2<=3000:=λl hl=>by have:=(h.2 l hl).2;omega
section
variable{code:Xi}(hb:By code)
include hb
end
theorem jxu{a:T}(ha:Tz a)(he:a.name=[61])(h:jjS a=true)(hr:G 8 [tm a]=some (vb true,[])):jgc (jge a)=true/\jgc (jhE a)=true/\G 28 [tm (jge a),tm (jhE a)]=some (vi 2,[])/\G 28 [tm (jhE a),tm (jge a)]=some (vi 3,[]):=by
 have hw:=ha.wf;obtain⟨w1,w2,w3⟩:=(jhC a).1 hw;have w3:=(jgO _).1 w3;have q0:=jjP a;rw[decide_eq_true he]at q0;have e2:=jjZ a hw ha he;rw[h]at e2;obtain⟨h1,v1,v2,hsm⟩:=jsM h;obtain⟨i0,i1,ma,mb⟩:=jjF h1;have va:jgc (jmA a)=true:=by unfold jgc;rw[jlQ ma hsm];exact v1.1
 have vb':jgc (jnE a)=true:=by unfold jgc;rw[jlQ mb hsm];exact v2.1
 obtain⟨x,o1,o2,o3⟩:=joP (jmA a) (jnE a) (w3 _ ma) (w3 _ mb) v1.tz v2.tz va vb';have hr2:G 8 [tm a]=some (vb (decide (x=2)),[]):=by
  rw[g8];simp only[evz,q0,e2,i0,i1,jbV,o2]
 rw[hr]at hr2;have hx:true=decide (x=2):=by injection hr2 with h;injection h with h _;injection h with h;injection h
 rw[of_decide_eq_true hx.symm]at o2;exact⟨va,vb',o2,jsX _ _ (w3 _ ma) (w3 _ mb) v1.tz v2.tz va vb' o2⟩
section
variable{code:Xi}(hb:By code)
include hb
theorem jAf:∃a b,R3 S3 a/\R3 S3 b/\G 5 [bts code]=some (.tup [tm a,tm b],[]):=by
 obtain⟨a1,s1,a,q1,q2,q3,q4,e1⟩:=jow hb 0 0 (by decide) (by decide);obtain⟨a2,s2,c,r1,r2,e2⟩:=jnh hb 3 (by decide) (by decide) a1 s1 (by omega) (by omega);have okb:ZO (bts code)=true:=rfl;cases c with
 |true=>
  have o1:=jni a (by omega);refine⟨a,a,q3,q3,?_⟩;rw[g5];simp only[evz,okb,e1,e2,o1,List.getElem?_cons_zero,List.getElem?_cons_succ,jmj]
 |false=>
  obtain⟨a3,s3,b,u1,u2,u3,u4,e3⟩:=jow hb a2 s2 (by omega) (by omega);refine⟨a,b,q3,u3,?_⟩;rw[g5];simp only[evz,okb,e1,e2,e3,List.getElem?_cons_zero,List.getElem?_cons_succ,jmj]
theorem jtc(s:Nat)(hs:1<=s/\s<=3)(hs1:(1:Int)<=(s:Int))(u:T)(hu:RL u)(hh:jj3 (jk5 code s hs1) u):G 29 [bts code,vi (s:Nat),.agg [.sl 3 [[vb true,sv u.name,tms u.args]]]]=some (vb true,[]):=by
 have hl:(vnC [] [(true,u)]).length<=1000:=by
  have:=jqY (c:=[(true,u)]) (l:=[]) (λy hy=>by rw[jA.1 hy];exact hu.2.2.2.2)
  simp only[YU,KP]at this;omega
 have:=jqX hb s hs hs1 [(true,u)] (by simp) (λl h=>by rw[jA.1 h];exact hu.tz) (λl h=>by rw[jA.1 h];have:=hu.2.2.2.2;show nodes u<=3000;omega) hl (λe he=>⟨(true,u),jA.2 rfl,by
  unfold jkn;rw[ju ⟨hu.1,hu.2.1⟩];exact decide_eq_true (hh e he)⟩)
 exact this
theorem jso(s:Nat)(hs:1<=s/\s<=3)(hs1:(1:Int)<=(s:Int))(l:Xg)(hl:l.length<=100)(hu:∀u∈l,RL u)(hh:∀u∈l,jj3 (jk5 code s hs1) u):G 9 [bts code,vi (s:Nat),tms l]=some (vb true,[]):=by
 have key:∀i,i<=l.length->jvO (bts code) (vi (s:Nat)) (tms l) (vi (i:Nat))=some (vb true,[]):=by
  refine upto ?_ ?_
  .rw [jyL];simp only[evz]
  .intro i hi e;have hlt:(i:Int)<((l.length:Nat):Int):=by omega
   have c5:ck ((i:Int)+1)=some (vi ((i+1:Nat):Int)):=by rw[show((i:Nat):Int)+1=((i+1:Nat):Int) by omega,jgN (by omega) (by omega)]
   have e1:=jtc hb s hs hs1 l[i] (hu _ (YX hi)) (hh _ (YX hi));rw[jyL];simp only[evz,hlt,jaH hi,jbV];generalize hB:K3 _ _ _=B;have hB':B=some (.agg [vb true,sv l[i].name,tms l[i].args]):=by rw[<-hB];kernel_rfl
   rw[hB'];simp only[evz,e1,c5,e]
 have e:=key 0 (Nat.zero_le _);simp only[Int.natCast_zero]at e;rw[g9];exact e
theorem jsn(s:Nat)(hs:1<=s/\s<=3)(a b:T)(ha:R3 S3 a)(hb':R3 S3 b)(la:RL a)(lb:RL b):∃c:Bool,G 9 [bts code,vi (s:Nat),.sl 2 [[sv a.name,tms a.args],[sv b.name,tms b.args]]]=some (vb c,[])/\(c=true-> ∀l:Xg,l.length<=100->(∀u∈l,RL u)->l=jmp (jiI 65 a) (jiI 66 b)->G 9 [bts code,vi (s:Nat),tms l]=some (vb true,[])):=by
 have hs1:(1:Int)<=(s:Int):=by omega
 obtain⟨c,e,h⟩:=jvp hb (S:=S3) (by decide) s hs [a,b] (by simp) (λr hr=>by
  rcases jK.1 hr with rfl|hr
  .exact ha
  .rw [jA.1 hr];exact hb')
 have et:tms [a,b] = .sl 2 [[sv a.name,tms a.args],[sv b.name,tms b.args]]:=by
  show A.sl 2 [jbY a,jbY b]=_;rw[jhF a,jhF b]
 rw[et]at e;refine⟨c,e,λhc l hl hu he=>jso hb s hs hs1 l hl hu ?_⟩;subst he;have h1:jj3 (jk5 code s hs1) a:=λe he=>h hc a (by simp) e he;have h2:jj3 (jk5 code s hs1) b:=λe he=>h hc b (by simp) e he;exact jsN (jk5 code s hs1) la lb h1 h2
theorem jqt(s:Nat)(hs:1<=s/\s<=3)(a b:T)(ha:R3 S3 a)(hb':R3 S3 b)(la:RL a)(lb:RL b)(l:Xg)(hl:l.length<=100)(hu:∀u∈l,RL u)(he:l=jmp (jiI 65 a) (jiI 66 b)) :
  jqn (bts code) (vb true) (vi (s:Nat)) (sv a.name) (tms a.args) (sv b.name) (tms b.args) (l.map jbY)=jqn (bts code) (vb true) (vi ((s+1:Nat):Int)) (sv a.name) (tms a.args) (sv b.name) (tms b.args) (l.map jbY):=by
 obtain⟨c,e1,e2⟩:=jsn hb s hs a b ha hb' la lb;have hlt:((s:Nat):Int)<4:=by omega
 have h5:=jeZ (i:=s) (n:=s+1) (by omega) (by omega);rw[jAp];cases c with
 |false=>simp only[evz,hlt,e1,h5]
 |true=>
  have e2:=e2 rfl l hl hu he;simp only[evz,hlt,e1,e2,h5]
omit hb in
theorem jAe(a:T)(b1 b2:A)(R:Xc)(ha:Tz a)(na:a.name=[61])(ea:jjS a=true)(hr:G 8 [tm a]=some (vb true,[])) :
  jqn (bts code) (vb true) (vi 4) (sv a.name) (tms a.args) b1 b2 R=some (vb true,[]):=by
 obtain⟨v1,v2,o1,o2⟩:=jxu ha na ea hr;have la:=juo na ea;have nd:=la.nd;have t1:=jjD la.2.2.1 (by omega);have t2:=jjD la.2.2.2.1 (by omega);have w1:=jjx (jge a) t1.wf t1;have w2:=jjx (jhE a) t2.wf t2;rw[v1]at w1;rw[v2]at w2;have s1:G 10 [tm (jge a),tm (jhE a)]=some (.tup [vi 2,vb true],[]):=by
  rw[g10];simp only[evz,w1,w2,o1]
 have s2:G 10 [tm (jhE a),tm (jge a)]=some (.tup [vi 3,vb true],[]):=by
  rw[g10];simp only[evz,w1,w2,o2]
 obtain⟨i0,i1⟩:=jkh la.2.1;rw[jAp];simp only[evz,i0,i1,jbV,s1,s2]
end
theorem jl2(code:Xi)(hp:(∀n∈code,0<=n/\n<=255)/\code.length<=9223372036854775807):G 3 [bts code]=some (vb true,[]):=by
 have e0:G 4 [bts code]=some (vb (decide (65536<((code.length:Nat):Int))),[]):=by
  rw[g4];simp only[evz]
 rw[g3];by_cases hbig:65536<((code.length:Nat):Int)
 .rw [decide_eq_true hbig]at e0;simp only[evz,e0]
 rw[decide_eq_false hbig]at e0;have hb:By code:=⟨hp.1,by omega⟩;obtain⟨a,b,ha,hb',e1⟩:=jAf hb;obtain⟨l,p,q,p1,q1,hu,hl,r1,r2,h1,h2⟩:=jx2 a b ha.2.2.1 hb'.2.2.1;cases hpq:p && q
 .have hl0:=h2 hpq;subst hl0;rw[hpq]at r1 r2;have loop:jqn (bts code) (vb false) (vi 1) (sv a.name) (tms a.args) (sv b.name) (tms b.args) (([]:Xg).map jbY)=some (vb true,[]):=by
   rw[jAp];simp only[evz];rfl
  cases p
  .simp only[evz,e0,e1,r1,r2,p1,loop,jkm,List.getElem?_cons_zero,List.getElem?_cons_succ]
  .rw [Bool.true_and]at hpq;rw[hpq]at q1;simp only[evz,e0,e1,r1,r2,p1,q1,loop,jkm,List.getElem?_cons_zero,List.getElem?_cons_succ]
 .obtain ⟨⟨la,ea⟩,⟨lb,eb⟩,he⟩:=h1 hpq;rw[hpq]at r1 r2;rw[jm]at hpq;rw[hpq.1]at p1;rw[hpq.2]at q1;have k1:=jqt hb 1 (by decide) a b ha hb' la lb l hl hu he;have k2:=jqt hb 2 (by decide) a b ha hb' la lb l hl hu he;have k3:=jqt hb 3 (by decide) a b ha hb' la lb l hl hu he;have k4:=jAe (code:=code) a (sv b.name) (tms b.args) (l.map jbY) ha.2.2.1 ha.1 ea p1;have loop:jqn (bts code) (vb true) (vi 1) (sv a.name) (tms a.args) (sv b.name) (tms b.args) (l.map jbY)=some (vb true,[]):=k1.trans (k2.trans (k3.trans k4));simp only[evz,e0,e1,r1,r2,p1,q1,loop,jkm,List.getElem?_cons_zero,List.getElem?_cons_succ]
end Go.Proofs.YthapkjbfjniaiaaGreatDoor
