/- E23 -/
import Derived.Test.YtjgmjdidbgcljaaGreatDoorEd
import Derived.Shelf.SlSortCmp.InsertionK
namespace Go.Proofs.YtjgmjdidbgcljaaGreatDoor.Abs
open Go Go.RowKit Go.Sort
set_option linter.unusedSimpArgs false
set_option linter.unusedVariables false
noncomputable section
theorem jeF{α:Type}(cf:α->α->Int):ltO cf=ltOf cf:=rfl
theorem Z2:∀{outs:List Out}{cs:List Int},Qx outs=some cs->cs.length=outs.length/\ ∀(i:Nat)(o:Out),outs[i]? = some o-> ∃c:Int,cs[i]? = some c/\o=(A.val (.int .i64 c),[])
 | [],cs,h=>by simp only[Qx,jp]at h;subst h;exact⟨rfl,λi o h=>by simp at h⟩
 |o::os,cs,h=>by
  simp only[Qx]at h;split at h
  .rename_i c l h1 h2;cases h;obtain⟨g1,g2⟩:=Z2 h2;refine⟨by simp[g1],λi o' hi=>?_⟩;cases i with
   |zero=>
    simp at hi;subst hi;refine⟨c,rfl,?_⟩;unfold jfr at h1;split at h1
    .cases h1;rfl
    .cases h1
   |succ i=>simpa using g2 i o' (by simpa using hi)
  .cases h
theorem J3{α β:Type}(f:α->α->β)(ys:List α):∀(xs:List α)(i j:Nat)(x y:α),xs[i]? = some x->ys[j]? = some y->(xs.flatMap λx=>ys.map λy=>f x y)[i*ys.length+j]? = some (f x y)
 | [],i,j,x,y,h,_=>by simp at h
 |a::xs,i,j,x,y,h,hy=>by
  have hj:=(JH.1 hy).1;rw[List.flatMap_cons];cases i with
  |zero=>simp at h;subst h;rw[Nat.zero_mul,jfO,yr (by simpa using hj),Kw,hy];rfl
  |succ i=>
   rw[QU (by simp[zZ];omega)]
   have:(i+1)*ys.length+j-(ys.map λy=>f a y).length=i*ys.length+j:=by simp[zZ];omega
   rw[this];exact J3 f ys xs i j x y (by simpa using h) hy
theorem yY{w:World}{O:Nat->Prop} :∀{as1:List A}{vs:List Value},as1.length=vs.length->(∀(i:Nat)(a:A)(v:Value),as1[i]? = some a->vs[i]? = some v->rel w O a v)->jf w O as1 vs
 | [],vs,h,_=>by simp only[jf];exact Ym h.symm
 |a::as1,[],h,_=>by simp at h
 |a::as1,v::vs,h,hg=>by
  simp only[jf];exact⟨v,vs,rfl,hg 0 a v rfl rfl,yY (by simpa using h) λi a v h1 h2=>hg (i+1) a v (by simpa using h1) (by simpa using h2)⟩
def jf1(P:Program)(f:FuncId)(k:Nat):Prop:=
 ∀(m:Nat)(enc:_root_.Fin (m+1)->List Value),(∀x,(enc x).length=k)->(∀x,∀v∈enc x,v.oneCell'=true)-> ∀(cf:_root_.Fin (m+1)->_root_.Fin (m+1)->Int),SWO (ltOf cf)-> ∀(g:Nat)(cb:Array Value)(blk off cap:Nat)(d:Array (_root_.Fin (m+1)))(w:World),
  (∀args w,(callFunc g args).run P w = .ok (.enter g args) w)->CmpLays P g cb enc k cf blk off d.size w->HoldsK enc k w blk off d->blk<w.heap.size->d.size<4611686018427387904->
  Calls P f #[.slice (some ⟨blk,off,none⟩) d.size cap,.func (.func g) #[] cb] w λe w'=>e = .returned (.tuple #[])/\ ∃n os,w'=sortWorldK enc k w blk off n (pdq (ltOf cf) d 0 d.size (Lib.bitLen d.size) true true) os
theorem ZJ{W w':World}(h:Below W.heap.size W w'):∃q os',w'=grow (W.drewN q) os':=by
 refine⟨w'.drawn-W.drawn,w'.heap.extract W.heap.size w'.heap.size,?_⟩;have hd:=h.output.2;have hh:w'.heap=W.heap++w'.heap.extract W.heap.size w'.heap.size:=by
  apply Array.ext_getElem?
  intro k;rw[Array.getElem?_append];split
  .rename_i hk;exact h.block k hk
  .rename_i hk;rw[Array.getElem?_extract];have hs:=h.size;by_cases hk2:k<w'.heap.size
   .rw [jc6 (by omega)];congr 1;omega
   .rw [ko (by omega),Array.getElem?_eq_none (by omega)]
 have e1:=h.os;have e2:=h.tape;have e3:=h.output.1;cases w' with
 |mk heap tape drawn os output=>
  cases W with
  |mk heap0 tape0 drawn0 os0 output0=>
   simp only at *;subst e1 e2 e3;simp only[grow,World.drewN];congr 1;omega
theorem jgr{X:Ctx}{P:Program}{f:FuncId}{k:Nat}(he:Enters P f)(hS:jf1 P f k)(hk0:0<k)(hk64:Nat.blt k 64=true)
  (h0:∀(p:Option Addr)(cap:Nat)(fv:Value)(w:World),Calls P f #[.slice p 0 cap,fv] w λe w'=>e = .returned (.tuple #[])/\w'=w)
  {args:List V} {objs:List Abs.Obj} {qs:List (FuncId×List A)} {outs:List Out} {out:Out} (hq:jcU args objs=some qs) (hok:jaL X P qs outs) (h:jcT k args objs outs=some out):SOk X P f args objs (qX k) out:=by
 unfold jcT at h;split at h;rotate_left
 .cases h
 rename_i g caps k' xs;split at h;rotate_left
 .cases h
 rename_i hkk;have hkk:=jc5 hkk;subst hkk;obtain⟨cs,hcs,hrow'⟩:=qf.1 h;obtain⟨hcl,hcg⟩:=Z2 hcs;simp only[jcU]at hq;rw[kV]at hq;obtain⟨cd,hcd,rfl⟩:=hq;refine⟨he,λw O m vs hsto hsome hrel=>?_⟩;simp only[jb,relV]at hrel;obtain⟨v,r0,rfl,⟨hd,hm,hv⟩,v2,r2,rfl,⟨us,rfl,hus⟩,rfl⟩:=hrel;have hus':=jh2 hcd hus;have hob:=hsto.obj 0;have hst0:jo [Abs.Obj.row k' xs] 0 = .row k' xs:=rfl;rw[hst0,hm]at hob;obtain⟨hd',e1,hrow⟩:=hob;cases e1;have holes:∀ys,HolesOk (qX k') (A.top,[A.sl k' ys]) [] [ys]:=λys=>by
  refine⟨rfl,λi a h=>by simp at h,rfl,λj r k2 h1 h2=>?_⟩;cases j with
  |zero=>
   simp[qX]at h1 h2;subst h1 h2;simp[hR,qX]
  |succ j=>simp at h1
 have hobjs:∀ys,(qX k').objs [] [ys]=[.row k' ys]:=λys=>by
  have h8:Nat.blt k' 256=true:=by rw[zw]at hk64⊢;omega
  simp[SigA.objs,SigA.objsB,qX,OW.toO,Zp,yj,zD,hk64,h8]
 have empty:∀(p:Option Addr)(cap:Nat),xs=[]->v = .slice p 0 cap->Calls P f #[v,.func (.func g) #[] us.toArray] w λe w'=>∃v,e = .returned v/\ ∃as1 rs m',HolesOk (qX k') out as1 rs/\(w'.os=w.os/\w'.tape=w.tape/\Quiet w w'/\w.heap.size<=w'.heap.size)/\
   (∀b,b<w.heap.size-> ¬Mz m (jo [Abs.Obj.row k' xs]) b->w'.heap[b]? = w.heap[b]?)/\(∀b,Mz m' (jo ((qX k').objs as1 rs)) b->Mz m (jo [Abs.Obj.row k' xs]) b\/w.heap.size<=b)/\(∀i,i < [Abs.Obj.row k' xs].length->m' i=m i)/\
   Sto X w' O m' (jo ((qX k').objs as1 rs))/\relV w' (Ow O m' (jo ((qX k').objs as1 rs))) m' ((qX k').r.toV as1) v:=by
  rintro p cap rfl rfl;simp only[jcV,jp]at hrow';subst hrow';refine(h0 p cap _ w).mono ?_;rintro e w' ⟨rfl,rfl⟩;refine⟨_,rfl,[],[[]],m,holes [],⟨rfl,rfl,Quiet.refl _,jl _⟩,λ_ _ _=>rfl,?_,λ_ _=>rfl,?_,?_⟩
  .rw [hobjs];exact λb hb=>Or.inl hb
  .rw [hobjs];exact hsto
  .simp only[qX,Sh.toV,relV];exact⟨[],rfl,by simp[Sh.toVL,jb]⟩
 cases hd with
 |tre=>exact hrow.elim
 |mp=>exact hrow.elim
 |none=>
  simp only[rowOk]at hrow;simp only[hdr]at hv;obtain⟨a,hv⟩:=hv;exact empty a 0 hrow hv
 |blk b cap n=>
  obtain⟨rfl,q1,q2,q3,c,T,q4,q5,q6,q7⟩:=hrow;simp only[hdr]at hv;cases xs with
  |nil=>exact empty _ _ rfl hv
  |cons x0 r=>
  subst hv;simp only[jcV]at hrow';split at hrow';rotate_left
  .cases hrow'
  rename_i hc;obtain⟨hO,hsz⟩:=hc;cases hrow';simp only[jeF]at hO⊢;generalize hxs:x0::r=xs at *;have hN:xs.length=r.length+1:=by rw[<-hxs];rfl
  rw[hN]at q1 q6 q7 hm;have hb:b<w.heap.size:=(QV.1 q4).1;generalize hvals:c.toList.take ((r.length+1)*k')=vals at *;have hvl:vals.length=(r.length+1)*k':=by rw[jh q7,jP q3,hN]
  have hfit:∀i:_root_.Fin (r.length+1),i.val*k'+k'<=(r.length+1)*k':=λi=>by
   have:=ky k' (show i.val+1<=r.length+1 from i.isLt);rwa[zZ,kC]at this
  let enc:_root_.Fin (r.length+1)->List Value:=λi=>(vals.drop (i.val*k')).take k'
  have hencg:∀(i:_root_.Fin (r.length+1))(t:Nat),t<k'->(enc i)[t]? = vals[i.val*k'+t]? :=λi t ht=>by
   simp only[enc,qJ,ht,zv,jR]
  have hencl:∀i,(enc i).length=k':=λi=>by simp only[enc,List.length_take,List.length_drop,hvl];have:=hfit i;omega
  have henc1:∀i,∀v∈enc i,v.oneCell'=true:=λi v hv=>q6 v (List.mem_of_mem_drop (JI hv));have hxg:∀i:_root_.Fin (r.length+1),xs[i.val]? = some (xs.getD i.val []):=λi=>by
   rw[jK,jz (by rw[hN];exact i.isLt)];rfl
  have hxl:∀i:_root_.Fin (r.length+1),(xs.getD i.val []).length=k':=λi=>q3 _ (qK (hxg i));have hrelx:∀i:_root_.Fin (r.length+1),jf w (Ow O m (jo [Abs.Obj.row k' xs])) (xs.getD i.val []) (enc i):=λi=>by
   refine yY (by rw[hxl,hencl]) λt a v ha hv=>?_;have ht:t<k':=by rw[<-hxl i];exact(JH.1 ha).1
   rw[hencg i t ht]at hv;have:=yc q3 (hxg i) ht;rw[ha]at this;obtain⟨u,g1,g2⟩:=zV q7 this;rw[hv]at g1;cases g1;exact g2
  generalize hd0:(Array.ofFn (n:=r.length+1) id)=d at *;have hds:d.size=r.length+1:=by rw[<-hd0];simp
  have hdg:∀i (hi:i<r.length+1),d[i]! = ⟨i,hi⟩:=λi hi=>by
   rw[<-hd0,kW _ i (by simpa using hi)];simp
  have fget:∀(D:Array (_root_.Fin (r.length+1))),D.size=r.length+1-> ∀t,t<(r.length+1)*k'-> ∃i:_root_.Fin (r.length+1),t / k'<r.length+1/\D[t / k']? = some i/\t % k'<k'/\(enc i)[t % k']? = some (flatK enc k' D)[t]! :=λD hD t ht=>by
   have h1:t / k'<r.length+1:=(Nat.div_lt_iff_lt_mul hk0).2 ht;have h2:t % k'<k':=Nat.mod_lt _ hk0;refine⟨D[t / k']!,h1,?_,h2,?_⟩
   .rw [kW D _ (by omega)];exact qg (by omega)
   .rw [get_flatK _ _ _ _ (by rw[hD];exact ht)]
    have hl:t % k'<(enc D[t / k']!).length:=by rw[hencl];exact h2
    rw[jz hl,kW (enc D[t / k']!) (t % k') hl]
  have hH:HoldsK enc k' w b 0 d:=by
   intro j hj;rw[size_flatK,hds]at hj;refine⟨?_,Kj q4⟩;obtain⟨i,g1,g2,g3,g4⟩:=fget d hds j hj;have hi:i=⟨j / k',g1⟩:=by
    have:=hdg _ g1;rw[kW d _ (by omega)]at this;rw[qg (by omega)]at g2;rw[this]at g2;exact(QW g2).symm
   rw[hencg i _ g3,hi]at g4;simp only[Nat.div_add_mod']at g4;simp only[World.cell?,q4,jfO,id];rw[<-g4,<-hvals,qJ,jc6 hj];simp
  have world:∀(mm:Nat)(dk:Array (_root_.Fin (r.length+1)))(os:Array Go.Obj),(∀b',b'<w.heap.size->b'≠b->(sortWorldK enc k' w b 0 mm dk os).heap[b']? = w.heap[b']?)/\w.heap.size<=(sortWorldK enc k' w b 0 mm dk os).heap.size/\
    (sortWorldK enc k' w b 0 mm dk os).heap[b]? = some (.cells (putCells id 0 (flatK enc k' dk) c) T (0,0)):=λmm dk os=>by
   have hheap:(sortWorldK enc k' w b 0 mm dk os).heap=(w.heap.modify b (onCells (putCells id 0 (flatK enc k' dk))))++os:=rfl;refine⟨λb' hb' hne=>?_,?_,?_⟩
   .rw [hheap,jbr (by simpa using hb'),js,ko (Ne.symm hne)]
   .rw [hheap];simp
   .rw [hheap,jbr (by simpa using hb),js,jc6 rfl,q4];rfl
  have hcmp:CmpLays P g us.toArray enc k' (jai (r.length+1) cs) b 0 d.size w:=by
   intro mm os dk hs x y;obtain⟨w1,w2,_⟩:=world mm dk os;generalize sortWorldK enc k' w b 0 mm dk os=W at *;have hq:=J3 (λx y=>(g,[A.agg x,A.agg y]++cd)) xs xs x.val y.val _ _ (hxg x) (hxg y);rw[hN]at hq;have hql:=(JH.1 hq).1;obtain⟨o,ho⟩:∃o,outs[x.val*(r.length+1)+y.val]? = some o:=⟨_,jz (by rw[hok.1];exact hql)⟩;obtain⟨cc,hcc,rfl⟩:=hcg _ _ ho;have hP:=hok.2 _ _ _ hq ho;have hcf:jai (r.length+1) cs x y=cc:=by unfold jai;rw[jK,hcc];rfl
   have hnb:∀b',X.N b'->b'≠b:=λb' hb' e=>(hsto.blk 0 _ b rfl hm kD).2 (e ▸ hsto.jn b' hb');have hmw:MonoW w (Ow O m (jo [Abs.Obj.row k' xs])) W (Ow O m (jo [Abs.Obj.row k' xs])):=⟨w2,λb' hb' hn=>w1 b' hb' λe=>hn (Or.inr (e ▸ ⟨0,_,rfl,hm,kD⟩)),λ_ _ h=>h⟩;have hJ:X.J W:=X.stable w W (λb' hb'=>w1 b' (hsto.old b' (hsto.jn b' hb')) (hnb b' hb')) hsto.j;have hargs:jf W (Ow O m (jo [Abs.Obj.row k' xs])) ([A.agg (xs.getD x.val []),A.agg (xs.getD y.val [])]++cd) ([.agg (enc x).toArray,.agg (enc y).toArray]++us):=by
    refine jH ?_ (jm hmw _ _ hus');simp only[jf,rel];exact⟨_,_,rfl,⟨_,rfl,jm hmw _ _ (hrelx x)⟩,_,_,rfl,⟨_,rfl,jm hmw _ _ (hrelx y)⟩,rfl⟩
   have hcall:=hP.2 W (Ow O m (jo [Abs.Obj.row k' xs])) _ hJ (λb' hb'=>Or.inl (hsto.jn b' hb')) (λb' hb'=>by
    rcases hb' with hb'|⟨id,hd1,ha,hm1,hi1⟩
    .exact qh (hsto.old b' hb') w2
    .exact qh (hsto.blk id hd1 b' ha hm1 hi1).1 w2) hargs
   have hva:([Value.agg (enc x).toArray,.agg (enc y).toArray]++us).toArray = #[.agg (enc x).toArray,.agg (enc y).toArray]++us.toArray:=by simp
   rw[hva]at hcall;refine hcall.mono ?_;rintro e w' ⟨v,rfl,hbel,hr⟩;simp only[rel]at hr;subst hr;exact⟨by rw[hcf],ZJ hbel⟩
  have hcall:=hS r.length enc hencl henc1 _ hO g us.toArray b 0 cap d w (λargs w=>by
   have hq:=J3 (λx y=>(g,[A.agg x,A.agg y]++cd)) xs xs 0 0 _ _ (hxg ⟨0,by omega⟩) (hxg ⟨0,by omega⟩);obtain⟨o,ho⟩:∃o,outs[0*xs.length+0]? = some o:=⟨_,jz (by rw[hok.1];exact(JH.1 hq).1)⟩;exact(hok.2 _ _ _ hq ho).1 args w) hcmp hH hb (by rw[hds];exact hsz)
  rw[hds]at hcall;refine Calls.mono (by rw[hN];exact hcall) ?_;rintro e w' ⟨rfl,n,os,rfl⟩;have hperm:=(pdq_sorts (ltOf (jai (r.length+1) cs)) hO d 0 (r.length+1) (Lib.bitLen (r.length+1)) true true (Nat.zero_le _) (by rw[hds];exact jl _) (Or.inl rfl)).1.1;rw[hds]at hperm;generalize pdq (ltOf (jai (r.length+1) cs)) d 0 (r.length+1) (Lib.bitLen (r.length+1)) true true=D at *;obtain⟨w1,w2,w3⟩:=world n D os;have hqt:Quiet w (sortWorldK enc k' w b 0 n D os):=⟨rfl,Nat.le_add_right _ _⟩;have hos:(sortWorldK enc k' w b 0 n D os).os=w.os:=rfl;have htp:(sortWorldK enc k' w b 0 n D os).tape=w.tape:=rfl;generalize sortWorldK enc k' w b 0 n D os=w' at *;generalize hys:(D.toList.map λi:_root_.Fin (r.length+1)=>xs.getD i.val [])=ys at *;have hyl:ys.length=r.length+1:=by rw[<-hys];simpa using hperm
  have hyk:∀y∈ys,y.length=k':=λy hy=>by
   rw[<-hys]at hy;obtain⟨i,_,rfl⟩:=jN.1 hy;exact hxl i
  have hst:∀id,(jo [Abs.Obj.row k' ys] id).alive=(jo [Abs.Obj.row k' xs] id).alive:=Kt rfl;have hmz:∀b',Mz m (jo [Abs.Obj.row k' ys]) b'->Mz m (jo [Abs.Obj.row k' xs]) b':=by
   rintro b' ⟨id,hd',ha,hm',hi'⟩;exact⟨id,hd',by rw[<-hst id];exact ha,hm',hi'⟩
  have hbm:Mz m (jo [Abs.Obj.row k' xs]) b:=⟨0,_,rfl,hm,kD⟩;have hchg:Chg w m (jo [Abs.Obj.row k' xs]) w' m (jo [Abs.Obj.row k' ys]):=
   ⟨hos,htp,hqt,w2,λb' hb' hn=>w1 b' hb' λe=>hn (by rw[e];exact hbm),yJ.refl m,λb' h=>Or.inl (hmz b' h)⟩
  have hFs:(flatK enc k' D).size=(r.length+1)*k':=by rw[size_flatK,hperm]
  have hcs2:(r.length+1)*k'<=c.size:=by rw[q5];exact ky k' q1
  have hcut:(putCells id 0 (flatK enc k' D) c).toList.take ((r.length+1)*k')=(flatK enc k' D).toList:=by
   refine kL λj=>?_;rw[qJ];by_cases hj:j<(r.length+1)*k'
   .rw [jc6 hj,j4,j4];unfold putCells;rw[Array.getElem?_mapIdx,qg (show j<c.size by omega),qg (show j<(flatK enc k' D).size by omega)];have:0<=j/\j<0+(flatK enc k' D).size:=⟨Nat.zero_le _,by omega⟩;simp only[z6,this,and_self,zv,Nat.sub_zero,id];rw[kW _ j (by omega)]
   .rw [ko hj,KB (by simp only[kz];omega)]
  have hrelF:jf w' (Ow O m (jo [Abs.Obj.row k' ys])) ys.flatten (flatK enc k' D).toList:=by
   have hFl:(flatK enc k' D).toList.length=(r.length+1)*k':=Array.length_toList.trans hFs;refine yY (by rw[jP hyk,hyl,hFl]) λt a v ha hv=>?_;have ht:t<(r.length+1)*k':=by have:=(JH.1 ha).1;rwa[jP hyk,hyl]at this
   obtain⟨i,g1,g2,g3,g4⟩:=fget D hperm t ht;have hyi:ys[t / k']? = some (xs.getD i.val []):=by rw[<-hys,Kw,j4,g2];rfl
   have hfl:=yc hyk hyi g3;rw[Nat.div_add_mod',ha]at hfl;obtain⟨u,e1,e2⟩:=zV (hrelx i) hfl.symm;rw[g4]at e1;rw[j4]at hv;rw[kW _ t (by omega)]at e1;rw[qg (by omega)]at hv;cases e1;cases hv;exact jy (hchg.monoW O) _ _ e2
  refine⟨_,rfl,[],[ys],m,holes ys,⟨hchg.os,hchg.tape,hchg.output,w2⟩,hchg.keep,λb' h=>Or.inl (hmz b' (by rw[hobjs]at h;exact h)),λ_ _=>rfl,?_,?_⟩
  .rw [hobjs];refine hsto.chg hchg ?_ (λid hd' b' ha hm' _=>Or.inl ⟨by rw[<-hst id];exact ha,hm'⟩) (λid id' hd1 hd2 b' ha ha'=>hsto.inj id id' hd1 hd2 b' (by rw[<-hst id];exact ha) (by rw[<-hst id'];exact ha')) ?_
   .intro id h;refine hsto.fresh id ?_;cases id with
    |zero=>cases h
    |succ id=>rfl
   .intro id;cases id with
    |succ id=>exact Or.inl ⟨rfl,rfl,λhd' b' ha=>by cases ha⟩
    |zero=>
     right;rw[hm];refine⟨_,rfl,by rw[hyl],by rw[hyl];exact q1,q2,hyk,_,T,w3,?_,?_,?_⟩
     .simp only[putCells,Array.size_mapIdx];exact q5
     .rw [hyl,hcut];intro u hu;obtain⟨t,ht,rfl⟩:=List.mem_iff_getElem.1 hu;rw[kz,hFs]at ht;obtain⟨i,g1,g2,g3,g4⟩:=fget D hperm t ht;refine henc1 i _ ?_;have:=qK g4;rwa[kW _ t (by omega)]at this
     .rw [hyl,hcut];exact hrelF
  .simp only[qX,Sh.toV,relV];exact⟨[],rfl,by simp[Sh.toVL,jb]⟩
end
end Go.Proofs.YtjgmjdidbgcljaaGreatDoor.Abs
