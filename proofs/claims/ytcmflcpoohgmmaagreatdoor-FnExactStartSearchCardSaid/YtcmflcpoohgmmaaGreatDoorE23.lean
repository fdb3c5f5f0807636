/- E23 -/
import Derived.Test.YtcmflcpoohgmmaaGreatDoorEd
import Derived.Shelf.SlSortCmp.InsertionK
namespace Go.Proofs.YtcmflcpoohgmmaaGreatDoor.Abs
open Go Go.RowKit Go.Sort
set_option linter.unusedSimpArgs false
set_option linter.unusedVariables false
noncomputable section
theorem jsx{α:Type}(cf:α->α->Int):ltO cf=ltOf cf:=rfl
theorem jd4:∀{outs:List Out}{cs:List Int},jhd outs=some cs->cs.length=outs.length/\ ∀(i:Nat)(o:Out),outs[i]? = some o-> ∃c:Int,cs[i]? = some c/\o=(A.val (.int .i64 c),[])
 | [],cs,h=>by simp only[jhd,Option.some.injEq]at h;subst h;exact⟨rfl,λi o h=>by simp at h⟩
 |o::os,cs,h=>by
  simp only[jhd]at h;split at h
  .rename_i c l h1 h2;cases h;obtain⟨g1,g2⟩:=jd4 h2;refine⟨by simp[g1],λi o' hi=>?_⟩;cases i with
   |zero=>
    simp at hi;subst hi;refine⟨c,rfl,?_⟩;unfold jsI at h1;split at h1
    .cases h1;rfl
    .cases h1
   |succ i=>simpa using g2 i o' (by simpa using hi)
  .cases h
theorem jaj{α β:Type}(f:α->α->β)(ys:List α):∀(xs:List α)(i j:Nat)(x y:α),xs[i]? = some x->ys[j]? = some y->(xs.flatMap λx=>ys.map λy=>f x y)[i*ys.length+j]? = some (f x y)
 | [],i,j,x,y,h,_=>by simp at h
 |a::xs,i,j,x,y,h,hy=>by
  have hj:=(List.getElem?_eq_some_iff.1 hy).1;rw[List.flatMap_cons];cases i with
  |zero=>simp at h;subst h;rw[Nat.zero_mul,Nat.zero_add,List.getElem?_append_left (by simpa using hj),List.getElem?_map,hy];rfl
  |succ i=>
   rw[List.getElem?_append_right (by simp[Nat.add_mul];omega)]
   have:(i+1)*ys.length+j-(ys.map λy=>f a y).length=i*ys.length+j:=by simp[Nat.add_mul];omega
   rw[this];exact jaj f ys xs i j x y (by simpa using h) hy
theorem Zo{w:World}{O:Nat->Prop} :∀{as1:List A}{vs:List Value},as1.length=vs.length->(∀(i:Nat)(a:A)(v:Value),as1[i]? = some a->vs[i]? = some v->rel w O a v)->jl w O as1 vs
 | [],vs,h,_=>by simp only[jl];exact List.eq_nil_of_length_eq_zero h.symm
 |a::as1,[],h,_=>by simp at h
 |a::as1,v::vs,h,hg=>by
  simp only[jl];exact⟨v,vs,rfl,hg 0 a v rfl rfl,Zo (by simpa using h) λi a v h1 h2=>hg (i+1) a v (by simpa using h1) (by simpa using h2)⟩
def jvn(P:Program)(f:FuncId)(k:Nat):Prop:=
 ∀(m:Nat)(enc:_root_.Fin (m+1)->List Value),(∀x,(enc x).length=k)->(∀x,∀v∈enc x,v.oneCell'=true)-> ∀(cf:_root_.Fin (m+1)->_root_.Fin (m+1)->Int),SWO (ltOf cf)-> ∀(g:Nat)(cb:Array Value)(blk off cap:Nat)(d:Array (_root_.Fin (m+1)))(w:World),
  (∀args w,(callFunc g args).run P w = .ok (.enter g args) w)->CmpLays P g cb enc k cf blk off d.size w->HoldsK enc k w blk off d->blk<w.heap.size->d.size<4611686018427387904->
  Calls P f #[.slice (some ⟨blk,off,none⟩) d.size cap,.func (.func g) #[] cb] w λe w'=>e = .returned (.tuple #[])/\ ∃n os,w'=sortWorldK enc k w blk off n (pdq (ltOf cf) d 0 d.size (Lib.bitLen d.size) true true) os
theorem jds{W w':World}(h:Below W.heap.size W w'):∃q os',w'=grow (W.drewN q) os':=by
 refine⟨w'.drawn-W.drawn,w'.heap.extract W.heap.size w'.heap.size,?_⟩;have hd:=h.output.2;have hh:w'.heap=W.heap++w'.heap.extract W.heap.size w'.heap.size:=by
  apply Array.ext_getElem?
  intro k;rw[Array.getElem?_append];split
  .rename_i hk;exact h.block k hk
  .rename_i hk;rw[Array.getElem?_extract];have hs:=h.size;by_cases hk2:k<w'.heap.size
   .rw [if_pos (by omega)];congr 1;omega
   .rw [if_neg (by omega),Array.getElem?_eq_none (by omega)]
 have e1:=h.os;have e2:=h.tape;have e3:=h.output.1;cases w' with
 |mk heap tape drawn os output=>
  cases W with
  |mk heap0 tape0 drawn0 os0 output0=>
   simp only at *;subst e1 e2 e3;simp only[grow,World.drewN];congr 1;omega
theorem jwC{X:Ctx}{P:Program}{f:FuncId}{k:Nat}(he:Enters P f)(hS:jvn P f k)(hk0:0<k)(hk64:Nat.blt k 64=true)
  (h0:∀(p:Option Addr)(cap:Nat)(fv:Value)(w:World),Calls P f #[.slice p 0 cap,fv] w λe w'=>e = .returned (.tuple #[])/\w'=w)
  {args:List V} {objs:List Abs.Obj} {qs:List (FuncId×List A)} {outs:List Out} {out:Out} (hq:joV args objs=some qs) (hok:jfS X P qs outs) (h:joU k args objs outs=some out):SOk X P f args objs (jaq k) out:=by
 unfold joU at h;split at h;rotate_left
 .cases h
 rename_i g caps k' xs;split at h;rotate_left
 .cases h
 rename_i hkk;have hkk:=Nat.eq_of_beq_eq_true hkk;subst hkk;obtain⟨cs,hcs,hrow'⟩:=Option.bind_eq_some_iff.1 h;obtain⟨hcl,hcg⟩:=jd4 hcs;simp only[joV]at hq;rw[Option.map_eq_some_iff]at hq;obtain⟨cd,hcd,rfl⟩:=hq;refine⟨he,λw O m vs hsto hsome hrel=>?_⟩;simp only[jd,relV]at hrel;obtain⟨v,r0,rfl,⟨hd,hm,hv⟩,v2,r2,rfl,⟨us,rfl,hus⟩,rfl⟩:=hrel;have hus':=zw hcd hus;have hob:=hsto.obj 0;have hst0:jK [Abs.Obj.row k' xs] 0 = .row k' xs:=rfl;rw[hst0,hm]at hob;obtain⟨hd',e1,hrow⟩:=hob;cases e1;have holes:∀ys,HolesOk (jaq k') (A.top,[A.sl k' ys]) [] [ys]:=λys=>by
  refine⟨rfl,λi a h=>by simp at h,rfl,λj r k2 h1 h2=>?_⟩;cases j with
  |zero=>
   simp[jaq]at h1 h2;subst h1 h2;simp[hR,jaq]
  |succ j=>simp at h1
 have hobjs:∀ys,(jaq k').objs [] [ys]=[.row k' ys]:=λys=>by
  have h8:Nat.blt k' 256=true:=by rw[Nat.blt_eq]at hk64⊢;omega
  simp[SigA.objs,SigA.objsB,jaq,OW.toO,jan,qS,yz,hk64,h8]
 have empty:∀(p:Option Addr)(cap:Nat),xs=[]->v = .slice p 0 cap->Calls P f #[v,.func (.func g) #[] us.toArray] w λe w'=>∃v,e = .returned v/\ ∃as1 rs m',HolesOk (jaq k') out as1 rs/\(w'.os=w.os/\w'.tape=w.tape/\Quiet w w'/\w.heap.size<=w'.heap.size)/\
   (∀b,b<w.heap.size-> ¬Mz m (jK [Abs.Obj.row k' xs]) b->w'.heap[b]? = w.heap[b]?)/\(∀b,Mz m' (jK ((jaq k').objs as1 rs)) b->Mz m (jK [Abs.Obj.row k' xs]) b\/w.heap.size<=b)/\(∀i,i < [Abs.Obj.row k' xs].length->m' i=m i)/\
   Sto X w' O m' (jK ((jaq k').objs as1 rs))/\relV w' (Ow O m' (jK ((jaq k').objs as1 rs))) m' ((jaq k').r.toV as1) v:=by
  rintro p cap rfl rfl;simp only[joW,Option.some.injEq]at hrow';subst hrow';refine(h0 p cap _ w).mono ?_;rintro e w' ⟨rfl,rfl⟩;refine⟨_,rfl,[],[[]],m,holes [],⟨rfl,rfl,Quiet.refl _,Nat.le_refl _⟩,λ_ _ _=>rfl,?_,λ_ _=>rfl,?_,?_⟩
  .rw [hobjs];exact λb hb=>Or.inl hb
  .rw [hobjs];exact hsto
  .simp only[jaq,Sh.toV,relV];exact⟨[],rfl,by simp[Sh.toVL,jd]⟩
 cases hd with
 |tre=>exact hrow.elim
 |mp=>exact hrow.elim
 |none=>
  simp only[rowOk]at hrow;simp only[hdr]at hv;obtain⟨a,hv⟩:=hv;exact empty a 0 hrow hv
 |blk b cap n=>
  obtain⟨rfl,q1,q2,q3,c,T,q4,q5,q6,q7⟩:=hrow;simp only[hdr]at hv;cases xs with
  |nil=>exact empty _ _ rfl hv
  |cons x0 r=>
  subst hv;simp only[joW]at hrow';split at hrow';rotate_left
  .cases hrow'
  rename_i hc;obtain⟨hO,hsz⟩:=hc;cases hrow';simp only[jsx]at hO⊢;generalize hxs:x0::r=xs at *;have hN:xs.length=r.length+1:=by rw[<-hxs];rfl
  rw[hN]at q1 q6 q7 hm;have hb:b<w.heap.size:=(Array.getElem?_eq_some_iff.1 q4).1;generalize hvals:c.toList.take ((r.length+1)*k')=vals at *;have hvl:vals.length=(r.length+1)*k':=by rw[jx q7,kL q3,hN]
  have hfit:∀i:_root_.Fin (r.length+1),i.val*k'+k'<=(r.length+1)*k':=λi=>by
   have:=Nat.mul_le_mul_right k' (show i.val+1<=r.length+1 from i.isLt);rwa[Nat.add_mul,Nat.one_mul]at this
  let enc:_root_.Fin (r.length+1)->List Value:=λi=>(vals.drop (i.val*k')).take k'
  have hencg:∀(i:_root_.Fin (r.length+1))(t:Nat),t<k'->(enc i)[t]? = vals[i.val*k'+t]? :=λi t ht=>by
   simp only[enc,List.getElem?_take,ht,if_true,List.getElem?_drop]
  have hencl:∀i,(enc i).length=k':=λi=>by simp only[enc,List.length_take,List.length_drop,hvl];have:=hfit i;omega
  have henc1:∀i,∀v∈enc i,v.oneCell'=true:=λi v hv=>q6 v (List.mem_of_mem_drop (List.mem_of_mem_take hv));have hxg:∀i:_root_.Fin (r.length+1),xs[i.val]? = some (xs.getD i.val []):=λi=>by
   rw[List.getD_eq_getElem?_getD,List.getElem?_eq_getElem (by rw[hN];exact i.isLt)];rfl
  have hxl:∀i:_root_.Fin (r.length+1),(xs.getD i.val []).length=k':=λi=>q3 _ (List.mem_of_getElem? (hxg i));have hrelx:∀i:_root_.Fin (r.length+1),jl w (Ow O m (jK [Abs.Obj.row k' xs])) (xs.getD i.val []) (enc i):=λi=>by
   refine Zo (by rw[hxl,hencl]) λt a v ha hv=>?_;have ht:t<k':=by rw[<-hxl i];exact(List.getElem?_eq_some_iff.1 ha).1
   rw[hencg i t ht]at hv;have:=kH q3 (hxg i) ht;rw[ha]at this;obtain⟨u,g1,g2⟩:=qP q7 this;rw[hv]at g1;cases g1;exact g2
  generalize hd0:(Array.ofFn (n:=r.length+1) id)=d at *;have hds:d.size=r.length+1:=by rw[<-hd0];simp
  have hdg:∀i (hi:i<r.length+1),d[i]! = ⟨i,hi⟩:=λi hi=>by
   rw[<-hd0,getElem!_pos _ i (by simpa using hi)];simp
  have fget:∀(D:Array (_root_.Fin (r.length+1))),D.size=r.length+1-> ∀t,t<(r.length+1)*k'-> ∃i:_root_.Fin (r.length+1),t / k'<r.length+1/\D[t / k']? = some i/\t % k'<k'/\(enc i)[t % k']? = some (flatK enc k' D)[t]! :=λD hD t ht=>by
   have h1:t / k'<r.length+1:=(Nat.div_lt_iff_lt_mul hk0).2 ht;have h2:t % k'<k':=Nat.mod_lt _ hk0;refine⟨D[t / k']!,h1,?_,h2,?_⟩
   .rw [getElem!_pos D _ (by omega)];exact Array.getElem?_eq_getElem (by omega)
   .rw [get_flatK _ _ _ _ (by rw[hD];exact ht)]
    have hl:t % k'<(enc D[t / k']!).length:=by rw[hencl];exact h2
    rw[List.getElem?_eq_getElem hl,getElem!_pos (enc D[t / k']!) (t % k') hl]
  have hH:HoldsK enc k' w b 0 d:=by
   intro j hj;rw[size_flatK,hds]at hj;refine⟨?_,jaO q4⟩;obtain⟨i,g1,g2,g3,g4⟩:=fget d hds j hj;have hi:i=⟨j / k',g1⟩:=by
    have:=hdg _ g1;rw[getElem!_pos d _ (by omega)]at this;rw[Array.getElem?_eq_getElem (by omega)]at g2;rw[this]at g2;exact(Option.some.inj g2).symm
   rw[hencg i _ g3,hi]at g4;simp only[Nat.div_add_mod']at g4;simp only[World.cell?,q4,Nat.zero_add,id];rw[<-g4,<-hvals,List.getElem?_take,if_pos hj];simp
  have world:∀(mm:Nat)(dk:Array (_root_.Fin (r.length+1)))(os:Array Go.Obj),(∀b',b'<w.heap.size->b'≠b->(sortWorldK enc k' w b 0 mm dk os).heap[b']? = w.heap[b']?)/\w.heap.size<=(sortWorldK enc k' w b 0 mm dk os).heap.size/\
    (sortWorldK enc k' w b 0 mm dk os).heap[b]? = some (.cells (putCells id 0 (flatK enc k' dk) c) T (0,0)):=λmm dk os=>by
   have hheap:(sortWorldK enc k' w b 0 mm dk os).heap=(w.heap.modify b (onCells (putCells id 0 (flatK enc k' dk))))++os:=rfl;refine⟨λb' hb' hne=>?_,?_,?_⟩
   .rw [hheap,Array.getElem?_append_left (by simpa using hb'),Array.getElem?_modify,if_neg (Ne.symm hne)]
   .rw [hheap];simp
   .rw [hheap,Array.getElem?_append_left (by simpa using hb),Array.getElem?_modify,if_pos rfl,q4];rfl
  have hcmp:CmpLays P g us.toArray enc k' (jij (r.length+1) cs) b 0 d.size w:=by
   intro mm os dk hs x y;obtain⟨w1,w2,_⟩:=world mm dk os;generalize sortWorldK enc k' w b 0 mm dk os=W at *;have hq:=jaj (λx y=>(g,[A.agg x,A.agg y]++cd)) xs xs x.val y.val _ _ (hxg x) (hxg y);rw[hN]at hq;have hql:=(List.getElem?_eq_some_iff.1 hq).1;obtain⟨o,ho⟩:∃o,outs[x.val*(r.length+1)+y.val]? = some o:=⟨_,List.getElem?_eq_getElem (by rw[hok.1];exact hql)⟩;obtain⟨cc,hcc,rfl⟩:=hcg _ _ ho;have hP:=hok.2 _ _ _ hq ho;have hcf:jij (r.length+1) cs x y=cc:=by unfold jij;rw[List.getD_eq_getElem?_getD,hcc];rfl
   have hnb:∀b',X.N b'->b'≠b:=λb' hb' e=>(hsto.blk 0 _ b rfl hm zK).2 (e ▸ hsto.jn b' hb');have hmw:MonoW w (Ow O m (jK [Abs.Obj.row k' xs])) W (Ow O m (jK [Abs.Obj.row k' xs])):=⟨w2,λb' hb' hn=>w1 b' hb' λe=>hn (Or.inr (e ▸ ⟨0,_,rfl,hm,zK⟩)),λ_ _ h=>h⟩;have hJ:X.J W:=X.stable w W (λb' hb'=>w1 b' (hsto.old b' (hsto.jn b' hb')) (hnb b' hb')) hsto.j;have hargs:jl W (Ow O m (jK [Abs.Obj.row k' xs])) ([A.agg (xs.getD x.val []),A.agg (xs.getD y.val [])]++cd) ([.agg (enc x).toArray,.agg (enc y).toArray]++us):=by
    refine kh ?_ (jH hmw _ _ hus');simp only[jl,rel];exact⟨_,_,rfl,⟨_,rfl,jH hmw _ _ (hrelx x)⟩,_,_,rfl,⟨_,rfl,jH hmw _ _ (hrelx y)⟩,rfl⟩
   have hcall:=hP.2 W (Ow O m (jK [Abs.Obj.row k' xs])) _ hJ (λb' hb'=>Or.inl (hsto.jn b' hb')) (λb' hb'=>by
    rcases hb' with hb'|⟨id,hd1,ha,hm1,hi1⟩
    .exact Nat.lt_of_lt_of_le (hsto.old b' hb') w2
    .exact Nat.lt_of_lt_of_le (hsto.blk id hd1 b' ha hm1 hi1).1 w2) hargs
   have hva:([Value.agg (enc x).toArray,.agg (enc y).toArray]++us).toArray = #[.agg (enc x).toArray,.agg (enc y).toArray]++us.toArray:=by simp
   rw[hva]at hcall;refine hcall.mono ?_;rintro e w' ⟨v,rfl,hbel,hr⟩;simp only[rel]at hr;subst hr;exact⟨by rw[hcf],jds hbel⟩
  have hcall:=hS r.length enc hencl henc1 _ hO g us.toArray b 0 cap d w (λargs w=>by
   have hq:=jaj (λx y=>(g,[A.agg x,A.agg y]++cd)) xs xs 0 0 _ _ (hxg ⟨0,by omega⟩) (hxg ⟨0,by omega⟩);obtain⟨o,ho⟩:∃o,outs[0*xs.length+0]? = some o:=⟨_,List.getElem?_eq_getElem (by rw[hok.1];exact(List.getElem?_eq_some_iff.1 hq).1)⟩;exact(hok.2 _ _ _ hq ho).1 args w) hcmp hH hb (by rw[hds];exact hsz)
  rw[hds]at hcall;refine Calls.mono (by rw[hN];exact hcall) ?_;rintro e w' ⟨rfl,n,os,rfl⟩;have hperm:=(pdq_sorts (ltOf (jij (r.length+1) cs)) hO d 0 (r.length+1) (Lib.bitLen (r.length+1)) true true (Nat.zero_le _) (by rw[hds];exact Nat.le_refl _) (Or.inl rfl)).1.1;rw[hds]at hperm;generalize pdq (ltOf (jij (r.length+1) cs)) d 0 (r.length+1) (Lib.bitLen (r.length+1)) true true=D at *;obtain⟨w1,w2,w3⟩:=world n D os;have hqt:Quiet w (sortWorldK enc k' w b 0 n D os):=⟨rfl,Nat.le_add_right _ _⟩;have hos:(sortWorldK enc k' w b 0 n D os).os=w.os:=rfl;have htp:(sortWorldK enc k' w b 0 n D os).tape=w.tape:=rfl;generalize sortWorldK enc k' w b 0 n D os=w' at *;generalize hys:(D.toList.map λi:_root_.Fin (r.length+1)=>xs.getD i.val [])=ys at *;have hyl:ys.length=r.length+1:=by rw[<-hys];simpa using hperm
  have hyk:∀y∈ys,y.length=k':=λy hy=>by
   rw[<-hys]at hy;obtain⟨i,_,rfl⟩:=List.mem_map.1 hy;exact hxl i
  have hst:∀id,(jK [Abs.Obj.row k' ys] id).alive=(jK [Abs.Obj.row k' xs] id).alive:=ja6 rfl;have hmz:∀b',Mz m (jK [Abs.Obj.row k' ys]) b'->Mz m (jK [Abs.Obj.row k' xs]) b':=by
   rintro b' ⟨id,hd',ha,hm',hi'⟩;exact⟨id,hd',by rw[<-hst id];exact ha,hm',hi'⟩
  have hbm:Mz m (jK [Abs.Obj.row k' xs]) b:=⟨0,_,rfl,hm,zK⟩;have hchg:Chg w m (jK [Abs.Obj.row k' xs]) w' m (jK [Abs.Obj.row k' ys]):=
   ⟨hos,htp,hqt,w2,λb' hb' hn=>w1 b' hb' λe=>hn (by rw[e];exact hbm),Jm.refl m,λb' h=>Or.inl (hmz b' h)⟩
  have hFs:(flatK enc k' D).size=(r.length+1)*k':=by rw[size_flatK,hperm]
  have hcs2:(r.length+1)*k'<=c.size:=by rw[q5];exact Nat.mul_le_mul_right k' q1
  have hcut:(putCells id 0 (flatK enc k' D) c).toList.take ((r.length+1)*k')=(flatK enc k' D).toList:=by
   refine List.ext_getElem? λj=>?_;rw[List.getElem?_take];by_cases hj:j<(r.length+1)*k'
   .rw [if_pos hj,Array.getElem?_toList,Array.getElem?_toList];unfold putCells;rw[Array.getElem?_mapIdx,Array.getElem?_eq_getElem (show j<c.size by omega),Array.getElem?_eq_getElem (show j<(flatK enc k' D).size by omega)];have:0<=j/\j<0+(flatK enc k' D).size:=⟨Nat.zero_le _,by omega⟩;simp only[Option.map_some,this,and_self,if_true,Nat.sub_zero,id];rw[getElem!_pos _ j (by omega)]
   .rw [if_neg hj,List.getElem?_eq_none (by simp only[Array.length_toList];omega)]
  have hrelF:jl w' (Ow O m (jK [Abs.Obj.row k' ys])) ys.flatten (flatK enc k' D).toList:=by
   have hFl:(flatK enc k' D).toList.length=(r.length+1)*k':=Array.length_toList.trans hFs;refine Zo (by rw[kL hyk,hyl,hFl]) λt a v ha hv=>?_;have ht:t<(r.length+1)*k':=by have:=(List.getElem?_eq_some_iff.1 ha).1;rwa[kL hyk,hyl]at this
   obtain⟨i,g1,g2,g3,g4⟩:=fget D hperm t ht;have hyi:ys[t / k']? = some (xs.getD i.val []):=by rw[<-hys,List.getElem?_map,Array.getElem?_toList,g2];rfl
   have hfl:=kH hyk hyi g3;rw[Nat.div_add_mod',ha]at hfl;obtain⟨u,e1,e2⟩:=qP (hrelx i) hfl.symm;rw[g4]at e1;rw[Array.getElem?_toList]at hv;rw[getElem!_pos _ t (by omega)]at e1;rw[Array.getElem?_eq_getElem (by omega)]at hv;cases e1;cases hv;exact jT (hchg.monoW O) _ _ e2
  refine⟨_,rfl,[],[ys],m,holes ys,⟨hchg.os,hchg.tape,hchg.output,w2⟩,hchg.keep,λb' h=>Or.inl (hmz b' (by rw[hobjs]at h;exact h)),λ_ _=>rfl,?_,?_⟩
  .rw [hobjs];refine hsto.chg hchg ?_ (λid hd' b' ha hm' _=>Or.inl ⟨by rw[<-hst id];exact ha,hm'⟩) (λid id' hd1 hd2 b' ha ha'=>hsto.inj id id' hd1 hd2 b' (by rw[<-hst id];exact ha) (by rw[<-hst id'];exact ha')) ?_
   .intro id h;refine hsto.fresh id ?_;cases id with
    |zero=>cases h
    |succ id=>rfl
   .intro id;cases id with
    |succ id=>exact Or.inl ⟨rfl,rfl,λhd' b' ha=>by cases ha⟩
    |zero=>
     right;rw[hm];refine⟨_,rfl,by rw[hyl],by rw[hyl];exact q1,q2,hyk,_,T,w3,?_,?_,?_⟩
     .simp only[putCells,Array.size_mapIdx];exact q5
     .rw [hyl,hcut];intro u hu;obtain⟨t,ht,rfl⟩:=List.mem_iff_getElem.1 hu;rw[Array.length_toList,hFs]at ht;obtain⟨i,g1,g2,g3,g4⟩:=fget D hperm t ht;refine henc1 i _ ?_;have:=List.mem_of_getElem? g4;rwa[getElem!_pos _ t (by omega)]at this
     .rw [hyl,hcut];exact hrelF
  .simp only[jaq,Sh.toV,relV];exact⟨[],rfl,by simp[Sh.toVL,jd]⟩
end
end Go.Proofs.YtcmflcpoohgmmaaGreatDoor.Abs
