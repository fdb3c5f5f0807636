/- E23 -/
import Derived.Test.YtkkcepmpbackoaaGreatDoorEd
import Derived.Shelf.SlSortCmp.InsertionK
namespace Go.Proofs.YtkkcepmpbackoaaGreatDoor.Abs
open Go Go.RowKit Go.Sort
set_option linter.unusedSimpArgs false
set_option linter.unusedVariables false
noncomputable section
theorem jwp{α:Type}(cf:α->α->Int):ltO cf=ltOf cf:=rfl
theorem jbQ:∀{outs:List Out}{cs:List Int},Qw outs=some cs->cs.length=outs.length/\ ∀(i:Nat)(o:Out),outs[i]? = some o-> ∃c:Int,cs[i]? = some c/\o=(A.val (.int .i64 c),[])
 | [],cs,h=>by simp only[Qw,Option.some.injEq]at h;subst h;exact⟨rfl,λi o h=>by simp at h⟩
 |o::os,cs,h=>by
  simp only[Qw]at h;split at h
  .rename_i c l h1 h2;cases h;obtain⟨g1,g2⟩:=jbQ h2;refine⟨by simp[g1],λi o' hi=>?_⟩;cases i with
   |zero=>
    simp at hi;subst hi;refine⟨c,rfl,?_⟩;unfold jwy at h1;split at h1
    .cases h1;rfl
    .cases h1
   |succ i=>simpa using g2 i o' (by simpa using hi)
  .cases h
theorem jbW{α β:Type}(f:α->α->β)(ys:List α):∀(xs:List α)(i j:Nat)(x y:α),xs[i]? = some x->ys[j]? = some y->(xs.flatMap λx=>ys.map λy=>f x y)[i*ys.length+j]? = some (f x y)
 | [],i,j,x,y,h,_=>by simp at h
 |a::xs,i,j,x,y,h,hy=>by
  have hj:=(List.getElem?_eq_some_iff.1 hy).1;rw[List.flatMap_cons];cases i with
  |zero=>simp at h;subst h;rw[Nat.zero_mul,Nat.zero_add,List.getElem?_append_left (by simpa using hj),List.getElem?_map,hy];rfl
  |succ i=>
   rw[List.getElem?_append_right (by simp[Nat.add_mul];omega)]
   have:(i+1)*ys.length+j-(ys.map λy=>f a y).length=i*ys.length+j:=by simp[Nat.add_mul];omega
   rw[this];exact jbW f ys xs i j x y (by simpa using h) hy
theorem Yu{w:World}{O:Nat->Prop} :∀{as1:List A}{vs:List Value},as1.length=vs.length->(∀(i:Nat)(a:A)(v:Value),as1[i]? = some a->vs[i]? = some v->rel w O a v)->jp w O as1 vs
 | [],vs,h,_=>by simp only[jp];exact List.eq_nil_of_length_eq_zero h.symm
 |a::as1,[],h,_=>by simp at h
 |a::as1,v::vs,h,hg=>by
  simp only[jp];exact⟨v,vs,rfl,hg 0 a v rfl rfl,Yu (by simpa using h) λi a v h1 h2=>hg (i+1) a v (by simpa using h1) (by simpa using h2)⟩
def jsK(P:Program)(f:FuncId)(k:Nat):Prop:=
 ∀(m:Nat)(enc:_root_.Fin (m+1)->List Value),(∀x,(enc x).length=k)->(∀x,∀v∈enc x,v.oneCell'=true)-> ∀(cf:_root_.Fin (m+1)->_root_.Fin (m+1)->Int),SWO (ltOf cf)-> ∀(g:Nat)(cb:Array Value)(blk off cap:Nat)(d:Array (_root_.Fin (m+1)))(w:World),
  (∀args w,(callFunc g args).run P w = .ok (.enter g args) w)->CmpLays P g cb enc k cf blk off d.size w->HoldsK enc k w blk off d->blk<w.heap.size->d.size<4611686018427387904->
  Calls P f #[.slice (some ⟨blk,off,none⟩) d.size cap,.func (.func g) #[] cb] w λe w'=>e = .returned (.tuple #[])/\ ∃n os,w'=sortWorldK enc k w blk off n (pdq (ltOf cf) d 0 d.size (Lib.bitLen d.size) true true) os
theorem jfq{W w':World}(h:Below W.heap.size W w'):∃q os',w'=grow (W.drewN q) os':=by
 refine⟨w'.drawn-W.drawn,w'.heap.extract W.heap.size w'.heap.size,?_⟩;have hd:=h.output.2;have hh:w'.heap=W.heap++w'.heap.extract W.heap.size w'.heap.size:=by
  apply Array.ext_getElem?
  intro k;rw[Array.getElem?_append];split
  .rename_i hk;exact h.block k hk
  .rename_i hk;rw[Array.getElem?_extract];have hs:=h.size;by_cases hk2:k<w'.heap.size
   .rw [if_pos (by omega)];congr 1;omega
   .rw [if_neg (by omega),Array.getElem?_eq_none (by omega)]
 have e1:=h.os;have e2:=h.tape;have e3:=h.output.1;cases w' with
 |mk heap tape drawn os output=>
  cases W with
  |mk heap0 tape0 drawn0 os0 output0=>
   simp only at *;subst e1 e2 e3;simp only[grow,World.drewN];congr 1;omega
theorem jr9{X:Ctx}{P:Program}{f:FuncId}{k:Nat}(he:Enters P f)(hS:jsK P f k)(hk0:0<k)(hk64:Nat.blt k 64=true)
  (h0:∀(p:Option Addr)(cap:Nat)(fv:Value)(w:World),Calls P f #[.slice p 0 cap,fv] w λe w'=>e = .returned (.tuple #[])/\w'=w)
  {args:List V} {objs:List Abs.Obj} {qs:List (FuncId×List A)} {outs:List Out} {out:Out} (hq:jgA args objs=some qs) (hok:Qj X P qs outs) (h:jnA k args objs outs=some out):SOk X P f args objs (Q4 k) out:=by
 unfold jnA at h;split at h;rotate_left
 .cases h
 rename_i g caps k' xs;split at h;rotate_left
 .cases h
 rename_i hkk;have hkk:=Nat.eq_of_beq_eq_true hkk;subst hkk;obtain⟨cs,hcs,hrow'⟩:=Option.bind_eq_some_iff.1 h;obtain⟨hcl,hcg⟩:=jbQ hcs;simp only[jgA]at hq;rw[Option.map_eq_some_iff]at hq;obtain⟨cd,hcd,rfl⟩:=hq;refine⟨he,λw O m vs hsto hsome hrel=>?_⟩;simp only[jf,relV]at hrel;obtain⟨v,r0,rfl,⟨hd,hm,hv⟩,v2,r2,rfl,⟨us,rfl,hus⟩,rfl⟩:=hrel;have hus':=yg hcd hus;have hob:=hsto.obj 0;have hst0:jM [Abs.Obj.row k' xs] 0 = .row k' xs:=rfl;rw[hst0,hm]at hob;obtain⟨hd',e1,hrow⟩:=hob;cases e1;have holes:∀ys,HolesOk (Q4 k') (A.top,[A.sl k' ys]) [] [ys]:=λys=>by
  refine⟨rfl,λi a h=>by simp at h,rfl,λj r k2 h1 h2=>?_⟩;cases j with
  |zero=>
   simp[Q4]at h1 h2;subst h1 h2;simp[hR,Q4]
  |succ j=>simp at h1
 have hobjs:∀ys,(Q4 k').objs [] [ys]=[.row k' ys]:=λys=>by
  have h8:Nat.blt k' 256=true:=by rw[Nat.blt_eq]at hk64⊢;omega
  simp[SigA.objs,SigA.objsB,Q4,OW.toO,Q1,Jy,yZ,hk64,h8]
 have empty:∀(p:Option Addr)(cap:Nat),xs=[]->v = .slice p 0 cap->Calls P f #[v,.func (.func g) #[] us.toArray] w λe w'=>∃v,e = .returned v/\ ∃as1 rs m',HolesOk (Q4 k') out as1 rs/\(w'.os=w.os/\w'.tape=w.tape/\Quiet w w'/\w.heap.size<=w'.heap.size)/\
   (∀b,b<w.heap.size-> ¬Mz m (jM [Abs.Obj.row k' xs]) b->w'.heap[b]? = w.heap[b]?)/\(∀b,Mz m' (jM ((Q4 k').objs as1 rs)) b->Mz m (jM [Abs.Obj.row k' xs]) b\/w.heap.size<=b)/\(∀i,i < [Abs.Obj.row k' xs].length-> ∀h,m i=some h-> ∃h',m' i=some h'/\h.le h')/\
   Sto X w' O m' (jM ((Q4 k').objs as1 rs))/\relV w' (Ow O m' (jM ((Q4 k').objs as1 rs))) m' ((Q4 k').r.toV as1) v:=by
  rintro p cap rfl rfl;simp only[ZS,Option.some.injEq]at hrow';subst hrow';refine(h0 p cap _ w).mono ?_;rintro e w' ⟨rfl,rfl⟩;refine⟨_,rfl,[],[[]],m,holes [],⟨rfl,rfl,Quiet.refl _,Nat.le_refl _⟩,λ_ _ _=>rfl,?_,λ_ _ h e=>⟨h,e,h.le_refl⟩,?_,?_⟩
  .rw [hobjs];exact λb hb=>Or.inl hb
  .rw [hobjs];exact hsto
  .simp only[Q4,Sh.toV,relV];exact⟨[],rfl,by simp[Sh.toVL,jf]⟩
 cases hd with
 |tre=>exact hrow.elim
 |mp=>exact hrow.elim
 |none=>
  simp only[rowOk]at hrow;simp only[hdr]at hv;obtain⟨a,hv⟩:=hv;exact empty a 0 hrow hv
 |blk b cap n=>
  obtain⟨rfl,q1,q2,q3,c,T,q4,q5,q6,q7⟩:=hrow;simp only[hdr]at hv;cases xs with
  |nil=>exact empty _ _ rfl hv
  |cons x0 r=>
  subst hv;simp only[ZS]at hrow';split at hrow';rotate_left
  .cases hrow'
  rename_i hc;obtain⟨hO,hsz⟩:=hc;cases hrow';simp only[jwp]at hO⊢;generalize hxs:x0::r=xs at *;have hN:xs.length=r.length+1:=by rw[<-hxs];rfl
  rw[hN]at q1 q6 q7 hm;have hb:b<w.heap.size:=(Array.getElem?_eq_some_iff.1 q4).1;generalize hvals:c.toList.take ((r.length+1)*k')=vals at *;have hvl:vals.length=(r.length+1)*k':=by rw[jG q7,zu q3,hN]
  have hfit:∀i:_root_.Fin (r.length+1),i.val*k'+k'<=(r.length+1)*k':=λi=>by
   have:=Nat.mul_le_mul_right k' (show i.val+1<=r.length+1 from i.isLt);rwa[Nat.add_mul,Nat.one_mul]at this
  let enc:_root_.Fin (r.length+1)->List Value:=λi=>(vals.drop (i.val*k')).take k'
  have hencg:∀(i:_root_.Fin (r.length+1))(t:Nat),t<k'->(enc i)[t]? = vals[i.val*k'+t]? :=λi t ht=>by
   simp only[enc,List.getElem?_take,ht,if_true,List.getElem?_drop]
  have hencl:∀i,(enc i).length=k':=λi=>by simp only[enc,List.length_take,List.length_drop,hvl];have:=hfit i;omega
  have henc1:∀i,∀v∈enc i,v.oneCell'=true:=λi v hv=>q6 v (List.mem_of_mem_drop (List.mem_of_mem_take hv));have hxg:∀i:_root_.Fin (r.length+1),xs[i.val]? = some (xs.getD i.val []):=λi=>by
   rw[List.getD_eq_getElem?_getD,List.getElem?_eq_getElem (by rw[hN];exact i.isLt)];rfl
  have hxl:∀i:_root_.Fin (r.length+1),(xs.getD i.val []).length=k':=λi=>q3 _ (List.mem_of_getElem? (hxg i));have hrelx:∀i:_root_.Fin (r.length+1),jp w (Ow O m (jM [Abs.Obj.row k' xs])) (xs.getD i.val []) (enc i):=λi=>by
   refine Yu (by rw[hxl,hencl]) λt a v ha hv=>?_;have ht:t<k':=by rw[<-hxl i];exact(List.getElem?_eq_some_iff.1 ha).1
   rw[hencg i t ht]at hv;have:=zg q3 (hxg i) ht;rw[ha]at this;obtain⟨u,g1,g2⟩:=Kg q7 this;rw[hv]at g1;cases g1;exact g2
  generalize hd0:(Array.ofFn (n:=r.length+1) id)=d at *;have hds:d.size=r.length+1:=by rw[<-hd0];simp
  have hdg:∀i (hi:i<r.length+1),d[i]! = ⟨i,hi⟩:=λi hi=>by
   rw[<-hd0,getElem!_pos _ i (by simpa using hi)];simp
  have fget:∀(D:Array (_root_.Fin (r.length+1))),D.size=r.length+1-> ∀t,t<(r.length+1)*k'-> ∃i:_root_.Fin (r.length+1),t / k'<r.length+1/\D[t / k']? = some i/\t % k'<k'/\(enc i)[t % k']? = some (flatK enc k' D)[t]! :=λD hD t ht=>by
   have h1:t / k'<r.length+1:=(Nat.div_lt_iff_lt_mul hk0).2 ht;have h2:t % k'<k':=Nat.mod_lt _ hk0;refine⟨D[t / k']!,h1,?_,h2,?_⟩
   .rw [getElem!_pos D _ (by omega)];exact Array.getElem?_eq_getElem (by omega)
   .rw [get_flatK _ _ _ _ (by rw[hD];exact ht)]
    have hl:t % k'<(enc D[t / k']!).length:=by rw[hencl];exact h2
    rw[List.getElem?_eq_getElem hl,getElem!_pos (enc D[t / k']!) (t % k') hl]
  have hH:HoldsK enc k' w b 0 d:=by
   intro j hj;rw[size_flatK,hds]at hj;refine⟨?_,jcs q4⟩;obtain⟨i,g1,g2,g3,g4⟩:=fget d hds j hj;have hi:i=⟨j / k',g1⟩:=by
    have:=hdg _ g1;rw[getElem!_pos d _ (by omega)]at this;rw[Array.getElem?_eq_getElem (by omega)]at g2;rw[this]at g2;exact(Option.some.inj g2).symm
   rw[hencg i _ g3,hi]at g4;simp only[Nat.div_add_mod']at g4;simp only[World.cell?,q4,Nat.zero_add,id];rw[<-g4,<-hvals,List.getElem?_take,if_pos hj];simp
  have world:∀(mm:Nat)(dk:Array (_root_.Fin (r.length+1)))(os:Array Go.Obj),(∀b',b'<w.heap.size->b'≠b->(sortWorldK enc k' w b 0 mm dk os).heap[b']? = w.heap[b']?)/\w.heap.size<=(sortWorldK enc k' w b 0 mm dk os).heap.size/\
    (sortWorldK enc k' w b 0 mm dk os).heap[b]? = some (.cells (putCells id 0 (flatK enc k' dk) c) T (0,0)):=λmm dk os=>by
   have hheap:(sortWorldK enc k' w b 0 mm dk os).heap=(w.heap.modify b (onCells (putCells id 0 (flatK enc k' dk))))++os:=rfl;refine⟨λb' hb' hne=>?_,?_,?_⟩
   .rw [hheap,Array.getElem?_append_left (by simpa using hb'),Array.getElem?_modify,if_neg (Ne.symm hne)]
   .rw [hheap];simp
   .rw [hheap,Array.getElem?_append_left (by simpa using hb),Array.getElem?_modify,if_pos rfl,q4];rfl
  have hcmp:CmpLays P g us.toArray enc k' (Z5 (r.length+1) cs) b 0 d.size w:=by
   intro mm os dk hs x y;obtain⟨w1,w2,_⟩:=world mm dk os;generalize sortWorldK enc k' w b 0 mm dk os=W at *;have hq:=jbW (λx y=>(g,[A.agg x,A.agg y]++cd)) xs xs x.val y.val _ _ (hxg x) (hxg y);rw[hN]at hq;have hql:=(List.getElem?_eq_some_iff.1 hq).1;obtain⟨o,ho⟩:∃o,outs[x.val*(r.length+1)+y.val]? = some o:=⟨_,List.getElem?_eq_getElem (by rw[hok.1];exact hql)⟩;obtain⟨cc,hcc,rfl⟩:=hcg _ _ ho;have hP:=hok.2 _ _ _ hq ho;have hcf:Z5 (r.length+1) cs x y=cc:=by unfold Z5;rw[List.getD_eq_getElem?_getD,hcc];rfl
   have hnb:∀b',X.N b'->b'≠b:=λb' hb' e=>(hsto.blk 0 _ b rfl hm yB).2 (e ▸ hsto.jn b' hb');have hmw:MonoW w (Ow O m (jM [Abs.Obj.row k' xs])) W (Ow O m (jM [Abs.Obj.row k' xs])):=⟨w2,λb' hb' hn=>w1 b' hb' λe=>hn (Or.inr (e ▸ ⟨0,_,rfl,hm,yB⟩)),λ_ _ h=>h⟩;have hJ:X.J W:=X.stable w W (λb' hb'=>w1 b' (hsto.old b' (hsto.jn b' hb')) (hnb b' hb')) hsto.j;have hargs:jp W (Ow O m (jM [Abs.Obj.row k' xs])) ([A.agg (xs.getD x.val []),A.agg (xs.getD y.val [])]++cd) ([.agg (enc x).toArray,.agg (enc y).toArray]++us):=by
    refine kJ ?_ (jP hmw _ _ hus');simp only[jp,rel];exact⟨_,_,rfl,⟨_,rfl,jP hmw _ _ (hrelx x)⟩,_,_,rfl,⟨_,rfl,jP hmw _ _ (hrelx y)⟩,rfl⟩
   have hcall:=hP.2 W (Ow O m (jM [Abs.Obj.row k' xs])) _ hJ (λb' hb'=>Or.inl (hsto.jn b' hb')) (λb' hb'=>by
    rcases hb' with hb'|⟨id,hd1,ha,hm1,hi1⟩
    .exact Nat.lt_of_lt_of_le (hsto.old b' hb') w2
    .exact Nat.lt_of_lt_of_le (hsto.blk id hd1 b' ha hm1 hi1).1 w2) hargs
   have hva:([Value.agg (enc x).toArray,.agg (enc y).toArray]++us).toArray = #[.agg (enc x).toArray,.agg (enc y).toArray]++us.toArray:=by simp
   rw[hva]at hcall;refine hcall.mono ?_;rintro e w' ⟨v,rfl,hbel,hr⟩;simp only[rel]at hr;subst hr;exact⟨by rw[hcf],jfq hbel⟩
  have hcall:=hS r.length enc hencl henc1 _ hO g us.toArray b 0 cap d w (λargs w=>by
   have hq:=jbW (λx y=>(g,[A.agg x,A.agg y]++cd)) xs xs 0 0 _ _ (hxg ⟨0,by omega⟩) (hxg ⟨0,by omega⟩);obtain⟨o,ho⟩:∃o,outs[0*xs.length+0]? = some o:=⟨_,List.getElem?_eq_getElem (by rw[hok.1];exact(List.getElem?_eq_some_iff.1 hq).1)⟩;exact(hok.2 _ _ _ hq ho).1 args w) hcmp hH hb (by rw[hds];exact hsz)
  rw[hds]at hcall;refine Calls.mono (by rw[hN];exact hcall) ?_;rintro e w' ⟨rfl,n,os,rfl⟩;have hperm:=(pdq_sorts (ltOf (Z5 (r.length+1) cs)) hO d 0 (r.length+1) (Lib.bitLen (r.length+1)) true true (Nat.zero_le _) (by rw[hds];exact Nat.le_refl _) (Or.inl rfl)).1.1;rw[hds]at hperm;generalize pdq (ltOf (Z5 (r.length+1) cs)) d 0 (r.length+1) (Lib.bitLen (r.length+1)) true true=D at *;obtain⟨w1,w2,w3⟩:=world n D os;have hqt:Quiet w (sortWorldK enc k' w b 0 n D os):=⟨rfl,Nat.le_add_right _ _⟩;have hos:(sortWorldK enc k' w b 0 n D os).os=w.os:=rfl;have htp:(sortWorldK enc k' w b 0 n D os).tape=w.tape:=rfl;generalize sortWorldK enc k' w b 0 n D os=w' at *;generalize hys:(D.toList.map λi:_root_.Fin (r.length+1)=>xs.getD i.val [])=ys at *;have hyl:ys.length=r.length+1:=by rw[<-hys];simpa using hperm
  have hyk:∀y∈ys,y.length=k':=λy hy=>by
   rw[<-hys]at hy;obtain⟨i,_,rfl⟩:=List.mem_map.1 hy;exact hxl i
  have hst:∀id,(jM [Abs.Obj.row k' ys] id).alive=(jM [Abs.Obj.row k' xs] id).alive:=jcQ rfl;have hmz:∀b',Mz m (jM [Abs.Obj.row k' ys]) b'->Mz m (jM [Abs.Obj.row k' xs]) b':=by
   rintro b' ⟨id,hd',ha,hm',hi'⟩;exact⟨id,hd',by rw[<-hst id];exact ha,hm',hi'⟩
  have hbm:Mz m (jM [Abs.Obj.row k' xs]) b:=⟨0,_,rfl,hm,yB⟩;have hchg:Chg w m (jM [Abs.Obj.row k' xs]) w' m (jM [Abs.Obj.row k' ys]):=
   ⟨hos,htp,hqt,w2,λb' hb' hn=>w1 b' hb' λe=>hn (by rw[e];exact hbm),KX.refl m,λb' h=>Or.inl (hmz b' h)⟩
  have hFs:(flatK enc k' D).size=(r.length+1)*k':=by rw[size_flatK,hperm]
  have hcs2:(r.length+1)*k'<=c.size:=by rw[q5];exact Nat.mul_le_mul_right k' q1
  have hcut:(putCells id 0 (flatK enc k' D) c).toList.take ((r.length+1)*k')=(flatK enc k' D).toList:=by
   refine List.ext_getElem? λj=>?_;rw[List.getElem?_take];by_cases hj:j<(r.length+1)*k'
   .rw [if_pos hj,Array.getElem?_toList,Array.getElem?_toList];unfold putCells;rw[Array.getElem?_mapIdx,Array.getElem?_eq_getElem (show j<c.size by omega),Array.getElem?_eq_getElem (show j<(flatK enc k' D).size by omega)];have:0<=j/\j<0+(flatK enc k' D).size:=⟨Nat.zero_le _,by omega⟩;simp only[Option.map_some,this,and_self,if_true,Nat.sub_zero,id];rw[getElem!_pos _ j (by omega)]
   .rw [if_neg hj,List.getElem?_eq_none (by simp only[Array.length_toList];omega)]
  have hrelF:jp w' (Ow O m (jM [Abs.Obj.row k' ys])) ys.flatten (flatK enc k' D).toList:=by
   have hFl:(flatK enc k' D).toList.length=(r.length+1)*k':=Array.length_toList.trans hFs;refine Yu (by rw[zu hyk,hyl,hFl]) λt a v ha hv=>?_;have ht:t<(r.length+1)*k':=by have:=(List.getElem?_eq_some_iff.1 ha).1;rwa[zu hyk,hyl]at this
   obtain⟨i,g1,g2,g3,g4⟩:=fget D hperm t ht;have hyi:ys[t / k']? = some (xs.getD i.val []):=by rw[<-hys,List.getElem?_map,Array.getElem?_toList,g2];rfl
   have hfl:=zg hyk hyi g3;rw[Nat.div_add_mod',ha]at hfl;obtain⟨u,e1,e2⟩:=Kg (hrelx i) hfl.symm;rw[g4]at e1;rw[Array.getElem?_toList]at hv;rw[getElem!_pos _ t (by omega)]at e1;rw[Array.getElem?_eq_getElem (by omega)]at hv;cases e1;cases hv;exact j9 (hchg.monoW O) _ _ e2
  refine⟨_,rfl,[],[ys],m,holes ys,⟨hchg.os,hchg.tape,hchg.output,w2⟩,hchg.keep,λb' h=>Or.inl (hmz b' (by rw[hobjs]at h;exact h)),λ_ _ h e=>⟨h,e,h.le_refl⟩,?_,?_⟩
  .rw [hobjs];refine hsto.chg hchg ?_ (λid hd' b' ha hm' _=>Or.inl ⟨by rw[<-hst id];exact ha,hm'⟩) (λid id' hd1 hd2 b' ha ha'=>hsto.inj id id' hd1 hd2 b' (by rw[<-hst id];exact ha) (by rw[<-hst id'];exact ha')) ?_
   .intro id h;refine hsto.fresh id ?_;cases id with
    |zero=>cases h
    |succ id=>rfl
   .intro id;cases id with
    |succ id=>exact Or.inl ⟨rfl,rfl,λhd' b' ha=>by cases ha⟩
    |zero=>
     right;rw[hm];refine⟨_,rfl,by rw[hyl],by rw[hyl];exact q1,q2,hyk,_,T,w3,?_,?_,?_⟩
     .simp only[putCells,Array.size_mapIdx];exact q5
     .rw [hyl,hcut];intro u hu;obtain⟨t,ht,rfl⟩:=List.mem_iff_getElem.1 hu;rw[Array.length_toList,hFs]at ht;obtain⟨i,g1,g2,g3,g4⟩:=fget D hperm t ht;refine henc1 i _ ?_;have:=List.mem_of_getElem? g4;rwa[getElem!_pos _ t (by omega)]at this
     .rw [hyl,hcut];exact hrelF
  .simp only[Q4,Sh.toV,relV];exact⟨[],rfl,by simp[Sh.toVL,jf]⟩
end
noncomputable section
def Js(w:World)(k:Nat):List (List A)->List (List Value)->List (List Hd)->Prop
 | [],[],[]=>True
 |x::xs,r::rs,q::qs=>x.length=k/\j7 w x r q/\Js w k xs rs qs
 |_,_,_=>False
theorem Js.split{w:World}{k:Nat} :∀{xs:List (List A)}{vs:List Value}{ks:List Hd},j7 w xs.flatten vs ks->(∀x∈xs,x.length=k)-> ∃rs qs,vs=rs.flatten/\ks=qs.flatten/\Js w k xs rs qs
 | [],vs,ks,h,_=>by
  have:=qo h;simp only[List.flatten_nil,List.length_nil]at this;have e1:ks=[]:=List.eq_nil_of_length_eq_zero this.1.symm;have e2:vs=[]:=List.eq_nil_of_length_eq_zero (by rw[this.2,e1];rfl);subst e1 e2;exact⟨[],[],rfl,rfl,trivial⟩
 |x::xs,vs,ks,h,hk=>by
  have hx:x.length=k:=hk x (by simp);have h1:=jb8 k h;have h2:=jb7 k h;rw[List.flatten_cons]at h1 h2;rw[List.take_left' hx]at h1;rw[List.drop_left' hx]at h2;obtain⟨rs,qs,e1,e2,h3⟩:=Js.split h2 λy hy=>hk y (by simp[hy]);refine⟨vs.take k::rs,ks.take k::qs,?_,?_,hx,h1,h3⟩
  .rw [List.flatten_cons,<-e1,List.take_append_drop]
  .rw [List.flatten_cons,<-e2,List.take_append_drop]
theorem Js.join{w:World}{k:Nat} :∀{xs:List (List A)}{rs:List (List Value)}{qs:List (List Hd)},Js w k xs rs qs->j7 w xs.flatten rs.flatten qs.flatten/\(∀x∈xs,x.length=k)/\rs.length=xs.length/\qs.length=xs.length
 | [],[],[],_=>⟨by simp[j7],by simp,rfl,rfl⟩
 |x::xs,r::rs,q::qs,h=>by
  obtain⟨h1,h2,h3⟩:=h;obtain⟨g1,g2,g3,g4⟩:=Js.join h3;refine⟨?_,?_,by simp[g3],by simp[g4]⟩
  .rw [List.flatten_cons,List.flatten_cons,List.flatten_cons];exact qa h2 g1
  .intro y hy;rcases List.mem_cons.1 hy with rfl|hy
   .exact h1
   .exact g2 y hy
 | [],[],_::_,h=>h.elim
 | [],_::_,_,h=>h.elim
 |_::_,[],_,h=>h.elim
 |_::_,_::_,[],h=>h.elim
theorem Js.get{w:World}{k:Nat} :∀{xs:List (List A)}{rs:List (List Value)}{qs:List (List Hd)}{i:Nat},Js w k xs rs qs->i<xs.length->(xs.getD i []).length=k/\j7 w (xs.getD i []) (rs.getD i []) (qs.getD i [])
 | [],_,_,_,_,h=>by simp at h
 |x::xs,r::rs,q::qs,i,h,hi=>by
  obtain⟨h1,h2,h3⟩:=h;cases i with
  |zero=>exact⟨h1,h2⟩
  |succ i=>
   have:=Js.get h3 (i:=i) (by simpa using hi);simpa using this
 |_::_,[],_,_,h,_=>h.elim
 |_::_,_::_,[],_,h,_=>h.elim
theorem Js.sel{w:World}{k:Nat}{xs:List (List A)}{rs:List (List Value)}{qs:List (List Hd)}(h:Js w k xs rs qs):∀{sel:List Nat},(∀i∈sel,i<xs.length)->Js w k (yX xs sel) (yX rs sel) (yX qs sel)
 | [],_=>trivial
 |i::sel,hs=>by
  have:=h.get (hs i (by simp));exact⟨this.1,this.2,Js.sel h λj hj=>hs j (by simp[hj])⟩
theorem Js.congr{w w':World}{k:Nat} :∀{xs:List (List A)}{rs:List (List Value)}{qs:List (List Hd)},(∀b∈Hd.blocksL qs.flatten,w'.heap[b]? = w.heap[b]?)->Js w k xs rs qs->Js w' k xs rs qs
 | [],[],[],_,_=>trivial
 |x::xs,r::rs,q::qs,hb,h=>by
  obtain⟨h1,h2,h3⟩:=h;rw[List.flatten_cons,jK]at hb;exact⟨h1,zM q (λb hm=>hb b (List.mem_append_left _ hm)) h2,Js.congr (λb hm=>hb b (List.mem_append_right _ hm)) h3⟩
 | [],[],_::_,_,h=>h.elim
 | [],_::_,_,_,h=>h.elim
 |_::_,[],_,_,h=>h.elim
 |_::_,_::_,[],_,h=>h.elim
theorem Jl{b:Nat} :∀{qs:List (List Hd)}{i:Nat},b∈Hd.blocksL (qs.getD i [])->b∈Hd.blocksL qs.flatten
 | [],i,h=>by simp[Hd.blocksL]at h
 |q::qs,i,h=>by
  rw[List.flatten_cons,jK];cases i with
  |zero=>exact List.mem_append_left _ h
  |succ i=>exact List.mem_append_right _ (Jl (i:=i) (by simpa using h))
theorem jbZ{b:Nat} :∀{qs:List (List Hd)}{i j:Nat},(Hd.blocksL qs.flatten).Nodup->i≠j->b∈Hd.blocksL (qs.getD i [])->b∈Hd.blocksL (qs.getD j [])->False
 | [],i,j,_,_,h,_=>by simp[Hd.blocksL]at h
 |q::qs,i,j,hn,hij,hi,hj=>by
  rw[List.flatten_cons,jK,List.nodup_append]at hn;cases i with
  |zero=>
   cases j with
   |zero=>exact hij rfl
   |succ j=>exact hn.2.2 b hi b (Jl (i:=j) (by simpa using hj)) rfl
  |succ i=>
   cases j with
   |zero=>exact hn.2.2 b hj b (Jl (i:=i) (by simpa using hi)) rfl
   |succ j=>exact jbZ (i:=i) (j:=j) hn.2.1 (by omega) (by simpa using hi) (by simpa using hj)
theorem jeB:∀{qs:List (List Hd)}{i:Nat},(Hd.blocksL qs.flatten).Nodup->(Hd.blocksL (qs.getD i [])).Nodup
 | [],i,_=>by simp[Hd.blocksL]
 |q::qs,i,hn=>by
  rw[List.flatten_cons,jK,List.nodup_append]at hn;cases i with
  |zero=>exact hn.1
  |succ i=>simpa using jeB (qs:=qs) (i:=i) hn.2.1
theorem jib{b:Nat}{qs:List (List Hd)} :∀{sel:List Nat},b∈Hd.blocksL (yX qs sel).flatten-> ∃i∈sel,b∈Hd.blocksL (qs.getD i [])
 | [],h=>by simp[yX,Hd.blocksL]at h
 |i::sel,h=>by
  have h:b∈Hd.blocksL (qs.getD i []++(yX qs sel).flatten):=h;rw[jK]at h;rcases List.mem_append.1 h with h|h
  .exact ⟨i,by simp,h⟩
  .obtain ⟨j,h1,h2⟩:=jib h;exact⟨j,by simp[h1],h2⟩
theorem jgz{qs:List (List Hd)}(hn:(Hd.blocksL qs.flatten).Nodup):∀{sel:List Nat},sel.Nodup->(Hd.blocksL (yX qs sel).flatten).Nodup
 | [],_=>by simp[yX,Hd.blocksL]
 |i::sel,h=>by
  obtain⟨h1,h2⟩:=List.nodup_cons.1 h;show(Hd.blocksL (qs.getD i []++(yX qs sel).flatten)).Nodup;rw[jK];refine List.nodup_append.2 ⟨jeB hn,jgz hn h2,λa ha b hb e=>?_⟩;subst e;obtain⟨j,hj,hb⟩:=jib hb;exact jbZ hn (i:=i) (j:=j) (λe=>h1 (by rw[e];exact hj)) ha hb
theorem jqr{w:World}{h h':Hd}{x x':A}{v:Value}(e1:jmb w h x v)(e2:jmb w h' x' v)(hs:J9 x=J9 x')(hd:∀b,b∈h.blocks->b∈h'.blocks->False):x=x':=by
 cases x with
 |val y=>
  cases x' with
  |val y'=>exact congrArg A.val (e1.2.symm.trans e2.2)
  |_=>first|exact e2.elim|cases hs
 |top=>
  cases x' with
  |top=>rfl
  |val _=>cases hs
  |sl _ _=>cases hs
  |_=>exact e2.elim
 |sl k xs=>
  cases x' with
  |sl k' xs'=>
   simp only[J9,Option.some.injEq,Nat.add_right_cancel_iff]at hs;subst hs;obtain⟨a1,a2⟩:=e1;obtain⟨b1,b2⟩:=e2;have empty:∀{hh:Hd}{ys:List (List A)},jw w true k ys hh->(∃a,v = .slice a 0 0)->hdr hh v->ys=[]:=λ{hh ys} o ⟨a,e⟩ o2=>by
    cases hh with
    |none=>simpa[jw]using o
    |blk=>simp[jw]at o
    |mp=>simp[jw]at o
    |tre f b c n ks=>
     simp only[jw]at o;simp only[hdr]at o2;rw[e]at o2;cases o2;exact List.eq_nil_of_length_eq_zero o.2.1.symm
   cases h with
   |none=>
    have z:xs=[]:=by simpa[jw]using a2
    rw[z,empty b2 a1 b1]
   |blk=>simp[jw]at a2
   |mp=>simp[jw]at a2
   |tre f b c n ks=>
    cases h' with
    |none=>
     have:∃a,v = .slice a 0 0:=b1;rw[empty a2 this a1,empty b2 this b1]
    |blk=>simp[jw]at b2
    |mp=>simp[jw]at b2
    |tre f' b' c' n' ks'=>
     simp only[hdr]at a1 b1;rw[a1]at b1;cases b1;exact(hd b (by simp[Hd.blocks]) (by simp[Hd.blocks])).elim
  |val _=>cases hs
  |top=>cases hs
  |_=>exact e2.elim
 |_=>exact e1.elim
theorem jfZ{w:World} :∀{q q':List Hd}{a a':List A}{r:List Value},j7 w a r q->j7 w a' r q'->a.map J9=a'.map J9->(∀b,b∈Hd.blocksL q->b∈Hd.blocksL q'->False)->a=a'
 | [],q',a,a',r,h,h',hs,_=>by
  simp only[j7]at h;obtain⟨rfl,rfl⟩:=h;simp only[List.map_nil]at hs;exact(List.map_eq_nil_iff.1 hs.symm).symm
 |h::q,q',a,a',r,e,e',hs,hd=>by
  obtain⟨x,xs,v,vs,rfl,rfl,h3,h4⟩:=jX.1 e;cases q' with
  |nil=>simp only[j7]at e';cases e'.2
  |cons h' q'=>
   obtain⟨x',xs',v',vs',rfl,e2,g3,g4⟩:=jX.1 e';cases e2;simp only[List.map_cons,List.cons.injEq]at hs;rw[jqr h3 g3 hs.1 λb h1 h2=>hd b (by simp[Hd.blocksL,h1]) (by simp[Hd.blocksL,h2]),jfZ h4 g4 hs.2 λb h1 h2=>hd b (by simp[Hd.blocksL,h1]) (by simp[Hd.blocksL,h2])]
theorem jnU{xs:List (List A)}(h:jfM xs=true):∀i j,i<xs.length->j<xs.length->(xs.getD i []).map J9=(xs.getD j []).map J9:=by
 cases xs with
 |nil=>intro i j hi;simp at hi
 |cons x r=>
  have key:∀i,i<(x::r).length->((x::r).getD i []).map J9=x.map J9:=λi hi=>by
   cases i with
   |zero=>rfl
   |succ i=>
    have hi:i<r.length:=by simpa using hi
    have:=List.all_eq_true.1 h r[i] (List.getElem_mem _);simp only[decide_eq_true_eq]at this;simpa[List.getElem?_eq_getElem hi]using this
  intro i j hi hj;rw[key i hi,key j hj]
theorem jns{w:World}{k:Nat}{xs:List (List A)}{rs:List (List Value)}{qs:List (List Hd)}(h:Js w k xs rs qs)(hn:(Hd.blocksL qs.flatten).Nodup)(hc:jfM xs=true){i j:Nat}(hi:i<xs.length)(hj:j<xs.length)(e:rs.getD i []=rs.getD j []):xs.getD i []=xs.getD j []:=by
 by_cases hij:i=j
 .rw [hij]
 .have h1:=(h.get hi).2;have h2:=(h.get hj).2;rw[<-e]at h2;exact jfZ h1 h2 (jnU hc i j hi hj) λb a c=>jbZ hn hij a c
def Ctx.keepB(X:Ctx)(w0:World)(B:List Nat):Ctx where
 J w:=X.J w/\ ∀b∈B,w.heap[b]? = w0.heap[b]?
 N b:=X.N b\/b∈B
 stable w w' h hj:=⟨X.stable w w' (λb hb=>h b (Or.inl hb)) hj.1,λb hb=>(h b (Or.inr hb)).trans (hj.2 b hb)⟩
def zp(r:List Value):List A:=r.map A.val
theorem ja8{w:World}{O:Nat->Prop} :∀{r vs:List Value},jp w O (zp r) vs->vs=r
 | [],vs,h=>by simpa[zp,jp]using h
 |x::r,vs,h=>by
  simp only[zp,List.map_cons,jp,rel]at h;obtain⟨v,r',rfl,rfl,h⟩:=h;rw[ja8 h]
theorem jh3{w:World}{O:Nat->Prop} :∀r:List Value,jp w O (zp r) r
 | []=>by simp[zp,jp]
 |x::r=>by
  simp only[zp,List.map_cons,jp,rel];exact⟨x,r,rfl,rfl,jh3 r⟩
theorem jjZ{X:Ctx}{P:Program}{g:FuncId}{x y:List A}{c:Value}{w0:World}{B:List Nat}{rx ry:List Value}{qx qy:List Hd}(h:yS X P g [A.agg x,A.agg y] (.val c,[]))(hx:j7 w0 x rx qx)(hy:j7 w0 y ry qy)
  (bx:∀b∈Hd.blocksL qx,b∈B) (bY:∀b∈Hd.blocksL qy,b∈B) (hB:∀b∈B,¬X.N b):yS (X.keepB w0 B) P g [A.agg (zp rx),A.agg (zp ry)] (.val c,[]):=by
 refine⟨h.1,λw O vs hJ hN hO hr=>?_⟩;simp only[jp,rel]at hr;obtain⟨v1,r1,rfl,⟨u1,rfl,h1⟩,v2,r2,rfl,⟨u2,rfl,h2⟩,rfl⟩:=hr;cases ja8 h1;cases ja8 h2;refine(h.2 w (λb=>O b/\b ∉ B) _ hJ.1 (λb hb=>⟨hN b (Or.inl hb),λhm=>hB b hm hb⟩) (λb hb=>hO b hb.1) ?_).mono ?_
 .simp only[jp,rel];exact⟨_,_,rfl,⟨_,rfl,YF qx (λb hb h=>h.2 (bx b hb)) (zM qx (λb hb=>hJ.2 b (bx b hb)) hx)⟩,_,_,rfl,⟨_,rfl,YF qy (λb hb h=>h.2 (bY b hb)) (zM qy (λb hb=>hJ.2 b (bY b hb)) hy)⟩,rfl⟩
 .rintro e w' ⟨v,rfl,hb,hv⟩;refine⟨v,rfl,hb,?_⟩;simp only[rel]at hv⊢;exact hv
def Hd.asT(ks:List Hd):Hd->Hd
 |.blk b c n=>.tre true b c n ks
 |h=>h
theorem jr2{w:World}{O:Nat->Prop}{k:Nat}{xs:List (List A)}{rs:List (List Value)}{qs:List (List Hd)}{hd:Hd}(h:rowOk w O k (rs.map zp) hd)(ht:Js w k xs rs qs):jw w true k xs (hd.asT qs.flatten):=by
 obtain⟨g1,g2,g3,g4⟩:=ht.join;cases hd with
 |none=>
  have h:rs.map zp=[]:=h;have:rs=[]:=List.map_eq_nil_iff.1 h;subst this;show xs=[];exact List.eq_nil_of_length_eq_zero g3.symm
 |tre=>exact h.elim
 |mp=>exact h.elim
 |blk b c n=>
  obtain⟨p1,p2,p3,p4,cc,T,p5,p6,p7,p8⟩:=h;rw[List.length_map,g3]at p1 p2 p7 p8;have e:(rs.map zp).flatten=zp rs.flatten:=by unfold zp;rw[List.map_flatten]
  rw[e]at p8;have p8:=ja8 p8;simp only[Hd.asT,jw];refine⟨trivial,p1,p2,p3,g2,cc,T,p5,p6,p7,?_⟩;rw[p8];exact g1
def sgr(inp:Bool)(k:Nat):SigA:=if inp then⟨0,[k],[.io 0],[],.tup []⟩else⟨0,[k],[.cons],[0],.row 1⟩
theorem jsa{inp:Bool}{k:Nat}(hk:Nat.blt k 64=true)(ys:List (List A)):(sgr inp k).objs [] [ys]=if inp then[.row k ys]else[.gone,.row k ys]:=by
 have h8:Nat.blt k 256=true:=by rw[Nat.blt_eq]at hk⊢;omega
 cases inp<;>simp[sgr,SigA.objs,SigA.objsB,OW.toO,Q1,Jy,yZ,hk,h8]
theorem jsb{inp:Bool}{k:Nat}(hk:Nat.blt k 64=true)(ys:List (List A)):(sgr inp (k+64)).objs [] [ys]=if inp then[.tre true k ys]else[.gone,.tre true k ys]:=by
 have h0:Nat.blt (k+64) 64=false:=by
  cases hc:Nat.blt (k+64) 64 with
  |false=>rfl
  |true=>rw[Nat.blt_eq]at hc;omega
 have h8:Nat.blt (k+64) 256=true:=by rw[Nat.blt_eq]at hk⊢;omega
 have h9:Nat.beq (k+64) 128=false:=by
  cases h:Nat.beq (k+64) 128 with
  |false=>rfl
  |true=>rw[Nat.blt_eq]at hk;have:=Nat.eq_of_beq_eq_true h;omega
 cases inp<;>simp[sgr,SigA.objs,SigA.objsB,OW.toO,Q1,Jy,yZ,h0,h8,h9]
theorem jkC{inp fin:Bool}{X:Ctx}{P:Program}{f g:FuncId}{k:Nat}{xs:List (List A)}{sel:List Nat}(hinp:inp=true->fin=false\/xs=[])(he:Enters P f)(hk:Nat.blt k 64=true)(hs1:sel.Nodup)(hs2:∀i∈sel,i<xs.length)
  (hrow:∀(w0:World)(B:List Nat)(rs:List (List Value))(qs:List (List Hd)),Js w0 k xs rs qs->(∀r∈rs,∀v∈r,v.oneCell'=true)->(Hd.blocksL qs.flatten).Nodup->(∀b∈Hd.blocksL qs.flatten,b∈B)->(∀b∈B,¬X.N b)->
   SOk (X.keepB w0 B) P f [.row 0,.fn g []] [.row k (rs.map zp)] (sgr inp k) (.top,[.sl k ((yX rs sel).map zp)])) :
  SOk X P f [.row 0,.fn g []] [.tre fin k xs] (sgr inp (k+64)) (.top,[.sl (k+64) (yX xs sel)]):=by
 refine⟨he,λw O m vs hsto hsome hrel=>?_⟩;simp only[jf,relV]at hrel;obtain⟨v,r0,rfl,⟨hd,hm,hv⟩,v2,r2,rfl,⟨us,rfl,rfl⟩,rfl⟩:=hrel;have hob:=hsto.obj 0;have hst0:jM [Abs.Obj.tre fin k xs] 0 = .tre fin k xs:=rfl;rw[hst0,hm]at hob;obtain⟨hd',e1,hok,hnd⟩:=hob;cases e1;have hal:(jM [Abs.Obj.tre fin k xs] 0).alive=true:=rfl;have hmz:∀b,b∈hd.blocks->Mz m (jM [Abs.Obj.tre fin k xs]) b:=λb hb=>⟨0,hd,rfl,hm,hb⟩;have hblt:∀b,b∈hd.blocks->b<w.heap.size/\ ¬O b:=λb hb=>hsto.blk 0 hd b hal hm hb;obtain⟨rs,qs,htr,hkids,hone,hrow1⟩:∃rs qs,Js w k xs rs qs/\hd.kids=qs.flatten/\(∀r∈rs,∀v∈r,v.oneCell'=true)/\ ∀O',rowOk w O' k (rs.map zp) hd.asBlk:=by
  cases hd with
  |none=>
   simp only[jw]at hok;subst hok;exact⟨[],[],trivial,rfl,λr hr=>(List.not_mem_nil hr).elim,λO'=>rfl⟩
  |blk=>simp[jw]at hok
  |mp=>simp[jw]at hok
  |tre f' b c n ks=>
   simp only[jw]at hok;obtain⟨_,q0,q1,q2,q3,cc,T,q4,q5,q6,q7⟩:=hok;obtain⟨rs,qs,z1,z2,z3⟩:=Js.split q7 q3;obtain⟨g1,g2,g3,g4⟩:=z3.join;refine⟨rs,qs,z3,z2,λr hr v hv=>q6 v (by rw[z1];exact List.mem_flatten.2 ⟨r,hr,hv⟩),λO'=>?_⟩;have e:(rs.map zp).flatten=zp rs.flatten:=by unfold zp;rw[List.map_flatten]
   refine⟨by rw[List.length_map,g3];exact q0,by rw[List.length_map,g3];exact q1,q2,λx hx=>?_,cc,T,q4,q5,by rw[List.length_map,g3];exact q6,?_⟩
   .obtain ⟨r,hr,rfl⟩:=List.mem_map.1 hx;obtain⟨i,hi,rfl⟩:=List.mem_iff_getElem.1 hr;have hi':i<xs.length:=by rw[<-g3];exact hi
    have h1:=z3.get hi';have h2:=qo h1.2;have h3:rs.getD i []=rs[i]:=by rw[List.getD_eq_getElem?_getD,List.getElem?_eq_getElem hi];rfl
    rw[h3]at h2;unfold zp;rw[List.length_map];have:rs[i].length=(qs.getD i []).length:=h2.2;rw[this,<-h2.1];exact h1.1
   .rw [List.length_map,g3,e,z1];exact jh3 _
 have hkb:∀b,b∈Hd.blocksL qs.flatten->b∈hd.blocks:=λb hb=>by
  rw[<-hkids]at hb;cases hd with
  |tre f' b' c n ks=>simp only[Hd.kids]at hb;simp[Hd.blocks,hb]
  |_=>simp[Hd.kids,Hd.blocksL]at hb
 have hroot:∀b,b∈hd.asBlk.blocks->b ∉ Hd.blocksL qs.flatten:=λb hb hq=>by
  rw[<-hkids]at hq;cases hd with
  |tre f' b' c n ks=>
   simp only[Hd.asBlk,Hd.blocks,List.mem_singleton]at hb;simp only[Hd.kids]at hq;subst hb;simp only[Hd.blocks,List.nodup_cons]at hnd;exact hnd.1 hq
  |_=>simp[Hd.kids,Hd.blocksL]at hq
 have hkn:(Hd.blocksL qs.flatten).Nodup:=by
  rw[<-hkids];cases hd with
  |tre f' b' c n ks=>simp only[Hd.blocks,List.nodup_cons]at hnd;exact hnd.2
  |_=>simp[Hd.kids,Hd.blocksL]
 generalize hB:Hd.blocksL qs.flatten=B at *;have hBN:∀b∈B,¬X.N b:=λb hb hN=>(hblt b (hkb b hb)).2 (hsto.jn b hN);have hcall:=hrow w B rs qs htr hone (by rw[hB];exact hkn) (by rw[hB];exact λb hb=>hb) hBN;generalize hm1:((λi=>if i=0 then some hd.asBlk else none):jT)=m1;have m10:m1 0=some hd.asBlk:=by rw[<-hm1];rfl
 have m1s:∀i,i≠0->m1 i=none:=λi hi=>by rw[<-hm1];simp[hi]
 have st1s:∀i,i≠0->jM [Abs.Obj.row k (rs.map zp)] i = .dead:=λi hi=>yD (by simp;omega)
 have mz1:∀b,Mz m1 (jM [Abs.Obj.row k (rs.map zp)]) b↔b∈hd.asBlk.blocks:=λb=>by
  constructor
  .rintro ⟨i,h,a1,a2,a3⟩;by_cases hi:i=0
   .subst hi;rw[m10]at a2;cases a2;exact a3
   .rw [m1s i hi]at a2;cases a2
  .exact λhb=>⟨0,_,rfl,m10,hb⟩
 have hsto1:Sto (X.keepB w B) w (λb=>O b\/b∈B) m1 (jM [Abs.Obj.row k (rs.map zp)]):=by
  refine⟨⟨hsto.j,λ_ _=>rfl⟩,λb hb=>hb.imp (hsto.jn b) id,λi hi=>?_,λb hb=>hb.elim (hsto.old b) λh=>(hblt b (hkb b h)).1,λi h b a1 a2 a3=>?_,λi i' h h' b a1 a2 a3 a4 _ _=>?_,λi=>?_⟩
  .by_cases h0:i=0
   .subst h0;cases hi
   .exact m1s i h0
  .by_cases h0:i=0
   .subst h0;rw[m10]at a2;cases a2;have:=hblt b (YO a3);exact⟨this.1,λh=>h.elim this.2 λh=>hroot b a3 h⟩
   .rw [m1s i h0]at a2;cases a2
  .by_cases h0:i=0
   .by_cases h0':i'=0
    .rw [h0,h0']
    .rw [m1s i' h0']at a4;cases a4
   .rw [m1s i h0]at a3;cases a3
  .by_cases h0:i=0
   .subst h0;rw[m10];exact⟨_,rfl,hrow1 _⟩
   .rw [st1s i h0];trivial
 refine(hcall.2 w _ m1 _ hsto1 (λi hi=>?_) ?_).mono ?_
 .have:i=0:=by simpa using hi
  subst this;exact⟨_,m10,λ_=>Jo (hrow1 λ_=>False)⟩
 .simp only[jf,relV];exact⟨_,_,rfl,⟨_,m10,YN hv⟩,_,_,rfl,⟨_,rfl,rfl⟩,rfl⟩
 rintro e w' ⟨u,rfl,as1,rs1,m2,hh,⟨q1,q2,q3,q4⟩,hkeep,hnew,hsame,hs',hv'⟩;obtain rfl:as1=[]:=List.eq_nil_of_length_eq_zero (by rw[hh.la];cases inp<;>rfl);obtain rfl:rs1=[(yX rs sel).map zp]:=by
  have h1:rs1.length=1:=by rw[hh.lr];cases inp<;>rfl
  obtain⟨r,rfl⟩:=List.length_eq_one_iff.1 h1;have:=hh.dr 0 r k rfl (by cases inp<;>rfl);have e0:(sgr inp k).nd=0:=by cases inp<;>rfl
  rw[e0]at this;simp[hR]at this;rw[this]
 have hkeepB:∀b∈B,w'.heap[b]? = w.heap[b]? :=hs'.j.2;have htr':Js w' k (yX xs sel) (yX rs sel) (yX qs sel):=(htr.congr (by rw[hB];exact hkeepB)).sel hs2;have hsb:∀b,b∈Hd.blocksL (yX qs sel).flatten->b∈B:=λb hb=>by
  obtain⟨i,_,h⟩:=jib hb;rw[<-hB];exact Jl h
 have hsn:(Hd.blocksL (yX qs sel).flatten).Nodup:=jgz (by rw[hB];exact hkn) hs1
 generalize hys:yX xs sel=ys at *;generalize hrs':yX rs sel=rs' at *;generalize hqs':yX qs sel=qs' at *;rw[jsa hk]at hnew hs' hv';obtain⟨p,hp0,hp1⟩:∃p,p=(if inp then 0 else 1)/\jM (if inp then[Abs.Obj.row k (rs'.map zp)]else[.gone,.row k (rs'.map zp)]) p = .row k (rs'.map zp):=by
  cases inp
  .exact ⟨1,rfl,rfl⟩
  .exact ⟨0,rfl,rfl⟩
 have hop:=hs'.obj p;rw[hp1]at hop;obtain⟨hd2,hm2,hok2⟩:=hop;have hpal:(jM (if inp then[Abs.Obj.row k (rs'.map zp)]else[.gone,.row k (rs'.map zp)]) p).alive=true:=by rw[hp1];rfl
 have hnew2:∀b,b∈hd2.blocks->b∈hd.blocks\/w.heap.size<=b:=λb hb=>(hnew b ⟨p,hd2,hpal,hm2,hb⟩).imp (λh=>YO ((mz1 b).1 h)) id;have hblk2:∀b,b∈hd2.blocks->b<w'.heap.size/\ ¬(O b\/b∈B):=λb hb=>hs'.blk p hd2 b hpal hm2 hb;have hT:jw w' true k ys (hd2.asT qs'.flatten):=jr2 hok2 htr';have hTb:∀b,b∈(hd2.asT qs'.flatten).blocks->b∈hd2.blocks\/b∈B:=λb hb=>by
  cases hd2 with
  |blk b' c n=>
   simp only[Hd.asT,Hd.blocks,List.mem_cons]at hb;rcases hb with rfl|hb
   .exact Or.inl (by simp[Hd.blocks])
   .exact Or.inr (hsb b hb)
  |_=>exact Or.inl hb
 have hTn:(hd2.asT qs'.flatten).blocks.Nodup:=by
  cases hd2 with
  |blk b' c n=>
   simp only[Hd.asT,Hd.blocks,List.nodup_cons];exact⟨λh=>(hblk2 b' (by simp[Hd.blocks])).2 (Or.inr (hsb b' h)),hsn⟩
  |none=>simp[Hd.asT,Hd.blocks]
  |tre=>exact hok2.elim
  |mp=>exact hok2.elim
 have hTh:∀z,hdr hd2 z->hdr (hd2.asT qs'.flatten) z:=λz hz=>by cases hd2<;>exact hz
 generalize hhT:hd2.asT qs'.flatten=hT2 at *;generalize hm3:((λi=>if i=p then some hT2 else if i=0 then some hd else none):jT)=m3;have m3p:m3 p=some hT2:=by rw[<-hm3];simp
 have m3s:∀i,i≠p->i≠0->m3 i=none:=λi h1 h2=>by rw[<-hm3];simp[h1,h2]
 have m30:p≠0->m3 0=some hd:=λh=>by rw[<-hm3];simp[Ne.symm h]
 have hobj3:(sgr inp (k+64)).objs [] [ys]=if inp then[.tre true k ys]else[.gone,.tre true k ys]:=jsb hk ys;have stp:jM ((sgr inp (k+64)).objs [] [ys]) p = .tre true k ys:=by rw[hobj3,hp0];cases inp<;>rfl
 have sts:∀i,i≠p->(jM ((sgr inp (k+64)).objs [] [ys]) i = .dead/\(i=0->False))\/(i=0/\jM ((sgr inp (k+64)).objs [] [ys]) i = .gone):=λi hi=>by
  rw[hobj3];cases inp with
  |true=>
   rw[hp0]at hi;exact Or.inl ⟨yD (by simp;simp at hi;omega),λh=>hi (by rw[h];rfl)⟩
  |false=>
   rw[hp0]at hi;by_cases h0:i=0
   .subst h0;exact Or.inr ⟨rfl,rfl⟩
   .exact Or.inl ⟨yD (by simp at hi⊢;omega),h0⟩
 have mz3:∀b,Mz m3 (jM ((sgr inp (k+64)).objs [] [ys])) b->b∈hT2.blocks:=λb=>by
  rintro⟨i,h,a1,a2,a3⟩;by_cases hi:i=p
  .subst hi;rw[m3p]at a2;cases a2;exact a3
  .rcases sts i hi with⟨h1,_⟩|⟨_,h1⟩<;>rw[h1]at a1<;>cases a1
 refine⟨u,rfl,[],[ys],m3,?_,⟨q1,q2,q3,q4⟩,λb hb hn=>hkeep b hb λh=>hn (hmz b (YO ((mz1 b).1 h))),λb hb=>?_,λi hi h hh'=>?_,?_,?_⟩
 .refine ⟨by cases inp<;>rfl,λi a h=>by simp at h,by cases inp<;>rfl,λj r k2 h1 h2=>?_⟩
  have e0:(sgr inp (k+64)).nd=0:=by cases inp<;>rfl
  have e2:(sgr inp (k+64)).ks=[k+64]:=by cases inp<;>rfl
  rw[e2]at h2;rw[e0];cases j with
  |zero=>
   simp at h1 h2;subst h1 h2;simp[hR]
  |succ j=>simp at h1
 .rcases hTb b (mz3 b hb)with h|h
  .exact (hnew2 b h).imp (hmz b) id
  .exact Or.inl (hmz b (hkb b h))
 .have:i=0:=by simpa using hi
  subst this;rw[hm]at hh';cases hh';cases inp with
  |false=>exact⟨hd,m30 (by rw[hp0];simp),hd.le_refl⟩
  |true=>
   have hp:p=0:=by rw[hp0];rfl
   subst hp;refine⟨hT2,m3p,?_⟩;obtain⟨h2,g1,g2⟩:=hsame 0 (by simp) _ m10;rw[hm2]at g1;cases g1;have g3:=g2.eq (Jo (hrow1 λ_=>False));rw[<-hhT,g3];cases hd with
   |none=>exact Or.inl rfl
   |blk=>simp[jw]at hok
   |mp=>simp[jw]at hok
   |tre f' b c n ks=>
    simp only[jw]at hok;obtain⟨rfl,_⟩:=hok;rcases hinp rfl with hf|hf
    .subst hf;exact Or.inr ⟨_,_,_,_,_,_,rfl,rfl⟩
    .subst hf;have z1:sel=[]:=List.eq_nil_iff_forall_not_mem.2 λi hi=>by have:=hs2 i hi;simp at this
     have z2:qs=[]:=List.eq_nil_of_length_eq_zero htr.join.2.2.2;subst z1 z2;have z3:ks=[]:=hkids;subst z3;subst hqs';cases f'
     .exact Or.inr ⟨_,_,_,_,_,_,rfl,rfl⟩
     .exact Or.inl rfl
 .refine ⟨hs'.j.1,hsto.jn,λi hi=>?_,λb hb=>Nat.lt_of_lt_of_le (hsto.old b hb) q4,λi h b a1 a2 a3=>?_,λi i' h h' b a1 a2 a3 a4 _ _=>?_,λi=>?_⟩
  .by_cases h1:i=p
   .rw [h1,stp]at hi;cases hi
   .rcases sts i h1 with⟨_,h2⟩|⟨_,h2⟩
    .exact m3s i h1 h2
    .rw [h2]at hi;cases hi
  .by_cases h1:i=p
   .subst h1;rw[m3p]at a2;cases a2;rcases hTb b a3 with h|h
    .have:=hblk2 b h;exact⟨this.1,λhO=>this.2 (Or.inl hO)⟩
    .have:=hblt b (hkb b h);exact⟨Nat.lt_of_lt_of_le this.1 q4,this.2⟩
   .rcases sts i h1 with⟨h2,_⟩|⟨_,h2⟩<;>rw[h2]at a1<;>cases a1
  .have one:∀j,(jM ((sgr inp (k+64)).objs [] [ys]) j).alive=true->j=p:=λj hj=>by
    apply Classical.byContradiction;intro h1;rcases sts j h1 with⟨h2,_⟩|⟨_,h2⟩<;>rw[h2]at hj<;>cases hj
   rw[one i a1,one i' a2]
  .by_cases h1:i=p
   .rw [h1,stp,m3p];exact⟨hT2,rfl,hT,hTn⟩
   .rcases sts i h1 with⟨h2,_⟩|⟨_,h2⟩<;>rw[h2]<;>trivial
 .cases inp with
  |true=>simpa[sgr,Sh.toV,relV,Sh.toVL,jf]using hv'
  |false=>
   have hp:p=1:=by rw[hp0];rfl
   subst hp;have hv':∃h,m2 1=some h/\hdr h u:=by simpa[sgr,Sh.toV,relV]using hv'
   obtain⟨h,a1,a2⟩:=hv';rw[hm2]at a1;cases a1;show relV w' _ m3 (.row 1) u;simp only[relV];exact⟨hT2,m3p,hTh u a2⟩
theorem joX:∀{xs ys:List (List A)},xs.length=ys.length-> ∀cs,YC xs cs=YC ys cs
 | [],[],_,_=>rfl
 | [],_::_,h,_=>by simp at h
 |_::_,[],h,_=>by simp at h
 |x::r,y::r',h,cs=>by
  have h:r.length=r'.length:=by simpa using h
  show je1 r.length cs=je1 r'.length cs;rw[h]
theorem je2{xs:List (List A)}{cs:List Int}{sel:List Nat}(h:YC xs cs=some sel):sel.Nodup/\(∀i∈sel,i<xs.length)/\ ∀k,ZS k xs cs=some (.top,[.sl k (yX xs sel)]):=by
 cases xs with
 |nil=>
  simp only[YC,Option.some.injEq]at h;subst h;exact⟨List.nodup_nil,λi hi=>(List.not_mem_nil hi).elim,λk=>rfl⟩
 |cons x r=>
  simp only[YC,je1]at h;split at h;rotate_left
  .cases h
  rename_i hc;have h:=Option.some.inj h;have hrow:∀k,ZS k (x::r) cs=some (.top,[.sl k ((pdq (ltO (Z5 (r.length+1) cs)) (Array.ofFn (n:=r.length+1) id) 0 (r.length+1) (Lib.bitLen (r.length+1)) true true).toList.map λi=>(x::r).getD i.val [])]):=λk=>by
   unfold ZS;simp only;rw[if_pos hc]
  generalize hd:(Array.ofFn (n:=r.length+1) id)=d at *;have hds:d.size=r.length+1:=by rw[<-hd];simp
  obtain⟨⟨p1,_,p3⟩,_⟩:=pdq_sorts (ltO (Z5 (r.length+1) cs)) hc.1 d 0 (r.length+1) (Lib.bitLen (r.length+1)) true true (Nat.zero_le _) (by omega) (Or.inl rfl);generalize pdq (ltO (Z5 (r.length+1) cs)) d 0 (r.length+1) (Lib.bitLen (r.length+1)) true true=D at *;have ex:∀(e:Array (_root_.Fin (r.length+1))),e.size=r.length+1->e.extract 0 (r.length+1)=e:=λe he=>by
   have:e.extract 0 e.size=e:=by simp
   rwa[he]at this
  rw[ex D (by omega),ex d hds]at p3;have hm:d.toList.map (λi=>i.val)=List.range (r.length+1):=by
   rw[<-hd];refine List.ext_getElem? λi=>?_;by_cases hi:i<r.length+1
   .rw [List.getElem?_map,Array.getElem?_toList,Array.getElem?_eq_getElem (by simpa using hi),List.getElem?_range hi];simp
   .rw [List.getElem?_eq_none (by simp at hi⊢;omega),List.getElem?_eq_none (by simp at hi⊢;omega)]
  have hp:(D.toList.map λi=>i.val).Perm (List.range (r.length+1)):=by rw[<-hm];exact p3.map _
  rw[h]at hp;refine⟨hp.nodup_iff.2 List.nodup_range,λi hi=>by have:=hp.mem_iff.1 hi;rw[List.mem_range]at this;exact this,λk=>?_⟩;rw[hrow k,<-h];unfold yX;rw[List.map_map];rfl
theorem jr7(rs:List (List Value))(sel:List Nat):yX (rs.map zp) sel=(yX rs sel).map zp:=by
 unfold yX;rw[List.map_map];refine List.map_congr_left λi _=>?_;simp only[Function.comp,List.getD_eq_getElem?_getD,List.getElem?_map];cases rs[i]? <;>rfl
theorem jgi{α β γ:Type}(f:α->β->γ)(ys:List β){z:γ} :∀(xs:List α)(i:Nat),(xs.flatMap λx=>ys.map λy=>f x y)[i]? = some z-> ∃(a b:Nat)(x:α)(y:β),xs[a]? = some x/\ys[b]? = some y/\i=a*ys.length+b/\z=f x y
 | [],i,h=>by simp at h
 |x::xs,i,h=>by
  rw[List.flatMap_cons]at h;by_cases hi:i<ys.length
  .rw [List.getElem?_append_left (by simpa using hi),List.getElem?_map]at h;obtain⟨y,h1,h2⟩:=Option.map_eq_some_iff.1 h;exact⟨0,i,x,y,rfl,h1,by simp,h2.symm⟩
  .rw [List.getElem?_append_right (by simp;omega),List.length_map]at h
   obtain⟨a,b,x',y,h1,h2,h3,h4⟩:=jgi f ys xs _ h;exact⟨a+1,b,x',y,by simpa using h1,h2,by rw[Nat.add_mul,Nat.one_mul];omega,h4⟩
theorem jbX{α β γ:Type}(f:α->β->γ)(ys:List β):∀xs:List α,(xs.flatMap λx=>ys.map λy=>f x y).length=xs.length*ys.length
 | []=>by simp
 |x::xs=>by rw[List.flatMap_cons,List.length_append,jbX f ys xs,List.length_map,List.length_cons,Nat.add_mul,Nat.one_mul];omega
theorem qP{α β γ:Type}(f:α->β->γ)(ys:List β):∀(xs:List α)(i j:Nat)(x:α)(y:β),xs[i]? = some x->ys[j]? = some y->(xs.flatMap λx=>ys.map λy=>f x y)[i*ys.length+j]? = some (f x y)
 | [],i,j,x,y,h,_=>by simp at h
 |a::xs,i,j,x,y,h,hy=>by
  have hj:=(List.getElem?_eq_some_iff.1 hy).1;rw[List.flatMap_cons];cases i with
  |zero=>simp at h;subst h;rw[Nat.zero_mul,Nat.zero_add,List.getElem?_append_left (by simpa using hj),List.getElem?_map,hy];rfl
  |succ i=>
   rw[List.getElem?_append_right (by simp[Nat.add_mul];omega)]
   have:(i+1)*ys.length+j-(ys.map λy=>f a y).length=i*ys.length+j:=by simp[Nat.add_mul];omega
   rw[this];exact qP f ys xs i j x y (by simpa using h) hy
theorem getD_some{α:Type}{l:List (List α)}{i:Nat}{x:List α}(h:l[i]? = some x):l.getD i []=x:=by rw[List.getD_eq_getElem?_getD,h];rfl
theorem getD_lt{α:Type}{l:List (List α)}{i:Nat}(h:i<l.length):l[i]? = some (l.getD i []):=by rw[List.getD_eq_getElem?_getD,List.getElem?_eq_getElem h];rfl
theorem jsQ{X:Ctx}{P:Program}{g:FuncId}{k:Nat}{w0:World}{B:List Nat}{xs:List (List A)}{rs:List (List Value)}{qs:List (List Hd)}(ht:Js w0 k xs rs qs)(hB:∀b∈Hd.blocksL qs.flatten,b∈B)(hN:∀b∈B,¬X.N b){outs:List Out}
  (hok:Qj X P (xs.flatMap λx=>xs.map λy=>(g,[A.agg x,A.agg y])) outs) (hv:∀o∈outs,∃c,o=(.val c,[])):Qj (X.keepB w0 B) P ((rs.map zp).flatMap λx=>(rs.map zp).map λy=>(g,[A.agg x,A.agg y])) outs:=by
 have hl:=ht.join.2.2.1;refine⟨?_,λi q o hq ho=>?_⟩
 .rw [hok.1,jbX,jbX,List.length_map,hl]
 .obtain ⟨a,b,x,y,h1,h2,h3,rfl⟩:=jgi (λx y=>(g,[A.agg x,A.agg y])) _ _ i hq;rw[List.getElem?_map]at h1 h2;obtain⟨rx,g1,rfl⟩:=Option.map_eq_some_iff.1 h1;obtain⟨ry,g2,rfl⟩:=Option.map_eq_some_iff.1 h2;have la:a<xs.length:=by rw[<-hl];exact(List.getElem?_eq_some_iff.1 g1).1
  have lb:b<xs.length:=by rw[<-hl];exact(List.getElem?_eq_some_iff.1 g2).1
  have hd:=qP (λx y=>(g,[A.agg x,A.agg y])) xs xs a b _ _ (getD_lt la) (getD_lt lb);rw[List.length_map,hl]at h3;rw[<-h3]at hd;obtain⟨c,rfl⟩:=hv o (List.mem_of_getElem? ho);have e1:=(ht.get la).2;have e2:=(ht.get lb).2;rw[getD_some g1]at e1;rw[getD_some g2]at e2;have hp:=hok.2 i _ _ hd ho;exact jjZ hp e1 e2 (λb hb=>hB b (Jl hb)) (λb hb=>hB b (Jl hb)) hN
theorem juj{X:Ctx}{P:Program}{f:FuncId}{k:Nat}(he:Enters P f)(hS:jsK P f k)(hk0:0<k)(hk64:Nat.blt k 64=true)
  (h0:∀(p:Option Addr)(cap:Nat)(fv:Value)(w:World),Calls P f #[.slice p 0 cap,fv] w λe w'=>e = .returned (.tuple #[])/\w'=w)
  {args:List V} {objs:List Abs.Obj} {qs:List (FuncId×List A)} {outs:List Out} {out:Out} (hq:jfk args objs=some qs) (hok:Qj X P qs outs) (h:jlW k args objs outs=some out):SOk X P f args objs (jwN k) out:=by
 unfold jlW at h;split at h;rotate_left
 .cases h
 rename_i g fin k' xs;split at h;rotate_left
 .cases h
 rename_i hkk;simp only[Bool.and_eq_true,Bool.or_eq_true,Bool.not_eq_true',List.isEmpty_iff]at hkk;obtain⟨hkk,hfin⟩:=hkk;have hkk:=Nat.eq_of_beq_eq_true hkk;subst hkk;obtain⟨cs,hcs,h⟩:=Option.bind_eq_some_iff.1 h;obtain⟨sel,hsel,rfl⟩:=Option.map_eq_some_iff.1 h;simp only[jfk,Option.some.injEq]at hq;subst hq;obtain⟨s1,s2,_⟩:=je2 hsel;refine jkC (inp:=true) (λ_=>hfin) he hk64 s1 s2 λw0 B rs qs ht _ hn hB hBN=>?_;have hl:=ht.join.2.2.1;have e1:YC (rs.map zp) cs=some sel:=by rw[<-hsel];exact joX (by simp[hl]) cs
 have e2:=(je2 e1).2.2 k';rw[jr7]at e2;refine jr9 he hS hk0 hk64 h0 (qs:=(rs.map zp).flatMap λx=>(rs.map zp).map λy=>(g,[A.agg x,A.agg y])) (outs:=outs) ?_ (jsQ ht hB hBN hok λo ho=>?_) ?_
 .simp [jgA,ZV]
 .obtain ⟨i,hi⟩:=List.mem_iff_getElem?.1 ho;obtain⟨c,_,rfl⟩:=(jbQ hcs).2 i o hi;exact⟨_,rfl⟩
 .simp only[jnA];rw[if_pos (by simp),hcs];exact e2
theorem jmR{α β:Type}(q:β->β->Bool)(f:α->β):∀(l:List α)(p:α),cpR q (f p) (l.map f)=(cpR (λa b=>q (f a) (f b)) p l).map f
 | [],_=>rfl
 |b::l,p=>by
  rw[List.map_cons,cpR,cpR,jmR q f l b];cases q (f b) (f p)<;>rfl
theorem jda{α β:Type}(q:β->β->Bool)(f:α->β):∀(l:List α),cpA q (l.map f)=(cpA (λa b=>q (f a) (f b)) l).map f
 | []=>rfl
 |a::l=>by rw[List.map_cons,cpA,jmR,cpA];rfl
theorem jhw{α:Type}(q:α->α->Bool):∀(l:List α)(p:α),(cpR q p l).Sublist l
 | [],_=>List.Sublist.refl _
 |b::l,p=>by
  rw[cpR];cases q b p
  .exact (jhw q l b).cons_cons b
  .exact (jhw q l b).cons b
theorem js4{α:Type}(q:α->α->Bool):∀(l:List α),(cpA q l).Sublist l
 | []=>List.Sublist.refl _
 |a::l=>(jhw q l a).cons_cons a
theorem jfR{α:Type}{q q':α->α->Bool} :∀(l:List α)(p:α),(∀a∈p::l,∀b∈p::l,q a b=q' a b)->cpR q p l=cpR q' p l
 | [],_,_=>rfl
 |b::l,p,h=>by
  rw[cpR,cpR,h b (by simp) p (by simp),jfR l b λx hx y hy=>h x (List.mem_cons_of_mem _ hx) y (List.mem_cons_of_mem _ hy)]
theorem jfQ{α:Type}{q q':α->α->Bool} :∀(l:List α),(∀a∈l,∀b∈l,q a b=q' a b)->cpA q l=cpA q' l
 | [],_=>rfl
 |a::l,h=>by rw[cpA,cpA,jfR l a h]
def juz(P:Program)(f g:FuncId)(k:Nat):Prop:=∀(X:Ctx)(raws:List (List A))(q:List A->List A->Bool),(∀x∈raws,x.length=k)->(∀x∈raws,x.all jQ=true)->raws.length<=1000000->(∀x∈raws,∀y∈raws,yS X P g [A.agg x,A.agg y] (.val (.bool (q x y)),[]))->SOk X P f [.row 0,.fn g []] [.row k raws] (sgr false k) (.top,[.sl k (cpA q raws)])
theorem jjB{α:Type}(l:List (List α)):(List.range l.length).map (λi=>l.getD i [])=l:=by
 refine List.ext_getElem? λi=>?_;by_cases hi:i<l.length
 .rw [List.getElem?_map,List.getElem?_range hi];exact(getD_lt hi).symm
 .rw [List.getElem?_eq_none (by simp at hi⊢;omega),List.getElem?_eq_none (by omega)]
open Classical in
theorem jsX{X:Ctx}{P:Program}{f g0:FuncId}{k:Nat}(he:Enters P f)(hk64:Nat.blt k 64=true)(hR:juz P f g0 k)
  {args:List V} {objs:List Abs.Obj} {qs:List (FuncId×List A)} {outs:List Out} {out:Out} (hq:jfk args objs=some qs) (hok:Qj X P qs outs) (h:jk5 k g0 args objs outs=some out):SOk X P f args objs (jwM k) out:=by
 unfold jk5 at h;split at h;rotate_left
 .cases h
 rename_i g k' xs;split at h;rotate_left
 .cases h
 rename_i hc;have h:=Option.some.inj h;subst h;have hsp:=hc.2.2.2.choose_spec;generalize hc.2.2.2.choose=q at hsp⊢;obtain⟨⟨rfl,rfl⟩,hcol,hlen,_⟩:=hc;subst hsp;simp only[jfk,Option.some.injEq]at hq;subst hq;have hsel:cpA q xs=yX xs (cpA (λi j=>q (xs.getD i []) (xs.getD j [])) (List.range xs.length)):=by
  have:=jda q (λi=>xs.getD i []) (List.range xs.length);rw[jjB]at this;exact this
 generalize hS:cpA (λi j=>q (xs.getD i []) (xs.getD j [])) (List.range xs.length)=sel at hsel;have hsub:sel.Sublist (List.range xs.length):=by rw[<-hS];exact js4 _ _
 rw[hsel];refine jkC (inp:=false) (λe=>by cases e) he hk64 (hsub.nodup List.nodup_range) (λi hi=>List.mem_range.1 (hsub.subset hi)) λw0 B rs qs ht h1c hn hB hBN=>?_;obtain⟨_,j2,hl,_⟩:=ht.join;have hpure:∀i j,i<xs.length->j<xs.length->yS X P g [A.agg (xs.getD i []),A.agg (xs.getD j [])] (.val (.bool (q (xs.getD i []) (xs.getD j []))),[]):=λi j hi hj=>by
  have e1:=qP (λx y=>(g,[A.agg x,A.agg y])) xs xs i j _ _ (getD_lt hi) (getD_lt hj);have e2:=qP (λx y=>((.val (.bool (q x y)),[]):Out)) xs xs i j _ _ (getD_lt hi) (getD_lt hj);exact hok.2 _ _ _ e1 e2
 let q':List A->List A->Bool:=λa b=>decide (∃i j,i<xs.length/\j<xs.length/\zp (rs.getD i [])=a/\zp (rs.getD j [])=b/\q (xs.getD i []) (xs.getD j [])=true)
 have rinj:∀{a b:List Value},zp a=zp b->a=b:=λ{a b} e=>by
  have h1:=jh3 (w:=w0) (O:=λ_=>False) a;rw[e]at h1;exact ja8 h1
 have hq':∀i j,i<xs.length->j<xs.length->q' (zp (rs.getD i [])) (zp (rs.getD j []))=q (xs.getD i []) (xs.getD j []):=λi j hi hj=>by
  show decide _=_;cases hb:q (xs.getD i []) (xs.getD j [])with
  |true=>exact decide_eq_true ⟨i,j,hi,hj,rfl,rfl,hb⟩
  |false=>
   refine decide_eq_false ?_;rintro⟨i',j',hi',hj',e1,e2,e3⟩;rw[jns ht hn hcol hi' hi (rinj e1),jns ht hn hcol hj' hj (rinj e2),hb]at e3;cases e3
 have mem:∀x∈rs.map zp,∃i,i<xs.length/\x=zp (rs.getD i []):=λx hx=>by
  obtain⟨r,hr,rfl⟩:=List.mem_map.1 hx;obtain⟨i,hi⟩:=List.mem_iff_getElem?.1 hr;exact⟨i,by rw[<-hl];exact(List.getElem?_eq_some_iff.1 hi).1,by rw[getD_some hi]⟩
 have key:=hR (X.keepB w0 B) (rs.map zp) q' (λx hx=>by
   obtain⟨i,hi,rfl⟩:=mem x hx;have h1:=ht.get hi;have h2:=qo h1.2;unfold zp;rw[List.length_map,h2.2,<-h2.1];exact h1.1) (λx hx=>by
   obtain⟨r,hr,rfl⟩:=List.mem_map.1 hx;refine List.all_eq_true.2 λa ha=>?_;obtain⟨v,hv,rfl⟩:=List.mem_map.1 ha;exact h1c r hr v hv) (by rw[List.length_map,hl];exact hlen) (λx hx y hy=>by
   obtain⟨i,hi,rfl⟩:=mem x hx;obtain⟨j,hj,rfl⟩:=mem y hy;rw[hq' i j hi hj];exact jjZ (hpure i j hi hj) (ht.get hi).2 (ht.get hj).2 (λb hb=>hB b (Jl hb)) (λb hb=>hB b (Jl hb)) hBN)
 have e:cpA q' (rs.map zp)=(yX rs sel).map zp:=by
  have e1:rs.map zp=(List.range xs.length).map λi=>zp (rs.getD i []):=by
   rw[<-hl]
   conv=>lhs;rw[<-jjB rs]
   rw[List.map_map];rfl
  rw[e1,jda,<-hS,jfQ (List.range xs.length) λi hi j hj=>hq' i j (List.mem_range.1 hi) (List.mem_range.1 hj)];unfold yX;rw[List.map_map];rfl
 rw[e]at key;exact key
end
end Go.Proofs.YtkkcepmpbackoaaGreatDoor.Abs
