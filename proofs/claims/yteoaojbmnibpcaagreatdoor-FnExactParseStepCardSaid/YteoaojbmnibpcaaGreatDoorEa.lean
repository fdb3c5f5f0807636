/- Ea -/
import Derived.WalkKit
import Derived.Maps.RangeRun
import Derived.LoopN
import Derived.Still
import Derived.Lib.Strings
import Derived.MapKept
namespace Go.Proofs.YteoaojbmnibpcaaGreatDoor.Abs
open Go Go.RowKit
set_option linter.unusedSimpArgs false
set_option linter.unusedVariables false
abbrev Xk:=List (Nat × Nat)
abbrev Xi:=List Int
abbrev Xh:=List Value
abbrev Xf:=List Nat
abbrev Xb:=List UInt8
abbrev Xa:=List Xb
def Quiet(w w':World):Prop:=w'.output=w.output/\True
theorem Quiet.refl(w:World):Quiet w w:=⟨rfl,trivial⟩
theorem Quiet.trans{a b c:World}(k:Quiet b c)(h:Quiet a b):Quiet a c:=⟨k.1.trans h.1,trivial⟩
theorem Quiet.step(w:World):Quiet w { w with drawn:=w.drawn+1 } :=⟨rfl,trivial⟩
structure Below(B:Nat)(w w':World):Prop where
 os:w'.os=w.os
 tape:w'.tape=w.tape
 output:Quiet w w'
 size:w.heap.size<=w'.heap.size
 block:∀k,k<B->w'.heap[k]? = w.heap[k]?
theorem Below.kit{B:Nat}{w w':World}(h:Below B w w'):RowKit.Below B w w':=⟨h.os,h.tape,h.output.1,h.size,h.block⟩
theorem Below.refl(B:Nat)(w:World):Below B w w:=⟨rfl,rfl,Quiet.refl w,Nat.le_refl _,λ_ _=>rfl⟩
theorem Below.drew{B:Nat}{a w:World}(h:Below B a w):Below B a w.drew:=⟨h.os,h.tape,⟨h.output.1,trivial⟩,h.size,h.block⟩
theorem Below.alloc{B:Nat}{a w:World}(h:Below B a w)(hB:B<=w.heap.size)(o:Go.Obj):Below B a (w.alloc o):=
 have k:=h.kit.alloc hB o
 ⟨k.os,k.tape,⟨k.output,h.output.2⟩,k.size,k.block⟩
inductive A where
 |top
 |val (v:Value)
 |sl (k:Nat) (xs:List (List A))
 |agg (cs:List A)
 |elt (cs:List A) (off:Nat)
 |fn (f:FuncId) (caps:List A)
 |tup (cs:List A)
 |mp (xs:List (List A))
 deriving Inhabited
abbrev Xl:=Option A
abbrev Xd:=List A
abbrev Xc:=List Xd
inductive V where
 |top
 |nil (k:Nat)
 |d (a:A)
 |agg (cs:List V)
 |tup (cs:List V)
 |fn (f:FuncId) (caps:List V)
 |ptr (id off:Nat)
 |row (id:Nat)
 |rptr (id i k j:Nat)
 |win (id k off n:Nat)
 |ub (n:Nat) (neg:Bool)
 |sub (id i k j:Nat)
 deriving Inhabited
abbrev Xj:=List V
inductive Obj where
 |dead
 |gone
 |box (cs:Xj)
 |row (k:Nat) (xs:Xc)
 |fro (k:Nat) (xs:Xc)
 |tre (fin:Bool) (k:Nat) (xs:Xc)
 |map (xs:Xc)
 deriving Inhabited
inductive Hd where
 |none
 |blk (b cap len:Nat)
 |tre (fin:Bool) (b cap len:Nat) (ks:List Hd)
 |mp (b:Nat)
def hdr:Hd->Value->Prop
 |.none,v=>∃a,v = .slice a 0 0
 |.blk b cap n,v=>v = .slice (some ⟨b,0,Option.none⟩) n cap
 |.tre _ b cap n _,v=>v = .slice (some ⟨b,0,Option.none⟩) n cap
 |.mp b,v=>v = .map (some b)
def Hd.len:Hd->Nat
 |.none=>0
 |.blk _ _ n=>n
 |.tre _ _ _ n _=>n
 |.mp _=>0
def Hd.root:Hd->Option Nat
 |.none=>Option.none
 |.blk b _ _=>some b
 |.tre _ b _ _ _=>some b
 |.mp b=>some b
mutual
def Hd.blocks:Hd->Xf
 |.none=>[]
 |.blk b _ _=>[b]
 |.tre _ b _ _ ks=>b::Hd.blocksL ks
 |.mp b=>[b]
def Hd.blocksL:List Hd->Xf
 | []=>[]
 |h::hs=>h.blocks++Hd.blocksL hs
end
def Hd.le(h h':Hd):Prop:=h'=h\/ ∃b c n ks f ks',h = .tre false b c n ks/\h' = .tre f b c n ks'
def Hd.fixed:Hd->Bool
 |.tre f _ _ _ _=>f
 |_=>true
theorem Hd.le.eq{h h':Hd}(l:h.le h')(k:h.fixed=true):h'=h:=by
 rcases l with rfl|⟨b,c,n,ks,f,ks',rfl,rfl⟩
 .rfl
 .cases k
theorem Hd.le_refl(h:Hd):h.le h:=Or.inl rfl
theorem Hd.le.trans{a b c:Hd}(h:a.le b)(k:b.le c):a.le c:=by
 rcases h with rfl|⟨b0,c0,n,ks,f,ks',rfl,rfl⟩
 .exact k
 .rcases k with rfl|⟨b1,c1,n1,ks1,f1,ks1',e,rfl⟩
  .exact Or.inr ⟨_,_,_,_,_,_,rfl,rfl⟩
  .cases e;exact Or.inr ⟨_,_,_,_,_,_,rfl,rfl⟩
theorem Hd.le.hdr{h h':Hd}(l:h.le h'){v:Value}(k:hdr h v):hdr h' v:=by
 rcases l with rfl|⟨b0,c0,n,ks,f,ks',rfl,rfl⟩
 .exact k
 .exact k
theorem Hd.le.root{h h':Hd}(l:h.le h'):h'.root=h.root:=by
 rcases l with rfl|⟨b0,c0,n,ks,f,ks',rfl,rfl⟩<;>rfl
theorem Hd.le.blk{b c n:Nat}{h:Hd}(l:(Hd.blk b c n).le h):h = .blk b c n:=by
 rcases l with rfl|⟨b0,c0,n,ks,f,ks',e,rfl⟩
 .rfl
 .cases e
def Hd.isSl:Hd->Bool
 |.mp _=>false
 |_=>true
def Hd.freeze:Hd->Hd
 |.tre _ b c n ks=>.tre true b c n ks
 |h=>h
theorem Hd.le_freeze(h:Hd):h.le h.freeze:=by
 cases h with
 |none=>exact Or.inl rfl
 |blk=>exact Or.inl rfl
 |mp=>exact Or.inl rfl
 |tre f b c n ks=>
  cases f with
  |true=>exact Or.inl rfl
  |false=>exact Or.inr ⟨_,_,_,_,_,_,rfl,rfl⟩
theorem Hd.freeze_blocks(h:Hd):h.freeze.blocks=h.blocks:=by cases h<;>simp[Hd.freeze,Hd.blocks]
theorem Hd.freeze_eq{h:Hd}(e:h.fixed=true):h.freeze=h:=by
 cases h with
 |none=>rfl
 |blk=>rfl
 |mp=>rfl
 |tre f b c n ks=>simp only[Hd.fixed]at e;subst e;rfl
theorem Hd.root_mem{h:Hd}{b:Nat}(e:h.root=some b):b∈h.blocks:=by
 cases h with
 |none=>cases e
 |blk=>cases e;simp[Hd.blocks]
 |tre=>cases e;simp[Hd.blocks]
 |mp=>cases e;simp[Hd.blocks]
def y0:Value->Option (Option IntKind)
 |.string _=>some none
 |.int k _=>some (some k)
 |_=>none
structure MapFine(es:List MapEntry)(clock:Nat):Prop where
 sort:∃ks,∀e∈es,y0 e.key=some ks
 keys:(es.map (·.key)).Nodup
 borns:(es.map (·.born)).Nodup
 old:∀e∈es,e.born<clock
theorem MapFine.nil(c:Nat):MapFine [] c:=⟨⟨none,λe h=>by cases h⟩,List.nodup_nil,List.nodup_nil,λe h=>by cases h⟩
section
variable(w:World)(O:Nat->Prop)
mutual
def rel:A->Value->Prop
 |.top,_=>True
 |.val x,v=>v=x
 |.sl k xs,v=>∃a cap,v = .slice a xs.length cap/\xs.length<=cap/\cap<=9223372036854775807/\
   (xs=[]\/ ∃b off,a=some ⟨b,off,none⟩/\b<w.heap.size/\ ¬O b/\jR k b off xs)
 |.agg cs,v=>∃vs:Xh,v = .agg vs.toArray/\jm cs vs
 |.elt cs off,v=>∃b o,v = .pointer (some ⟨b,o+off,none⟩)/\b<w.heap.size/\ ¬O b/\kJ b o cs
 |.fn f caps,v=>∃vs:Xh,v = .func (.func f) #[] vs.toArray/\jm caps vs
 |.tup cs,v=>∃vs:Xh,v = .tuple vs.toArray/\jm cs vs
 |.mp xs,v=>(xs=[]/\v = .map none)\/ ∃b es clock,v = .map (some b)/\b<w.heap.size/\ ¬O b/\w.heap[b]? = some (.map es clock)/\MapFine es.toList clock/\jT xs es.toList
def jT:Xc->List MapEntry->Prop
 | [],es=>es=[]
 |x::xs,es=>∃e p q,es=p++e::q/\jm x [e.key,e.val]/\jT xs (p++q)
def jm:Xd->Xh->Prop
 | [],vs=>vs=[]
 |c::cs,vs=>∃v r,vs=v::r/\rel c v/\jm cs r
def kJ(b off:Nat):Xd->Prop
 | []=>True
 |c::cs=>(∃v,w.cell? ⟨b,off,none⟩=some v/\v.oneCell'=true/\rel c v)/\kJ b (off+1) cs
def jR(k b off:Nat):Xc->Prop
 | []=>True
 |x::xs=>x.length=k/\kJ b off x/\jR k b (off+k) xs
end
end
structure MonoW(w:World)(O:Nat->Prop)(w':World)(O':Nat->Prop):Prop where
 size:w.heap.size<=w'.heap.size
 keep:∀b:Nat,b<w.heap.size-> ¬O b->w'.heap[b]? = w.heap[b]?
 own:∀b:Nat,b<w.heap.size-> ¬O b-> ¬O' b
theorem MonoW.refl(w:World)(O:Nat->Prop):MonoW w O w O:=⟨Nat.le_refl _,λ_ _ _=>rfl,λ_ _ h=>h⟩
theorem MonoW.sub{w:World}{O O':Nat->Prop}(h:∀b,O' b->O b):MonoW w O w O':=⟨Nat.le_refl _,λ_ _ _=>rfl,λb _ hn ho=>hn (h b ho)⟩
theorem MonoW.cell{w w':World}{O O':Nat->Prop}(h:MonoW w O w' O'){b off:Nat}(hb:b<w.heap.size)(hO:¬O b):w'.cell? ⟨b,off,none⟩=w.cell? ⟨b,off,none⟩:=by
 unfold World.cell?
 simp only[h.keep b hb hO]
section
variable{w:World}{O:Nat->Prop}{w':World}{O':Nat->Prop}
mutual
theorem jU(h:MonoW w O w' O'):∀(a:A)(v:Value),rel w O a v->rel w' O' a v
 |.top,_,_=>by simp[rel]
 |.val x,v,hr=>by simpa[rel]using hr
 |.sl k xs,v,hr=>by
  simp only[rel]at hr⊢;obtain⟨a,cap,h1,h2,h3,h4⟩:=hr;refine⟨a,cap,h1,h2,h3,?_⟩;rcases h4 with h4|⟨b,off,h5,h6,h7,h8⟩
  .exact Or.inl h4
  .exact Or.inr ⟨b,off,h5,Nat.lt_of_lt_of_le h6 h.size,h.own b h6 h7,QE h k b off xs h6 h7 h8⟩
 |.agg cs,v,hr=>by
  simp only[rel]at hr⊢;obtain⟨vs,h1,h2⟩:=hr;exact⟨vs,h1,jF h cs vs h2⟩
 |.elt cs off,v,hr=>by
  simp only[rel]at hr⊢;obtain⟨b,o,h1,h2,h3,h4⟩:=hr;exact⟨b,o,h1,Nat.lt_of_lt_of_le h2 h.size,h.own b h2 h3,JI h b o cs h2 h3 h4⟩
 |.fn f caps,v,hr=>by
  simp only[rel]at hr⊢;obtain⟨vs,h1,h2⟩:=hr;exact⟨vs,h1,jF h caps vs h2⟩
 |.tup cs,v,hr=>by
  simp only[rel]at hr⊢;obtain⟨vs,h1,h2⟩:=hr;exact⟨vs,h1,jF h cs vs h2⟩
 |.mp xs,v,hr=>by
  simp only[rel]at hr⊢;rcases hr with hr|⟨b,es,c,h1,h2,h3,h4,h5⟩
  .exact Or.inl hr
  .exact Or.inr ⟨b,es,c,h1,Nat.lt_of_lt_of_le h2 h.size,h.own b h2 h3,by rw[h.keep b h2 h3];exact h4,h5.1,zt h xs _ h5.2⟩
theorem zt(h:MonoW w O w' O'):∀(xs:Xc)(es:List MapEntry),jT w O xs es->jT w' O' xs es
 | [],es,hr=>by simpa[jT]using hr
 |x::xs,es,hr=>by
  simp only[jT]at hr⊢;obtain⟨e,p,q,h1,h2,h3⟩:=hr;exact⟨e,p,q,h1,jF h x _ h2,zt h xs _ h3⟩
theorem jF(h:MonoW w O w' O'):∀(cs:Xd)(vs:Xh),jm w O cs vs->jm w' O' cs vs
 | [],vs,hr=>by simpa[jm]using hr
 |c::cs,vs,hr=>by
  simp only[jm]at hr⊢;obtain⟨v,r,h1,h2,h3⟩:=hr;exact⟨v,r,h1,jU h c v h2,jF h cs r h3⟩
theorem JI(h:MonoW w O w' O')(b off:Nat):∀(cs:Xd),b<w.heap.size-> ¬O b->kJ w O b off cs->kJ w' O' b off cs
 | [],_,_,_=>by simp[kJ]
 |c::cs,hb,hO,hr=>by
  simp only[kJ]at hr⊢;obtain⟨⟨v,h1,h0,h2⟩,h3⟩:=hr;exact⟨⟨v,by rw[h.cell hb hO];exact h1,h0,jU h c v h2⟩,JI h b (off+1) cs hb hO h3⟩
theorem QE(h:MonoW w O w' O')(k b off:Nat):∀(xs:Xc),b<w.heap.size-> ¬O b->jR w O k b off xs->jR w' O' k b off xs
 | [],_,_,_=>by simp[jR]
 |x::xs,hb,hO,hr=>by
  simp only[jR]at hr⊢;obtain⟨h1,h2,h3⟩:=hr;exact⟨h1,JI h b off x hb hO h2,QE h k b (off+k) xs hb hO h3⟩
end
theorem Zm:∀{cs:Xd}{vs:Xh}{i:Nat}{c:A},jm w O cs vs->cs[i]? = some c-> ∃v,vs[i]? = some v/\rel w O c v
 | [],_,_,_,_,h=>by simp at h
 |x::cs,vs,i,c,hr,h=>by
  simp only[jm]at hr;obtain⟨v,r,rfl,h2,h3⟩:=hr;cases i with
  |zero=>simp at h;subst h;exact⟨v,by simp,h2⟩
  |succ i=>simp at h;obtain⟨u,h4,h5⟩:=Zm h3 h;exact⟨u,by simpa using h4,h5⟩
theorem jy:∀{cs:Xd}{vs:Xh},jm w O cs vs->vs.length=cs.length
 | [],_,h=>by simp only[jm]at h;simp[h]
 |x::cs,vs,hr=>by
  simp only[jm]at hr;obtain⟨v,r,rfl,_,h3⟩:=hr;simp[jy h3]
theorem kH:∀{cs:Xd}{vs:Xh}{ds:Xd}{us:Xh},jm w O cs vs->jm w O ds us->jm w O (cs++ds) (vs++us)
 | [],vs,ds,us,h,k=>by simp only[jm]at h;simpa[h]using k
 |c::cs,vs,ds,us,h,k=>by
  simp only[jm]at h;obtain⟨v,r,rfl,h2,h3⟩:=h;simp only[List.cons_append,jm];exact⟨v,r++us,rfl,h2,kH h3 k⟩
theorem qN:∀{cs:Xd}{vs:Xh}(n:Nat),jm w O cs vs->jm w O (cs.drop n) (vs.drop n)
 |cs,vs,0,h=>by simpa using h
 | [],vs,n+1,h=>by simp only[jm]at h;subst h;simp[jm]
 |c::cs,vs,n+1,h=>by
  simp only[jm]at h;obtain⟨v,r,rfl,_,h3⟩:=h;simpa using qN n h3
theorem yk:∀{cs:Xd}{vs:Xh}(n:Nat),jm w O cs vs->jm w O (cs.take n) (vs.take n)
 |cs,vs,0,h=>by simp[jm]
 | [],vs,n+1,h=>by simp only[jm]at h;subst h;simp[jm]
 |c::cs,vs,n+1,h=>by
  simp only[jm]at h;obtain⟨v,r,rfl,h2,h3⟩:=h;simp only[List.take_succ_cons,jm];exact⟨v,_,rfl,h2,yk n h3⟩
def over{α:Type}(cs:List α)(off:Nat)(ds:List α):List α:=cs.take off++ds++cs.drop (off+ds.length)
theorem ZO{cs ds:Xd}{vs us:Xh}{off:Nat}(h:jm w O cs vs)(k:jm w O ds us):jm w O (over cs off ds) (over vs off us):=by
 unfold over;rw[<-jy k];exact kH (kH (yk off h) k) (qN _ h)
theorem jvf{w:World}{b off:Nat}{v:Value}(h:w.cell? ⟨b,off,none⟩=some v):b<w.heap.size:=by
 unfold World.cell? at h;cases hb:w.heap[b]? with
 |none=>simp[hb]at h
 |some o=>exact(Array.getElem?_eq_some_iff.1 hb).1
end
def Reads(w:World)(b off:Nat)(vs:Xh):Prop:=∀j v,vs[j]? = some v->w.cell? ⟨b,off+j,none⟩=some v
def jk(vs:Xh):Prop:=∀v∈vs,v.oneCell'=true
section
variable{w:World}{O:Nat->Prop}
theorem zK:∀{cs:Xd}{b off:Nat},kJ w O b off cs-> ∃vs,jm w O cs vs/\Reads w b off vs/\jk vs
 | [],b,off,_=>⟨[],by simp[jm],λj v h=>by simp at h,λv h=>by cases h⟩
 |c::cs,b,off,h=>by
  simp only[kJ]at h;obtain⟨⟨v,h1,h0,h2⟩,h3⟩:=h;obtain⟨vs,h4,h5,h6⟩:=zK h3;refine⟨v::vs,?_,λj u hj=>?_,λu hu=>?_⟩
  .simp only[jm];exact⟨v,vs,rfl,h2,h4⟩
  .cases j with
   |zero=>simp at hj;subst hj;exact h1
   |succ j=>simp at hj;have:=h5 j u hj;rwa[show off+1+j=off+(j+1) by omega]at this
  .rcases List.mem_cons.1 hu with rfl|hu
   .exact h0
   .exact h6 u hu
theorem yp:∀{cs:Xd}{vs:Xh}{b off:Nat},jm w O cs vs->Reads w b off vs->jk vs->kJ w O b off cs
 | [],_,_,_,_,_,_=>by simp[kJ]
 |c::cs,vs,b,off,h,hr,ho=>by
  simp only[jm]at h;obtain⟨v,r,rfl,h2,h3⟩:=h;simp only[kJ];refine⟨⟨v,by simpa using hr 0 v (by simp),ho v (by simp),h2⟩,yp h3 (λj u hj=>?_) λu hu=>ho u (by simp[hu])⟩;have:=hr (j+1) u (by simpa using hj);rwa[show off+(j+1)=off+1+j by omega]at this
theorem Reads.drop{b off:Nat}{vs:Xh}(h:Reads w b off vs)(n:Nat):Reads w b (off+n) (vs.drop n):=λj v hj=>by
 have:=h (n+j) v (by simpa using hj);rwa[show off+(n+j)=off+n+j by omega]at this
theorem Reads.take{b off:Nat}{vs:Xh}(h:Reads w b off vs)(n:Nat):Reads w b off (vs.take n):=λj v hj=>by
 have:j<n:=by
  have:=(List.getElem?_eq_some_iff.1 hj).1;simp at this;omega
 exact h j v (by simpa[List.getElem?_take,this]using hj)
theorem Reads.block{b:Nat}{c:Array Value}{T:TypeId}{fz:Nat×Nat}(h:w.heap[b]? = some (.cells c T fz)):Reads w b 0 c.toList:=λj v hj=>by
 simp only[World.cell?,h,Nat.zero_add];simpa using hj
theorem jk.take{vs:Xh}(h:jk vs)(n:Nat):jk (vs.take n):=λv hv=>h v (List.mem_of_mem_take hv)
theorem jk.drop{vs:Xh}(h:jk vs)(n:Nat):jk (vs.drop n):=λv hv=>h v (List.mem_of_mem_drop hv)
theorem jk.append{vs us:Xh}(h:jk vs)(k:jk us):jk (vs++us):=λv hv=>(List.mem_append.1 hv).elim (h v) (k v)
theorem jk.over{vs us:Xh}(h:jk vs)(k:jk us)(n:Nat):jk (over vs n us):=((h.take _).append k).append (h.drop _)
theorem JB{k b:Nat} :∀{xs:Xc}{off i:Nat}{x:Xd},jR w O k b off xs->xs[i]? = some x->x.length=k/\kJ w O b (off+i*k) x
 | [],off,i,x,_,h=>by simp at h
 |y::xs,off,i,x,hr,h=>by
  simp only[jR]at hr;obtain⟨h1,h2,h3⟩:=hr;cases i with
  |zero=>simp at h;subst h;exact⟨h1,by simpa using h2⟩
  |succ i=>
   simp at h;have:=JB h3 h;refine⟨this.1,?_⟩;rw[show off+(i+1)*k=off+k+i*k by rw[Nat.add_mul];omega];exact this.2
theorem qH{k b:Nat} :∀{xs:Xc}{off:Nat}(n:Nat),jR w O k b off xs->n<=xs.length->jR w O k b (off+n*k) (xs.drop n)
 |xs,off,0,h,_=>by simpa using h
 | [],off,n+1,_,hn=>by simp at hn
 |x::xs,off,n+1,h,hn=>by
  simp only[jR]at h;have:=qH n h.2.2 (by simpa using hn);rw[show off+(n+1)*k=off+k+n*k by rw[Nat.add_mul];omega];simpa using this
theorem qI{k b:Nat} :∀{xs:Xc}{off:Nat}(n:Nat),jR w O k b off xs->jR w O k b off (xs.take n)
 |xs,off,0,_=>by simp[jR]
 | [],off,n+1,_=>by simp[jR]
 |x::xs,off,n+1,h=>by
  simp only[jR]at h;simp only[List.take_succ_cons,jR];exact⟨h.1,h.2.1,qI n h.2.2⟩
theorem zS{k b:Nat} :∀{xs:Xc}{vs:Xh}{off:Nat},(∀x∈xs,x.length=k)->jm w O xs.flatten vs->Reads w b off vs->jk vs->jR w O k b off xs
 | [],_,_,_,_,_,_=>by simp[jR]
 |x::xs,vs,off,hk,h,hr,ho=>by
  simp only[jR];have hx:=hk x (by simp);have h1:jm w O x (vs.take k):=by
   have:=yk k h;rw[List.flatten_cons,<-hx,List.take_left' rfl]at this;rw[<-hx];exact this
  have h2:jm w O xs.flatten (vs.drop k):=by
   have:=qN k h;rw[List.flatten_cons,<-hx,List.drop_left' rfl]at this;rw[<-hx];exact this
  exact⟨hx,yp h1 (hr.take k) (ho.take k),zS (λy hy=>hk y (by simp[hy])) h2 (hr.drop k) (ho.drop k)⟩
theorem Kl{k b:Nat} :∀{l:Xc}{off:Nat},jR w O k b off l-> ∃vs,jm w O l.flatten vs/\Reads w b off vs/\jk vs/\ ∀y∈l,y.length=k
 | [],off,_=>⟨[],by simp[jm],λj v hj=>by simp at hj,(λv h=>by cases h),by simp⟩
 |y::l,off,hr=>by
  simp only[jR]at hr;obtain⟨g1,g2,g3⟩:=hr;obtain⟨vs,g4,g5,g0⟩:=zK g2;obtain⟨us,g6,g7,g9,g8⟩:=Kl g3;refine⟨vs++us,by rw[List.flatten_cons];exact kH g4 g6,?_,g0.append g9,?_⟩
  .intro j u hj;have hl:=jy g4;by_cases hjv:j<vs.length
   .rw [List.getElem?_append_left hjv]at hj;exact g5 j u hj
   .rw [List.getElem?_append_right (by omega)]at hj;have:=g7 _ u hj;rwa[show off+k+(j-vs.length)=off+j by omega]at this
  .intro z hz;rcases List.mem_cons.1 hz with rfl|hz
   .exact g1
   .exact g8 z hz
theorem zx{α:Type}{k:Nat} :∀{xs:List (List α)},(∀x∈xs,x.length=k)->xs.flatten.length=xs.length*k
 | [],_=>by simp
 |x::xs,h=>by
  rw[List.flatten_cons,List.length_append,h x (by simp),zx λy hy=>h y (by simp[hy]),List.length_cons,Nat.add_mul];omega
end
abbrev jG:=Nat->Option Hd
def JP(m m':jG):Prop:=∀id h,m id=some h-> ∃h',m' id=some h'/\h.le h'
theorem JP.refl(m:jG):JP m m:=λ_ h e=>⟨h,e,h.le_refl⟩
theorem JP.of{m m':jG}(h:∀id h,m id=some h->m' id=some h):JP m m':=λid hd e=>⟨hd,h id hd e,hd.le_refl⟩
theorem JP.trans{a b c:jG}(h:JP a b)(k:JP b c):JP a c:=λid hd e=>by
 obtain⟨h1,e1,l1⟩:=h id hd e;obtain⟨h2,e2,l2⟩:=k id h1 e1;exact⟨h2,e2,l1.trans l2⟩
theorem JP.blk{m m':jG}(h:JP m m'){id b c n:Nat}(e:m id=some (.blk b c n)):m' id=some (.blk b c n):=by
 obtain⟨h1,e1,l1⟩:=h id _ e;rw[e1,l1.blk]
def z6(k off n:Nat):Hd->Value->Prop
 |.none,v=>off=0/\n=0/\ ∃a,v = .slice a 0 0
 |.blk b c l,v=>off+n<=l/\ ∃q,v = .slice (some ⟨b,q,Option.none⟩) n (c-off)/\(off<c->q=off*k)
 |.tre _ _ _ _ _,_=>False
 |.mp _,_=>False
def jrj(i j k:Nat):Hd->Value->Prop
 |.tre true _ _ _ ks,v=>∃h,ks[i*k+j]? = some h/\hdr h v/\h.isSl=true
 |_,_=>False
theorem ZG{h:Hd}{v:Value}(hs:h.isSl=true)(e:hdr h v):∃a n c,v = .slice a n c:=by
 cases h with
 |none=>obtain⟨a,rfl⟩:=e;exact⟨a,0,0,rfl⟩
 |blk b c n=>exact⟨_,_,_,e⟩
 |tre f b c n ks=>exact⟨_,_,_,e⟩
 |mp=>cases hs
theorem jj4{i j k:Nat}{h:Hd}{v:Value}(s:jrj i j k h v):∃a n c,v = .slice a n c:=by
 cases h with
 |none=>exact s.elim
 |blk=>exact s.elim
 |mp=>exact s.elim
 |tre f b c n ks=>
  cases f with
  |false=>exact s.elim
  |true=>obtain⟨kid,_,e,e'⟩:=s;exact ZG e' e
theorem Hd.le.sub{h h':Hd}(l:h.le h'){i j k:Nat}{v:Value}(s:jrj i j k h v):jrj i j k h' v:=by
 rcases l with rfl|⟨b0,c0,n,ks,f,ks',rfl,rfl⟩
 .exact s
 .exact s.elim
theorem Hd.le.win{h h':Hd}(l:h.le h'){k off n:Nat}{v:Value}(s:z6 k off n h v):z6 k off n h' v:=by
 rcases l with rfl|⟨b0,c0,n,ks,f,ks',rfl,rfl⟩
 .exact s
 .exact s.elim
section
variable(w:World)(O:Nat->Prop)(m:jG)
mutual
def relV:V->Value->Prop
 |.top,_=>True
 |.nil _,v=>∃a,v = .slice a 0 0
 |.d a,v=>rel w O a v
 |.agg cs,v=>∃vs:Xh,v = .agg vs.toArray/\jb cs vs
 |.tup cs,v=>∃vs:Xh,v = .tuple vs.toArray/\jb cs vs
 |.fn f caps,v=>∃vs:Xh,v = .func (.func f) #[] vs.toArray/\jb caps vs
 |.ptr id off,v=>∃b c n,m id=some (.blk b c n)/\v = .pointer (some ⟨b,off,none⟩)
 |.row id,v=>∃h,m id=some h/\hdr h v
 |.rptr id i k j,v=>∃h b,m id=some h/\h.root=some b/\v = .pointer (some ⟨b,i*k+j,none⟩)
 |.win id k off n,v=>∃h,m id=some h/\z6 k off n h v
 |.sub id i k j,v=>∃h,m id=some h/\jrj i j k h v
 |.ub n neg,v=>∃b:Bool,v = .bool (b != neg)/\(n≠0->b=false)
def jb:Xj->Xh->Prop
 | [],vs=>vs=[]
 |c::cs,vs=>∃v r,vs=v::r/\relV c v/\jb cs r
end
end
section
variable{w w':World}{O O':Nat->Prop}{m m':jG}
mutual
theorem J5(h:MonoW w O w' O')(hm:JP m m'):∀(a:V)(v:Value),relV w O m a v->relV w' O' m' a v
 |.top,_,_=>by simp[relV]
 |.nil _,v,hr=>by simpa[relV]using hr
 |.d a,v,hr=>by simp only[relV]at hr⊢;exact jU h a v hr
 |.agg cs,v,hr=>by
  simp only[relV]at hr⊢;obtain⟨vs,h1,h2⟩:=hr;exact⟨vs,h1,yf h hm cs vs h2⟩
 |.tup cs,v,hr=>by
  simp only[relV]at hr⊢;obtain⟨vs,h1,h2⟩:=hr;exact⟨vs,h1,yf h hm cs vs h2⟩
 |.fn f cs,v,hr=>by
  simp only[relV]at hr⊢;obtain⟨vs,h1,h2⟩:=hr;exact⟨vs,h1,yf h hm cs vs h2⟩
 |.ptr id off,v,hr=>by
  simp only[relV]at hr⊢;obtain⟨b,c,n,h1,h2⟩:=hr;exact⟨b,c,n,hm.blk h1,h2⟩
 |.row id,v,hr=>by
  simp only[relV]at hr⊢;obtain⟨hd,h1,h2⟩:=hr;obtain⟨hd',h3,l⟩:=hm _ _ h1;exact⟨hd',h3,l.hdr h2⟩
 |.rptr id i k j,v,hr=>by
  simp only[relV]at hr⊢;obtain⟨hd,b,h1,h2,h4⟩:=hr;obtain⟨hd',h3,l⟩:=hm _ _ h1;exact⟨hd',b,h3,l.root.trans h2,h4⟩
 |.win id k off n,v,hr=>by
  simp only[relV]at hr⊢;obtain⟨hd,h1,h2⟩:=hr;obtain⟨hd',h3,l⟩:=hm _ _ h1;exact⟨hd',h3,l.win h2⟩
 |.sub id i k j,v,hr=>by
  simp only[relV]at hr⊢;obtain⟨hd,h1,h2⟩:=hr;obtain⟨hd',h3,l⟩:=hm _ _ h1;exact⟨hd',h3,l.sub h2⟩
 |.ub _ _,v,hr=>by simpa[relV]using hr
theorem yf(h:MonoW w O w' O')(hm:JP m m'):∀(cs:Xj)(vs:Xh),jb w O m cs vs->jb w' O' m' cs vs
 | [],vs,hr=>by simpa[jb]using hr
 |c::cs,vs,hr=>by
  simp only[jb]at hr⊢;obtain⟨v,r,h1,h2,h3⟩:=hr;exact⟨v,r,h1,J5 h hm c v h2,yf h hm cs r h3⟩
end
theorem yT:∀{cs:Xj}{vs:Xh}{i:Nat}{c:V},jb w O m cs vs->cs[i]? = some c-> ∃v,vs[i]? = some v/\relV w O m c v
 | [],_,_,_,_,h=>by simp at h
 |x::cs,vs,i,c,hr,h=>by
  simp only[jb]at hr;obtain⟨v,r,rfl,h2,h3⟩:=hr;cases i with
  |zero=>simp at h;subst h;exact⟨v,by simp,h2⟩
  |succ i=>simp at h;obtain⟨u,h4,h5⟩:=yT h3 h;exact⟨u,by simpa using h4,h5⟩
theorem jZ:∀{cs:Xj}{vs:Xh},jb w O m cs vs->vs.length=cs.length
 | [],_,h=>by simp only[jb]at h;simp[h]
 |x::cs,vs,hr=>by
  simp only[jb]at hr;obtain⟨v,r,rfl,_,h3⟩:=hr;simp[jZ h3]
theorem jY:∀{cs:Xj}{vs:Xh}{ds:Xj}{us:Xh},jb w O m cs vs->jb w O m ds us->jb w O m (cs++ds) (vs++us)
 | [],vs,ds,us,h,k=>by simp only[jb]at h;simpa[h]using k
 |c::cs,vs,ds,us,h,k=>by
  simp only[jb]at h;obtain⟨v,r,rfl,h2,h3⟩:=h;simp only[List.cons_append,jb];exact⟨v,r++us,rfl,h2,jY h3 k⟩
theorem Ji:∀{cs:Xj}{vs:Xh}(n:Nat),jb w O m cs vs->jb w O m (cs.drop n) (vs.drop n)
 |cs,vs,0,h=>by simpa using h
 | [],vs,n+1,h=>by simp only[jb]at h;subst h;simp[jb]
 |c::cs,vs,n+1,h=>by
  simp only[jb]at h;obtain⟨v,r,rfl,_,h3⟩:=h;simpa using Ji n h3
theorem Jj:∀{cs:Xj}{vs:Xh}(n:Nat),jb w O m cs vs->jb w O m (cs.take n) (vs.take n)
 |cs,vs,0,h=>by simp[jb]
 | [],vs,n+1,h=>by simp only[jb]at h;subst h;simp[jb]
 |c::cs,vs,n+1,h=>by
  simp only[jb]at h;obtain⟨v,r,rfl,h2,h3⟩:=h;simp only[List.take_succ_cons,jb];exact⟨v,_,rfl,h2,Jj n h3⟩
theorem jc3{cs ds:Xj}{vs us:Xh}{off:Nat}(h:jb w O m cs vs)(k:jb w O m ds us):jb w O m (over cs off ds) (over vs off us):=by
 unfold over;rw[<-jZ k];exact jY (jY (Jj off h) k) (Ji _ h)
theorem jmF:∀{cs:Xj}{vs:Xh}(i:Nat){c:V}{v:Value},jb w O m cs vs->relV w O m c v->jb w O m (cs.set i c) (vs.set i v)
 | [],vs,i,c,v,h,_=>by simp only[jb]at h;subst h;simp[jb]
 |x::cs,vs,i,c,v,h,hv=>by
  simp only[jb]at h;obtain⟨u,r,rfl,h2,h3⟩:=h;cases i with
  |zero=>simp only[List.set_cons_zero,jb];exact⟨v,r,rfl,hv,h3⟩
  |succ i=>simp only[List.set_cons_succ,jb];exact⟨u,_,rfl,h2,jmF i h3 hv⟩
end
def Obj.alive:Obj->Bool
 |.box _=>true
 |.row _ _=>true
 |.tre _ _ _=>true
 |.map _=>true
 |_=>false
abbrev jg:=Nat->Obj
def Mz(m:jG)(st:jg):Nat->Prop:=λb=>∃id hd,(st id).alive=true/\m id=some hd/\b∈hd.blocks
def Ow(O0:Nat->Prop)(m:jG)(st:jg):Nat->Prop:=λb=>O0 b\/Mz m st b
mutual
def ju(w:World)(f:Bool)(k:Nat)(xs:Xc):Hd->Prop
 |.none=>xs=[]
 |.blk _ _ _=>False
 |.mp _=>False
 |.tre f' b cap n ks=>f'=f/\n=xs.length/\xs.length<=cap/\cap<=9223372036854775807/\(∀x∈xs,x.length=k)/\ ∃c T,w.heap[b]? = some (.cells c T (0,0))/\c.size=cap*k/\
   jk (c.toList.take (xs.length*k))/\ke w xs.flatten (c.toList.take (xs.length*k)) ks
def ke(w:World)(as:Xd)(vs:Xh):List Hd->Prop
 | []=>as=[]/\vs=[]
 |h::hs=>∃a as' v vs',as=a::as'/\vs=v::vs'/\(match a with
   |.val x=>h = .none/\v=x
   |.sl k xs=>hdr h v/\ju w true k xs h
   |.top=>h = .none
   |_=>False)/\ke w as' vs' hs
end
def rowOk(w:World)(O:Nat->Prop)(k:Nat)(xs:Xc):Hd->Prop
 |.none=>xs=[]
 |.tre _ _ _ _ _=>False
 |.mp _=>False
 |.blk b cap n=>n=xs.length/\xs.length<=cap/\cap<=9223372036854775807/\(∀x∈xs,x.length=k)/\ ∃c T,w.heap[b]? = some (.cells c T (0,0))/\c.size=cap*k/\
   jk (c.toList.take (xs.length*k))/\jm w O xs.flatten (c.toList.take (xs.length*k))
def jkx(w:World)(O:Nat->Prop)(m:jG)(cs:Xj):Hd->Prop
 |.none=>False
 |.tre _ _ _ _ _=>False
 |.mp _=>False
 |.blk b _ _=>∃c T,w.heap[b]? = some (.cells c T (0,0))/\jk c.toList/\jb w O m cs c.toList
def jhU(w:World)(O:Nat->Prop)(xs:Xc):Hd->Prop
 |.mp b=>∃es clock,w.heap[b]? = some (.map es clock)/\MapFine es.toList clock/\jT w O xs es.toList
 |_=>False
def JQ(w:World)(O:Nat->Prop)(m:jG):Obj->Option Hd->Prop
 |.dead,_=>True
 |.gone,_=>True
 |.box cs,h=>∃hd,h=some hd/\jkx w O m cs hd
 |.row k xs,h=>∃hd,h=some hd/\rowOk w O k xs hd
 |.fro k xs,h=>∃hd,h=some hd/\hd.fixed=true/\ ∀v,hdr hd v->rel w O (.sl k xs) v
 |.tre f k xs,h=>∃hd,h=some hd/\ju w f k xs hd/\hd.blocks.Nodup
 |.map xs,h=>∃hd,h=some hd/\jhU w O xs hd
structure Ctx where
 J:World->Prop
 N:Nat->Prop
 stable:∀w w':World,(∀b,N b->w'.heap[b]? = w.heap[b]?)->J w->J w'
structure Sto(X:Ctx)(w:World)(O0:Nat->Prop)(m:jG)(st:jg):Prop where
 j:X.J w
 jn:∀b,X.N b->O0 b
 fresh:∀id,st id = .dead->m id=none
 old:∀b,O0 b->b<w.heap.size
 blk:∀id hd b,(st id).alive=true->m id=some hd->b∈hd.blocks->b<w.heap.size/\ ¬O0 b
 inj:∀id id' hd hd' b,(st id).alive=true->(st id').alive=true->m id=some hd->m id'=some hd'->b∈hd.blocks->b∈hd'.blocks->id=id'
 obj:∀id,JQ w (Ow O0 m st) m (st id) (m id)
structure Chg(w:World)(m:jG)(st:jg)(w':World)(m':jG)(st':jg):Prop where
 os:w'.os=w.os
 tape:w'.tape=w.tape
 output:Quiet w w'
 size:w.heap.size<=w'.heap.size
 keep:∀b:Nat,b<w.heap.size-> ¬Mz m st b->w'.heap[b]? = w.heap[b]?
 mext:JP m m'
 new:∀b,Mz m' st' b->Mz m st b\/w.heap.size<=b
theorem Chg.refl(w:World)(m:jG)(st:jg):Chg w m st w m st:=⟨rfl,rfl,Quiet.refl w,Nat.le_refl _,λ_ _ _=>rfl,JP.refl m,λ_ h=>Or.inl h⟩
theorem Chg.trans{w1 w2 w3:World}{m1 m2 m3:jG}{s1 s2 s3:jg}(h:Chg w1 m1 s1 w2 m2 s2)(k:Chg w2 m2 s2 w3 m3 s3):Chg w1 m1 s1 w3 m3 s3 where
 os:=k.os.trans h.os
 tape:=k.tape.trans h.tape
 output:=k.output.trans h.output
 size:=Nat.le_trans h.size k.size
 keep:=λb hb hn=>by
  have h2:¬Mz m2 s2 b:=λhm=>by
   rcases h.new b hm with h3|h3
   .exact hn h3
   .omega
  exact(k.keep b (Nat.lt_of_lt_of_le hb h.size) h2).trans (h.keep b hb hn)
 mext:=h.mext.trans k.mext
 new:=λb hb=>by
  rcases k.new b hb with h1|h1
  .exact h.new b h1
  .exact Or.inr (Nat.le_trans h.size h1)
theorem Chg.monoW{w w':World}{m m':jG}{st st':jg}(h:Chg w m st w' m' st')(O0:Nat->Prop):MonoW w (Ow O0 m st) w' (Ow O0 m' st') where
 size:=h.size
 keep:=λb hb hn=>h.keep b hb λhm=>hn (Or.inr hm)
 own:=λb hb hn ho=>by
  rcases ho with ho|ho
  .exact hn (Or.inl ho)
  .rcases h.new b ho with h1|h1
   .exact hn (Or.inr h1)
   .omega
theorem Chg.relV{w w':World}{m m':jG}{st st':jg}(h:Chg w m st w' m' st'){O0:Nat->Prop}{a:V}{v:Value}(hr:relV w (Ow O0 m st) m a v):relV w' (Ow O0 m' st') m' a v:=
 J5 (h.monoW O0) h.mext a v hr
theorem jxi{m:jG}{st:jg}{id b c n:Nat}(ha:(st id).alive=true)(h:m id=some (.blk b c n)):Mz m st b:=⟨id,_,ha,h,by simp[Hd.blocks]⟩
mutual
theorem Zs{w w':World} :∀(hd:Hd){f:Bool}{k:Nat}{xs:Xc},(∀b∈hd.blocks,w'.heap[b]? = w.heap[b]?)->ju w f k xs hd->ju w' f k xs hd
 |.none,_,_,_,_,h=>by simpa[ju]using h
 |.blk _ _ _,_,_,_,_,h=>by simp[ju]at h
 |.mp _,_,_,_,_,h=>by simp[ju]at h
 |.tre f' b cap n ks,f,k,xs,hb,h=>by
  simp only[ju]at h⊢;obtain⟨h1,h2,h3,h4,h5,c,T,h6,h7,h8,h9⟩:=h;exact⟨h1,h2,h3,h4,h5,c,T,by rw[hb b (by simp[Hd.blocks])];exact h6,h7,h8,yh ks (λx hx=>hb x (by simp[Hd.blocks,hx])) h9⟩
theorem yh{w w':World} :∀(ks:List Hd){as:Xd}{vs:Xh},(∀b∈Hd.blocksL ks,w'.heap[b]? = w.heap[b]?)->ke w as vs ks->ke w' as vs ks
 | [],_,_,_,h=>by simpa[ke]using h
 |h::hs,as,vs,hb,hr=>by
  simp only[ke]at hr⊢;obtain⟨a,as',v,vs',e1,e2,h3,h4⟩:=hr;refine⟨a,as',v,vs',e1,e2,?_,yh hs (λx hx=>hb x (by simp[Hd.blocksL,hx])) h4⟩;cases a with
  |val x=>exact h3
  |sl k xs=>exact⟨h3.1,Zs h (λx hx=>hb x (by simp[Hd.blocksL,hx])) h3.2⟩
  |top=>exact h3
  |_=>exact h3.elim
end
mutual
theorem jgC{w:World}{O:Nat->Prop} :∀(hd:Hd){f:Bool}{k:Nat}{xs:Xc}{v:Value},(∀b∈hd.blocks,¬O b)->ju w f k xs hd->hdr hd v->rel w O (.sl k xs) v
 |.none,f,k,xs,v,_,h,hv=>by
  simp only[ju]at h;simp only[hdr]at hv;subst h;obtain⟨a,rfl⟩:=hv;simp only[rel];exact⟨a,0,rfl,by simp,by omega,Or.inl trivial⟩
 |.blk _ _ _,_,_,_,_,_,h,_=>by simp[ju]at h
 |.mp _,_,_,_,_,_,h,_=>by simp[ju]at h
 |.tre f' b cap n ks,f,k,xs,v,hb,h,hv=>by
  simp only[ju]at h;simp only[hdr]at hv;obtain⟨h1,rfl,h3,h4,h5,c,T,h6,h7,h8,h9⟩:=h;subst hv;simp only[rel];refine⟨_,cap,rfl,h3,h4,Or.inr ⟨b,0,rfl,(Array.getElem?_eq_some_iff.1 h6).1,hb b (by simp[Hd.blocks]),?_⟩⟩;exact zS h5 (jdo ks (λx hx=>hb x (by simp[Hd.blocks,hx])) h9) ((Reads.block h6).take _) h8
theorem jdo{w:World}{O:Nat->Prop} :∀(ks:List Hd){as:Xd}{vs:Xh},(∀b∈Hd.blocksL ks,¬O b)->ke w as vs ks->jm w O as vs
 | [],_,_,_,h=>by simp only[ke]at h;obtain⟨rfl,rfl⟩:=h;simp[jm]
 |h::hs,as,vs,hb,hr=>by
  simp only[ke]at hr;obtain⟨a,as',v,vs',rfl,rfl,h3,h4⟩:=hr;simp only[jm];refine⟨v,vs',rfl,?_,jdo hs (λx hx=>hb x (by simp[Hd.blocksL,hx])) h4⟩;cases a with
  |val x=>simp only[rel];exact h3.2
  |sl k xs=>exact jgC h (λx hx=>hb x (by simp[Hd.blocksL,hx])) h3.2 h3.1
  |top=>simp only[rel]
  |_=>exact h3.elim
end
theorem Jk{w w':World}{O O':Nat->Prop}(h:MonoW w O w' O'){k:Nat}{xs:Xc} :∀{hd:Hd},(∀b c n,hd = .blk b c n->w'.heap[b]? = w.heap[b]?)->rowOk w O k xs hd->rowOk w' O' k xs hd
 |.none,_,hr=>hr
 |.tre _ _ _ _ _,_,hr=>hr.elim
 |.mp _,_,hr=>hr.elim
 |.blk b cap n,hb,hr=>by
  obtain⟨h0,h1,h2,h3,c,T,h4,h5,h7,h6⟩:=hr;exact⟨h0,h1,h2,h3,c,T,by rw[hb b cap n rfl];exact h4,h5,h7,jF h _ _ h6⟩
theorem jiY{w w':World}{O O':Nat->Prop}{m m':jG}(h:MonoW w O w' O')(hm:JP m m'){cs:Xj} :
  ∀{hd:Hd},(∀b c n,hd = .blk b c n->w'.heap[b]? = w.heap[b]?)->jkx w O m cs hd->jkx w' O' m' cs hd
 |.none,_,hr=>hr
 |.tre _ _ _ _ _,_,hr=>hr.elim
 |.mp _,_,hr=>hr.elim
 |.blk b cap n,hb,hr=>by
  obtain⟨c,T,h4,h7,h6⟩:=hr;exact⟨c,T,by rw[hb b cap n rfl];exact h4,h7,yf h hm _ _ h6⟩
theorem YD{w w':World}{O O':Nat->Prop}(h:MonoW w O w' O'){xs:Xc} :∀{hd:Hd},(∀b,hd = .mp b->w'.heap[b]? = w.heap[b]?)->jhU w O xs hd->jhU w' O' xs hd
 |.none,_,hr=>hr.elim
 |.tre _ _ _ _ _,_,hr=>hr.elim
 |.blk _ _ _,_,hr=>hr.elim
 |.mp b,hb,hr=>by
  obtain⟨es,c,h4,h5,h6⟩:=hr;exact⟨es,c,by rw[hb b rfl];exact h4,h5,zt h _ _ h6⟩
theorem qS{w w':World}{O O':Nat->Prop}{m m':jG}(h:MonoW w O w' O')(hm:JP m m'){o:Obj}{hd:Option Hd}
  (hb:∀h b,o.alive=true->hd=some h->b∈h.blocks->w'.heap[b]? = w.heap[b]?) (ho:JQ w O m o hd):JQ w' O' m' o hd:=by
 cases o with
 |dead=>trivial
 |gone=>trivial
 |box cs=>
  obtain⟨h1,rfl,h2⟩:=ho;exact⟨h1,rfl,jiY h hm (λb c n e=>hb _ b rfl rfl (by rw[e];simp[Hd.blocks])) h2⟩
 |row k xs=>
  obtain⟨h1,rfl,h2⟩:=ho;exact⟨h1,rfl,Jk h (λb c n e=>hb _ b rfl rfl (by rw[e];simp[Hd.blocks])) h2⟩
 |fro k xs=>
  obtain⟨h1,rfl,h0,h2⟩:=ho;exact⟨h1,rfl,h0,λv hv=>jU h _ _ (h2 v hv)⟩
 |tre f k xs=>
  obtain⟨h1,rfl,h2,h3⟩:=ho;exact⟨h1,rfl,Zs h1 (λb e=>hb _ b rfl rfl e) h2,h3⟩
 |map xs=>
  obtain⟨h1,rfl,h2⟩:=ho;exact⟨h1,rfl,YD h (λb e=>hb _ b rfl rfl (by rw[e];simp[Hd.blocks])) h2⟩
theorem Sto.chg{X:Ctx}{w w':World}{O0:Nat->Prop}{m m':jG}{st st':jg}(hs:Sto X w O0 m st)(hc:Chg w m st w' m' st')
  (hfr:∀id,st' id = .dead->m' id=none)
  (hblk:∀id hd b,(st' id).alive=true->m' id=some hd->b∈hd.blocks->((st id).alive=true/\m id=some hd)\/(b<w'.heap.size/\ ¬O0 b))
  (hinj:∀id id' hd hd' b,(st' id).alive=true->(st' id').alive=true->m' id=some hd->m' id'=some hd'->b∈hd.blocks->b∈hd'.blocks->id=id')
  (hobj:∀id,(st' id=st id/\m' id=m id/\ ∀hd b,(st id).alive=true->m id=some hd->b∈hd.blocks->w'.heap[b]? = w.heap[b]?)\/JQ w' (Ow O0 m' st') m' (st' id) (m' id)) :
  Sto X w' O0 m' st' where
 j:=X.stable w w' (λb hb=>hc.keep b (hs.old b (hs.jn b hb)) λ⟨id,hd,ha,hm,hi⟩=>(hs.blk id hd b ha hm hi).2 (hs.jn b hb)) hs.j
 jn:=hs.jn
 fresh:=hfr
 old:=λb hb=>Nat.lt_of_lt_of_le (hs.old b hb) hc.size
 blk:=λid hd b ha hm hi=>by
  rcases hblk id hd b ha hm hi with⟨h1,h2⟩|h1
  .have:=hs.blk id hd b h1 h2 hi;exact⟨Nat.lt_of_lt_of_le this.1 hc.size,this.2⟩
  .exact h1
 inj:=hinj
 obj:=λid=>by
  rcases hobj id with⟨h1,h2,h3⟩|h1
  .rw [h1,h2];exact qS (hc.monoW O0) hc.mext (λhd b ha hm hi=>h3 hd b ha hm hi) (hs.obj id)
  .exact h1
theorem Chg.below{w w':World}{m:jG}{st:jg}(h:Below w.heap.size w w'):Chg w m st w' m st where
 os:=h.os
 tape:=h.tape
 output:=h.output
 size:=h.size
 keep:=λb hb _=>h.block b hb
 mext:=JP.refl m
 new:=λ_ h=>Or.inl h
theorem Sto.below{X:Ctx}{w w':World}{O0:Nat->Prop}{m:jG}{st:jg}(hs:Sto X w O0 m st)(h:Below w.heap.size w w'):Sto X w' O0 m st:=
 hs.chg (Chg.below h) hs.fresh (λ_ _ _ ha hm _=>Or.inl ⟨ha,hm⟩) hs.inj λid=>Or.inl ⟨rfl,rfl,λhd b ha hm hi=>h.block b (hs.blk id hd b ha hm hi).1⟩
def upd{α:Type}(f:Nat->α)(i:Nat)(x:α):Nat->α:=λj=>bif Nat.beq j i then x else f j
theorem jf{α:Type}(f:Nat->α)(i:Nat)(x:α):upd f i x i=x:=by simp[upd]
theorem upd_ne{α:Type}(f:Nat->α){i j:Nat}(x:α)(h:j≠i):upd f i x j=f j:=by
 have:Nat.beq j i=false:=by
  cases hb:Nat.beq j i with
  |false=>rfl
  |true=>exact absurd (Nat.eq_of_beq_eq_true hb) h
 simp[upd,this]
theorem jiM{α:Type}(f:Nat->α){i j:Nat}(x y:α)(h:i≠j):upd (upd f i x) j y=upd (upd f j y) i x:=by
 funext k;by_cases h1:k=i
 .subst h1;rw[upd_ne _ _ h,jf,jf]
 .by_cases h2:k=j
  .subst h2;rw[jf,upd_ne _ _ h1,jf]
  .rw [upd_ne _ _ h2,upd_ne _ _ h1,upd_ne _ _ h1,upd_ne _ _ h2]
theorem jiT{m:jG}{st:jg}{id:Nat}{o:Obj}(ho:o.alive=true->(st id).alive=true){b:Nat}(h:Mz m (upd st id o) b):Mz m st b:=by
 obtain⟨i,hd,ha,hm,hi⟩:=h;by_cases e:i=id
 .subst e;rw[jf]at ha;exact⟨i,hd,ho ha,hm,hi⟩
 .rw [upd_ne _ _ e]at ha;exact⟨i,hd,ha,hm,hi⟩
theorem Chg.ghost{w:World}{m:jG}{st:jg}{id:Nat}{o:Obj}(ho:o.alive=true->(st id).alive=true):Chg w m st w m (upd st id o):=
 ⟨rfl,rfl,Quiet.refl w,Nat.le_refl _,λ_ _ _=>rfl,JP.refl m,λ_ h=>Or.inl (jiT ho h)⟩
theorem Sto.ghost{X:Ctx}{w:World}{O0:Nat->Prop}{m:jG}{st:jg}(hs:Sto X w O0 m st){id:Nat}{o:Obj}(ho:o.alive=true->(st id).alive=true)(hd:o≠ .dead)
  (hok:JQ w (Ow O0 m (upd st id o)) m o (m id)):Sto X w O0 m (upd st id o):=by
 have al:∀i,(upd st id o i).alive=true->(st i).alive=true:=λi ha=>by
  by_cases e:i=id
  .subst e;rw[jf]at ha;exact ho ha
  .rwa [upd_ne _ _ e]at ha
 have fr:∀i,upd st id o i = .dead->m i=none:=λi h=>by
  by_cases e:i=id
  .subst e;rw[jf]at h;exact(hd h).elim
  .rw [upd_ne _ _ e]at h;exact hs.fresh i h
 refine hs.chg (Chg.ghost ho) fr (λi hd b ha hm _=>Or.inl ⟨al i ha,hm⟩) (λi i' hd hd' b h1 h2=>hs.inj i i' hd hd' b (al i h1) (al i' h2)) λi=>?_;by_cases e:i=id
 .subst e;rw[jf];exact Or.inr hok
 .rw [upd_ne _ _ e];exact Or.inl ⟨rfl,rfl,λ_ _ _ _ _=>rfl⟩
theorem Sto.kill{X:Ctx}{w:World}{O0:Nat->Prop}{m:jG}{st:jg}(hs:Sto X w O0 m st)(id:Nat):Sto X w O0 m (upd st id .gone):=
 hs.ghost (λh=>by cases h) (λh=>by cases h) trivial
theorem J9{w:World} :∀{ks:List Hd}{as:Xd}{vs:Xh},ke w as vs ks->as.length=ks.length/\vs.length=ks.length
 | [],_,_,h=>by simp only[ke]at h;obtain⟨rfl,rfl⟩:=h;exact⟨rfl,rfl⟩
 |h::hs,_,_,hr=>by
  simp only[ke]at hr;obtain⟨a,as',v,vs',rfl,rfl,_,h4⟩:=hr;have:=J9 h4;simp[this.1,this.2]
def jpy(w:World)(h:Hd)(a:A)(v:Value):Prop:=
 match a with
 |.val x=>h = .none/\v=x
 |.sl k xs=>hdr h v/\ju w true k xs h
 |.top=>h = .none
 |_=>False
theorem jM{w:World}{h:Hd}{hs:List Hd}{as:Xd}{vs:Xh} :ke w as vs (h::hs)↔ ∃a as' v vs',as=a::as'/\vs=v::vs'/\jpy w h a v/\ke w as' vs' hs:=by
 simp only[ke];constructor
 .rintro ⟨a,as',v,vs',e1,e2,h3,h4⟩;exact⟨a,as',v,vs',e1,e2,by cases a<;>exact h3,h4⟩
 .rintro ⟨a,as',v,vs',e1,e2,h3,h4⟩;exact⟨a,as',v,vs',e1,e2,by cases a<;>exact h3,h4⟩
theorem Jn{w:World} :∀{ks:List Hd}{as:Xd}{vs:Xh}{p:Nat}{a:A},ke w as vs ks->as[p]? = some a-> ∃h v,ks[p]? = some h/\vs[p]? = some v/\jpy w h a v
 | [],_,_,_,_,h,e=>by simp only[ke]at h;obtain⟨rfl,rfl⟩:=h;simp at e
 |h::hs,_,_,p,a,hr,e=>by
  obtain⟨a',as',v,vs',rfl,rfl,h3,h4⟩:=jM.1 hr;cases p with
  |zero=>simp at e;subst e;exact⟨h,v,rfl,rfl,h3⟩
  |succ p=>simp at e;obtain⟨h',v',e1,e2,e3⟩:=Jn h4 e;exact⟨h',v',by simpa using e1,by simpa using e2,e3⟩
theorem kY:∀{xs:Xc}{k i j:Nat}{x:Xd},(∀y∈xs,y.length=k)->xs[i]? = some x->j<k->xs.flatten[i*k+j]? = x[j]?
 | [],_,_,_,_,_,e,_=>by simp at e
 |y::xs,k,i,j,x,h,e,hj=>by
  have hy:y.length=k:=h y (by simp);rw[List.flatten_cons];cases i with
  |zero=>simp at e;subst e;rw[Nat.zero_mul,Nat.zero_add,List.getElem?_append_left (by omega)]
  |succ i=>
   simp at e;rw[List.getElem?_append_right (by rw[hy,Nat.add_one_mul];omega),hy];have:=kY (xs:=xs) (j:=j) (λz hz=>h z (by simp[hz])) e hj;rw[<-this];congr 1;rw[Nat.add_one_mul];omega
theorem kX{h:Hd}{b:Nat} :∀{ks:List Hd}{p:Nat},ks[p]? = some h->b∈h.blocks->b∈Hd.blocksL ks
 | [],_,e,_=>by simp at e
 |x::ks,p,e,hb=>by
  cases p with
  |zero=>simp at e;subst e;simp[Hd.blocksL,hb]
  |succ p=>simp at e;simp[Hd.blocksL,kX e hb]
theorem Zo{w:World}{O:Nat->Prop}{k:Nat}{xs:Xc} :∀{hd:Hd},rowOk w O k xs hd->hd.fixed=true
 |.none,_=>rfl
 |.blk _ _ _,_=>rfl
 |.tre _ _ _ _ _,h=>h.elim
 |.mp _,h=>h.elim
theorem jaE{w:World}{O:Nat->Prop}{m:jG}{cs:Xj} :∀{hd:Hd},jkx w O m cs hd->hd.fixed=true
 |.none,h=>h.elim
 |.blk _ _ _,_=>rfl
 |.tre _ _ _ _ _,h=>h.elim
 |.mp _,h=>h.elim
theorem qk{w:World}{k:Nat}{xs:Xc} :∀{hd:Hd},ju w true k xs hd->hd.fixed=true
 |.none,_=>rfl
 |.blk _ _ _,_=>rfl
 |.tre _ _ _ _ _,h=>by simp only[ju]at h;exact h.1
 |.mp _,_=>rfl
theorem jaX{w:World}{O:Nat->Prop}{xs:Xc} :∀{hd:Hd},jhU w O xs hd->hd.fixed=true
 |.none,h=>h.elim
 |.blk _ _ _,h=>h.elim
 |.tre _ _ _ _ _,h=>h.elim
 |.mp _,_=>rfl
theorem KC{w:World}{f:Bool}{k:Nat}{xs:Xc} :∀{hd:Hd},ju w f k xs hd->hd.isSl=true
 |.none,_=>rfl
 |.blk _ _ _,_=>rfl
 |.tre _ _ _ _ _,_=>rfl
 |.mp _,h=>by simp[ju]at h
theorem KB{w:World}{f:Bool}{k:Nat}{xs:Xc}{hd:Hd}(h:ju w f k xs hd):ju w true k xs hd.freeze:=by
 cases hd with
 |none=>simpa[ju,Hd.freeze]using h
 |blk=>simp[ju]at h
 |mp=>simp[ju]at h
 |tre f' b c n ks=>simp only[ju,Hd.freeze]at h⊢;exact⟨trivial,h.2⟩
theorem jin{X:Ctx}{w:World}{O0:Nat->Prop}{m:jG}{st:jg}(hs:Sto X w O0 m st){id k b:Nat}{xs:Xc}{hd:Hd}(h:st id = .row k xs)(hm:m id=some hd)(hb:hd.root=some b):∃c n,m id=some (.blk b c n):=by
 have ho:=hs.obj id;rw[h]at ho;obtain⟨hd',h1,h2⟩:=ho;rw[hm]at h1;cases h1;cases hd with
 |none=>cases hb
 |blk b' c n=>cases hb;exact⟨c,n,hm⟩
 |tre=>exact h2.elim
 |mp=>exact h2.elim
theorem Sto.fixed{X:Ctx}{w:World}{O0:Nat->Prop}{m:jG}{st:jg}(hs:Sto X w O0 m st){id:Nat}{hd:Hd}(hm:m id=some hd)(h:∀k xs,st id≠ .tre false k xs)(hg:st id≠ .gone):hd.fixed=true:=by
 have ho:=hs.obj id;have hf:=hs.fresh id;cases e:st id with
 |dead=>rw[hf e]at hm;cases hm
 |gone=>exact absurd e hg
 |box cs=>rw[e]at ho;obtain⟨hd',h1,h2⟩:=ho;rw[hm]at h1;cases h1;exact jaE h2
 |row k xs=>rw[e]at ho;obtain⟨hd',h1,h2⟩:=ho;rw[hm]at h1;cases h1;exact Zo h2
 |fro k xs=>rw[e]at ho;obtain⟨hd',h1,h2,_⟩:=ho;rw[hm]at h1;cases h1;exact h2
 |tre f k xs=>
  rw[e]at ho;obtain⟨hd',h1,h2,_⟩:=ho;rw[hm]at h1;cases h1;cases f with
  |false=>exact absurd e (h k xs)
  |true=>exact qk h2
 |map xs=>rw[e]at ho;obtain⟨hd',h1,h2⟩:=ho;rw[hm]at h1;cases h1;exact jaX h2
theorem jim{w:World}{O O':Nat->Prop}{k:Nat}{xs:Xc}{hd:Hd}{v:Value}(h:rowOk w O k xs hd)(hv:hdr hd v)(hO:∀b,O' b->O b)
  (hb:∀b c n,hd = .blk b c n-> ¬O' b):rel w O' (.sl k xs) v:=by
 cases hd with
 |none=>
  simp only[rowOk]at h;simp only[hdr]at hv;subst h;obtain⟨a,rfl⟩:=hv;simp only[rel];exact⟨a,0,rfl,by simp,by omega,Or.inl trivial⟩
 |blk b cap n=>
  obtain⟨rfl,h1,h2,h3,c,T,h4,h5,h6,h7⟩:=h;simp only[hdr]at hv;subst hv;simp only[rel];refine⟨_,cap,rfl,h1,h2,Or.inr ⟨b,0,rfl,(Array.getElem?_eq_some_iff.1 h4).1,hb b cap _ rfl,?_⟩⟩;exact zS h3 (jF (MonoW.sub hO) _ _ h7) ((Reads.block h4).take _) h6
 |tre=>exact h.elim
 |mp=>exact h.elim
theorem jhV{w:World}{O O':Nat->Prop}{xs:Xc}{hd:Hd}{v:Value}(h:jhU w O xs hd)(hv:hdr hd v)(hO:∀b,O' b->O b)
  (hb:∀b,hd = .mp b-> ¬O' b):rel w O' (.mp xs) v:=by
 cases hd with
 |mp b=>
  obtain⟨es,c,h1,h0,h2⟩:=h;simp only[hdr]at hv;subst hv;simp only[rel];exact Or.inr ⟨b,es,c,rfl,(Array.getElem?_eq_some_iff.1 h1).1,hb b rfl,h1,h0,zt (MonoW.sub hO) _ _ h2⟩
 |_=>exact h.elim
theorem jpD{w:World}{O O':Nat->Prop}{k off n:Nat}{xs:Xc}{hd:Hd}{v:Value}(h:rowOk w O k xs hd)(hv:z6 k off n hd v)(hO:∀b,O' b->O b)
  (hb:∀b c n,hd = .blk b c n-> ¬O' b):rel w O' (.sl k ((xs.drop off).take n)) v:=by
 cases hd with
 |none=>
  simp only[rowOk]at h;simp only[z6]at hv;obtain⟨rfl,rfl,a,rfl⟩:=hv;simp only[rel];exact⟨a,0,by simp,by simp,by omega,Or.inl (by simp)⟩
 |blk b cap l=>
  obtain⟨rfl,h1,h2,h3,c,T,h4,h5,h6,h7⟩:=h;simp only[z6]at hv;obtain⟨hl,q,rfl,hq⟩:=hv;have hlen:((xs.drop off).take n).length=n:=by simp;omega
  simp only[rel];refine⟨_,cap-off,by rw[hlen],by omega,by omega,?_⟩;by_cases hn:n=0
  .subst hn;left;simp
  .right;have hqe:=hq (by omega);subst hqe;refine⟨b,off*k,rfl,(Array.getElem?_eq_some_iff.1 h4).1,hb b cap _ rfl,?_⟩;have:=zS (w:=w) (O:=O') (b:=b) (off:=0) h3 (jF (MonoW.sub hO) _ _ h7) ((Reads.block h4).take _) h6;have:=qI n (qH off this (by omega));simpa using this
 |tre=>exact h.elim
 |mp=>exact h.elim
theorem Q1{O0:Nat->Prop}{m:jG}{st:jg}{id:Nat}{o:Obj}(ho:o.alive=true->(st id).alive=true):∀b,Ow O0 m (upd st id o) b->Ow O0 m st b:=
 λ_ h=>h.imp (λh=>h) (jiT ho)
theorem Qw{X:Ctx}{w:World}{O0:Nat->Prop}{m:jG}{st:jg}(hs:Sto X w O0 m st){id b:Nat}{hd:Hd}{o:Obj}(ha:(st id).alive=true)(hm:m id=some hd)(hi:b∈hd.blocks)(ho:o.alive=false):¬Ow O0 m (upd st id o) b:=by
 rintro(h|⟨i,hd',h1,h2,h3⟩)
 .exact (hs.blk id hd b ha hm hi).2 h
 .by_cases e:i=id
  .subst e;rw[jf,ho]at h1;cases h1
  .rw [upd_ne _ _ e]at h1;exact e (hs.inj i id hd' hd b h1 ha h2 hm h3 hi)
theorem y5{b c n:Nat} :b∈(Hd.blk b c n).blocks:=by simp[Hd.blocks]
theorem Kd{x b c n:Nat}(h:x∈(Hd.blk b c n).blocks):x=b:=by simpa[Hd.blocks]using h
theorem jhZ{X:Ctx}{w:World}{O0:Nat->Prop}{m:jG}{st:jg}(hs:Sto X w O0 m st){id b c n:Nat}{o:Obj}(ha:(st id).alive=true)(hm:m id=some (.blk b c n))(ho:o.alive=false):¬Ow O0 m (upd st id o) b:=
 Qw hs ha hm y5 ho
theorem Sto.freeze{X:Ctx}{w:World}{O0:Nat->Prop}{m:jG}{st:jg}(hs:Sto X w O0 m st){id k:Nat}{xs:Xc}(h:st id = .row k xs):Sto X w O0 m (upd st id (.fro k xs)):=by
 refine hs.ghost (λh=>by cases h) (λh=>by cases h) ?_;have ho:=hs.obj id;rw[h]at ho;obtain⟨hd,h1,h2⟩:=ho;refine⟨hd,h1,Zo h2,λv hv=>jim h2 hv (Q1 λh=>by cases h) λb c n e=>?_⟩;subst e;exact jhZ hs (by rw[h];rfl) h1 rfl
theorem zm(w:World)(ob:Go.Obj):Below w.heap.size w (w.alloc ob):=(Below.refl _ w).alloc (Nat.le_refl _) ob
theorem heap_alloc_new(w:World)(ob:Go.Obj):(w.alloc ob).heap[w.heap.size]? = some ob:=by
 show(w.heap.push ob)[w.heap.size]? = some ob;simp
theorem zc(w:World)(ob:Go.Obj):(w.alloc ob).heap.size=w.heap.size+1:=by
 show(w.heap.push ob).size=_;simp
theorem jbv{X:Ctx}{w w':World}{O0:Nat->Prop}{m:jG}{st:jg}(hs:Sto X w O0 m st)(hb:Below w.heap.size w w'){id:Nat}(hf':st id = .dead){hd:Hd}{o:Obj}(hod:o≠ .dead)
  (hnew:∀b∈hd.blocks,w.heap.size<=b/\b<w'.heap.size)
  (hok:JQ w' (Ow O0 (upd m id (some hd)) (upd st id o)) (upd m id (some hd)) o (some hd)) :
  Chg w m st w' (upd m id (some hd)) (upd st id o)/\Sto X w' O0 (upd m id (some hd)) (upd st id o):=by
 have hf:=hs.fresh id hf';have hmz:∀b,Mz (upd m id (some hd)) (upd st id o) b->Mz m st b\/w.heap.size<=b:=by
  rintro b ⟨i,hd1,ha,hm,hi⟩;by_cases e:i=id
  .subst e;rw[jf]at hm;cases hm;exact Or.inr (hnew b hi).1
  .rw [upd_ne _ _ e]at ha hm;exact Or.inl ⟨i,hd1,ha,hm,hi⟩
 have hchg:Chg w m st w' (upd m id (some hd)) (upd st id o):=
  ⟨hb.os,hb.tape,hb.output,hb.size,λb h _=>hb.block b h,JP.of λi h e=>by
   have:i≠id:=λe'=>by subst e';rw[hf]at e;cases e
   rw[upd_ne _ _ this];exact e,hmz⟩
 refine⟨hchg,hs.chg hchg ?_ ?_ ?_ ?_⟩
 .intro i h;by_cases e:i=id
  .subst e;rw[jf]at h;exact(hod h).elim
  .rw [upd_ne _ _ e]at h⊢;exact hs.fresh i h
 .intro i hd1 b ha hm hi;by_cases e:i=id
  .subst e;rw[jf]at hm;cases hm;have:=hnew b hi;exact Or.inr ⟨this.2,λh=>by have:=hs.old b h;omega⟩
  .rw [upd_ne _ _ e]at ha hm;exact Or.inl ⟨ha,hm⟩
 .intro i i' hd1 hd2 b h1 h2 h3 h4 h5 h6;by_cases e:i=id
  .by_cases e':i'=id
   .rw [e,e']
   .subst e;rw[jf]at h3;rw[upd_ne _ _ e']at h2 h4;cases h3;have g1:=hnew b h5;have g2:=hs.blk i' hd2 b h2 h4 h6;omega
  .by_cases e':i'=id
   .subst e';rw[jf]at h4;rw[upd_ne _ _ e]at h1 h3;cases h4;have g1:=hnew b h6;have g2:=hs.blk i hd1 b h1 h3 h5;omega
   .rw [upd_ne _ _ e]at h1 h3;rw[upd_ne _ _ e']at h2 h4;exact hs.inj i i' hd1 hd2 b h1 h2 h3 h4 h5 h6
 .intro i;by_cases e:i=id
  .subst e;rw[jf,jf];exact Or.inr hok
  .rw [upd_ne _ _ e,upd_ne _ _ e];exact Or.inl ⟨rfl,rfl,λhd1 b ha hm hi=>hb.block b (hs.blk i hd1 b ha hm hi).1⟩
inductive Rd where
 |fresh (id:Nat)
 |obj (id:Nat) (o:Obj)
 |cell (id off:Nat) (v:V)
 |elem (id i k:Nat) (cs:Xd)
 |len (id k n:Nat)
 |blen (id n:Nat)
 |tlen (id:Nat) (f:Bool) (k n:Nat)
 |telem (id:Nat) (f:Bool) (i k:Nat) (cs:Xd)
abbrev Xm:=List Rd
inductive Wr where
 |obj (id:Nat) (o:Obj)
 |cell (id off:Nat) (v:V)
 |elem (id i:Nat) (cs:Xd)
abbrev Xn:=List Wr
def kr(st:jg):Rd->Prop
 |.fresh id=>st id = .dead
 |.obj id o=>st id=o
 |.cell id off v=>∃cs,st id = .box cs/\cs[off]? = some v
 |.elem id i k cs=>∃xs,st id = .row k xs/\xs[i]? = some cs
 |.len id k n=>∃xs,st id = .row k xs/\xs.length=n
 |.blen id n=>∃cs,st id = .box cs/\cs.length=n
 |.tlen id f k n=>∃xs,st id = .tre f k xs/\xs.length=n
 |.telem id f i k cs=>∃xs,st id = .tre f k xs/\xs[i]? = some cs
def Wr.id:Wr->Nat
 |.obj id _=>id
 |.cell id _ _=>id
 |.elem id _ _=>id
def yC(xs:Xc)(i:Nat)(cs:Xd):Xc:=xs.set i cs
def Wr.on:Wr->Obj->Obj
 |.obj _ o,_=>o
 |.cell _ off v,.box cs=>.box (cs.set off v)
 |.elem _ i cs,.row k xs=>.row k (yC xs i cs)
 |.elem _ i cs,.tre f k xs=>.tre f k (yC xs i cs)
 |_,o=>o
def app(st:jg)(w:Wr):jg:=upd st w.id (w.on (st w.id))
def jz(st:jg)(ws:Xn):jg:=ws.foldl app st
def K7:Wr->Rd->Prop
 |.obj id _,.fresh id'=>id≠id'
 |.obj id _,.obj id' _=>id≠id'
 |.obj id _,.cell id' _ _=>id≠id'
 |.obj id _,.elem id' _ _ _=>id≠id'
 |.obj id _,.len id' _ _=>id≠id'
 |.obj id _,.blen id' _=>id≠id'
 |.obj id _,.tlen id' _ _ _=>id≠id'
 |.obj id _,.telem id' _ _ _ _=>id≠id'
 |.cell id _ _,.tlen id' _ _ _=>id≠id'
 |.cell id _ _,.telem id' _ _ _ _=>id≠id'
 |.elem _ _ _,.tlen _ _ _ _=>True
 |.elem id i _,.telem id' _ i' _ _=>id≠id'\/i≠i'
 |.cell _ _ _,.blen _ _=>True
 |.elem id _ _,.blen id' _=>id≠id'
 |.cell id off _,.cell id' off' _=>id≠id'\/off≠off'
 |.cell id _ _,.fresh id'=>id≠id'
 |.cell id _ _,.obj id' _=>id≠id'
 |.cell id _ _,.elem id' _ _ _=>id≠id'
 |.cell id _ _,.len id' _ _=>id≠id'
 |.elem id i _,.elem id' i' _ _=>id≠id'\/i≠i'
 |.elem _ _ _,.len _ _ _=>True
 |.elem id _ _,.fresh id'=>id≠id'
 |.elem id _ _,.obj id' _=>id≠id'
 |.elem id _ _,.cell id' _ _=>id≠id'
def K8:Wr->Wr->Prop
 |.obj id _,.obj id' _=>id≠id'
 |.obj id _,.cell id' _ _=>id≠id'
 |.obj id _,.elem id' _ _=>id≠id'
 |.cell id _ _,.obj id' _=>id≠id'
 |.cell id off _,.cell id' off' _=>id≠id'\/off≠off'
 |.cell id _ _,.elem id' _ _=>id≠id'
 |.elem id _ _,.obj id' _=>id≠id'
 |.elem id _ _,.cell id' _ _=>id≠id'
 |.elem id i _,.elem id' i' _=>id≠id'\/i≠i'
theorem jsv(st:jg)(w:Wr){i:Nat}(h:i≠w.id):app st w i=st i:=upd_ne _ _ h
def Rd.id:Rd->Nat
 |.fresh id=>id
 |.obj id _=>id
 |.cell id _ _=>id
 |.elem id _ _ _=>id
 |.len id _ _=>id
 |.blen id _=>id
 |.tlen id _ _ _=>id
 |.telem id _ _ _ _=>id
theorem jst{st st':jg}{r:Rd}(h:st' r.id=st r.id):kr st' r↔kr st r:=by
 cases r<;>simp only[Rd.id]at h<;>simp only[kr,h]
theorem jsu{w:Wr}{r:Rd}{o:Obj}{st st':jg}(h:K7 w r)(e:r.id=w.id)(h1:st r.id=o)(h2:st' r.id=w.on o):kr st' r↔kr st r:=by
 cases w with
 |obj id o=>cases r<;>simp only[Rd.id,Wr.id]at e<;>simp only[K7]at h<;>exact absurd e.symm h
 |cell id off v=>
  cases r with
  |cell id' off' v'=>
   simp only[Rd.id,Wr.id]at e h1 h2;have h:off≠off':=h.resolve_left (λh=>h e.symm);simp only[kr,h1,h2];cases o<;>simp only[Wr.on]
   rename_i cs;constructor
   .rintro ⟨ds,g1,g2⟩;cases g1;rw[List.getElem?_set_ne h]at g2;exact⟨cs,rfl,g2⟩
   .rintro ⟨ds,g1,g2⟩;cases g1;exact⟨_,rfl,by rw[List.getElem?_set_ne h];exact g2⟩
  |blen id' n'=>
   simp only[Rd.id,Wr.id]at e h1 h2;simp only[kr,h1,h2];cases o<;>simp only[Wr.on]
   rename_i cs;constructor
   .rintro ⟨ds,g1,g2⟩;cases g1;exact⟨cs,rfl,by simpa using g2⟩
   .rintro ⟨ds,g1,g2⟩;cases g1;exact⟨_,rfl,by simpa using g2⟩
  |_=>simp only[Rd.id,Wr.id]at e;simp only[K7]at h;exact absurd e.symm h
 |elem id i cs=>
  cases r with
  |elem id' i' k' cs'=>
   simp only[Rd.id,Wr.id]at e h1 h2;have h:i≠i':=h.resolve_left (λh=>h e.symm);simp only[kr,h1,h2];cases o with
   |row k xs=>
    simp only[Wr.on,yC];constructor
    .rintro ⟨ds,g1,g2⟩;cases g1;rw[List.getElem?_set_ne h]at g2;exact⟨xs,rfl,g2⟩
    .rintro ⟨ds,g1,g2⟩;cases g1;exact⟨_,rfl,by rw[List.getElem?_set_ne h];exact g2⟩
   |tre f k xs=>constructor<;>rintro⟨_,g1,_⟩<;>cases g1
   |_=>simp only[Wr.on]
  |len id' k' n'=>
   simp only[Rd.id,Wr.id]at e h1 h2;simp only[kr,h1,h2];cases o with
   |row k xs=>
    simp only[Wr.on,yC];constructor
    .rintro ⟨ds,g1,g2⟩;cases g1;exact⟨xs,rfl,by simpa using g2⟩
    .rintro ⟨ds,g1,g2⟩;cases g1;exact⟨_,rfl,by simpa using g2⟩
   |tre f k xs=>constructor<;>rintro⟨_,g1,_⟩<;>cases g1
   |_=>simp only[Wr.on]
  |tlen id' f' k' n'=>
   simp only[Rd.id,Wr.id]at e h1 h2;simp only[kr,h1,h2];cases o with
   |tre f k xs=>
    simp only[Wr.on,yC];constructor
    .rintro ⟨ds,g1,g2⟩;cases g1;exact⟨xs,rfl,by simpa using g2⟩
    .rintro ⟨ds,g1,g2⟩;cases g1;exact⟨_,rfl,by simpa using g2⟩
   |row k xs=>constructor<;>rintro⟨_,g1,_⟩<;>cases g1
   |_=>simp only[Wr.on]
  |telem id' f' i' k' cs'=>
   simp only[Rd.id,Wr.id]at e h1 h2;have h:i≠i':=h.resolve_left (λh=>h e.symm);simp only[kr,h1,h2];cases o with
   |tre f k xs=>
    simp only[Wr.on,yC];constructor
    .rintro ⟨ds,g1,g2⟩;cases g1;rw[List.getElem?_set_ne h]at g2;exact⟨xs,rfl,g2⟩
    .rintro ⟨ds,g1,g2⟩;cases g1;exact⟨_,rfl,by rw[List.getElem?_set_ne h];exact g2⟩
   |row k xs=>constructor<;>rintro⟨_,g1,_⟩<;>cases g1
   |_=>simp only[Wr.on]
  |_=>simp only[Rd.id,Wr.id]at e;simp only[K7]at h;exact absurd e.symm h
theorem jpS{st:jg}{w:Wr}{r:Rd}(h:K7 w r):kr (app st w) r↔kr st r:=by
 by_cases e:r.id=w.id
 .exact jsu h e rfl (by rw[e];exact jf _ _ _)
 .exact jst (jsv st w e)
theorem jbL{r:Rd} :∀(ws:Xn)(st:jg),(∀w∈ws,K7 w r)->(kr (jz st ws) r↔kr st r)
 | [],_,_=>Iff.rfl
 |w::ws,st,h=>(jbL ws (app st w) λw' hw=>h w' (by simp[hw])).trans (jpS (h w (by simp)))
theorem jdq{α:Type}(f:Nat->α)(i:Nat)(x y:α):upd (upd f i x) i y=upd f i y:=by
 funext k;by_cases h:k=i
 .subst h;rw[jf,jf]
 .rw [upd_ne _ _ h,upd_ne _ _ h,upd_ne _ _ h]
theorem jqQ{w w':Wr}(h:K8 w w')(e:w.id=w'.id)(o:Obj):w'.on (w.on o)=w.on (w'.on o):=by
 cases w with
 |obj id o=>cases w'<;>simp only[Wr.id]at e<;>simp only[K8]at h<;>exact absurd e h
 |cell id off v=>
  cases w' with
  |cell id' off' v'=>
   have h:off≠off':=h.resolve_left (λh=>h e);cases o<;>simp only[Wr.on,List.set_comm _ _ h]
  |_=>simp only[Wr.id]at e;simp only[K8]at h;exact absurd e h
 |elem id i cs=>
  cases w' with
  |elem id' i' cs'=>
   have h:i≠i':=h.resolve_left (λh=>h e);cases o<;>simp only[Wr.on,yC,List.set_comm _ _ h]
  |_=>simp only[Wr.id]at e;simp only[K8]at h;exact absurd e h
theorem jno{st:jg}{w w':Wr}(h:K8 w w'):app (app st w) w'=app (app st w') w:=by
 unfold app;by_cases e:w.id=w'.id
 .rw [<-e,jf,jf,jdq,jdq,jqQ h e]
 .rw [upd_ne _ _ (Ne.symm e),upd_ne _ _ e];exact jiM _ _ _ e
theorem Z8{w:Wr} :∀(ws:Xn)(st:jg),(∀w'∈ws,K8 w w')->jz (app st w) ws=app (jz st ws) w
 | [],_,_=>rfl
 |w'::ws,st,h=>by
  show jz (app (app st w) w') ws=app (jz (app st w') ws) w;rw[jno (h w' (by simp)),Z8 ws _ λw'' hw=>h w'' (by simp[hw])]
theorem jdV:∀(us ws:Xn)(st:jg),(∀u∈us,∀w∈ws,K8 u w)->jz (jz st us) ws=jz (jz st ws) us
 | [],_,_,_=>rfl
 |u::us,ws,st,h=>by
  show jz (jz (app st u) us) ws=jz (app (jz st ws) u) us;rw[jdV us ws _ λu' hu=>h u' (by simp[hu]),Z8 ws st (h u (by simp))]
structure Tx where
 v:V
 rds:Xm
 wrs:Xn
def zO(X:Ctx)(w:World)(O0:Nat->Prop)(m:jG)(st:jg)(wrs:Xn)(v:V)(w':World)(u:Value):Prop:=
 ∃m',Chg w m st w' m' (jz st wrs)/\Sto X w' O0 m' (jz st wrs)/\relV w' (Ow O0 m' (jz st wrs)) m' v u
def Upon(P:Program)(R:World->Value->Prop)(w:World):Result Next->Prop
 |.ok (.value u) w'=>R w' u
 |.ok .skip w'=>R w' undef
 |.ok (.enter f args) w'=>w'=w/\Calls P f args w λe w''=>∃u,e = .returned u/\R w'' u
 |_=>False
def jB(P:Program)(X:Ctx)(o:Oper)(ρ:Operand->V)(t:Tx):Prop:=
 ∀(w:World)(O0:Nat->Prop)(m:jG)(st:jg)(ev:Operand->Value),Sto X w O0 m st->(∀r∈t.rds,kr st r)->
  (∀x∈o.op.operands,relV w (Ow O0 m st) m (ρ x) (ev x))->(∀v,ev (.const v)=v)->Upon P (zO X w O0 m st t.wrs t.v) w ((execOp ev o).run P w)
structure St where
 n:Nat
 fr:Nat->V
 st:jg
 nx:Nat
 sh:Option Xf
def jhM:Value->V
 |.slice none 0 0=>.nil 0
 |v=>.d (.val v)
def QS(n:Nat)(fr:Nat->V):Operand->V
 |.tmp t=>bif Nat.blt t n then fr t else .top
 |.const v=>jhM v
 |.global g=>.d (.val (.pointer (some ⟨g,0,none⟩)))
 |.func f=>.fn f []
structure Sim(X:Ctx)(w0:World)(Z0 O0:Nat->Prop)(shv:Option (List Hd))(m:jG)(s:St)(a:Act)(w:World):Prop where
 defers:a.defers=[]
 tsz:a.tmps.size=s.n
 os:w.os=w0.os
 tape:w.tape=w0.tape
 output:Quiet w0 w
 size:w0.heap.size<=w.heap.size
 keep:∀b:Nat,b<w0.heap.size-> ¬Z0 b->w.heap[b]? = w0.heap[b]?
 new:∀b,Mz m s.st b->Z0 b\/w0.heap.size<=b
 sto:Sto X w O0 m s.st
 fr:∀(i:Nat)(v:Value),a.tmps[i]? = some v->relV w (Ow O0 m s.st) m (s.fr i) v
 sh:s.sh.map (λl=>l.map m)=shv.map (λl=>l.map some)
 shf:∀s,shv=some s-> ∀hd∈s,hd.fixed=true
def zY(fr:Nat->V)(dst:Option Tmp)(r:V):Nat->V:=match dst with|some d=>upd fr d r|none=>fr
section
variable{X:Ctx}{w0:World}{Z0 O0:Nat->Prop}{shv:Option (List Hd)}{m:jG}{s:St}{a:Act}{w:World}{P:Program}
theorem jig{O:Nat->Prop}(v:Value):relV w O m (jhM v) v:=by
 unfold jhM;split
 .simp only[relV];exact⟨none,rfl⟩
 .simp [relV,rel]
theorem Sim.ev(h:Sim X w0 Z0 O0 shv m s a w)(x:Operand):relV w (Ow O0 m s.st) m (QS s.n s.fr x) (a.eval x):=by
 cases x with
 |tmp t=>
  simp only[QS,Act.eval];cases hb:Nat.blt t s.n with
  |false=>simp[relV]
  |true=>
   have hlt:t<a.tmps.size:=by rw[h.tsz];simpa[Nat.blt_eq]using hb
   have:=h.fr t a.tmps[t] (Array.getElem?_eq_getElem hlt);simpa[Array.getD,hlt]using this
 |const v=>exact jig v
 |global g=>simp[QS,Act.eval,relV,rel]
 |func f=>simp only[QS,Act.eval,relV,jb];exact⟨[],rfl,rfl⟩
theorem Sim.put(h:Sim X w0 Z0 O0 shv m s a w)(dst:Option Tmp){r:V}{v:Value}(hr:relV w (Ow O0 m s.st) m r v) :
  Sim X w0 Z0 O0 shv m { s with fr:=zY s.fr dst r } (a.put dst v) w:=by
 cases dst with
 |none=>exact h
 |some d=>
  refine⟨h.defers,by simpa[Act.put]using h.tsz,h.os,h.tape,h.output,h.size,h.keep,h.new,h.sto,?_,h.sh,h.shf⟩;intro i u hu;simp only[Act.put]at hu;simp only[zY];by_cases e:i=d
  .subst e;rw[jf];rw[Array.getElem?_setIfInBounds]at hu;simp only[if_true]at hu;split at hu
   .cases hu;exact hr
   .cases hu
  .rw [upd_ne _ _ e];rw[Array.getElem?_setIfInBounds,if_neg (Ne.symm e)]at hu;exact h.fr i u hu
theorem jlm{m m':jG}(h:JP m m'):∀{l:Xf}{r:List Hd},(∀hd∈r,hd.fixed=true)->l.map m=r.map some->l.map m'=r.map some
 | [],r,_,e=>by cases r with|nil=>rfl|cons _ _=>cases e
 |i::l,[],_,e=>by cases e
 |i::l,x::r,hf,e=>by
  simp only[List.map_cons,List.cons.injEq]at e⊢;obtain⟨x',h1,h2⟩:=h _ _ e.1;rw[h2.eq (hf x (by simp))]at h1;exact⟨h1,jlm h (λhd hm=>hf hd (by simp[hm])) e.2⟩
theorem jpl{m m':jG}(h:JP m m'):∀{l:Option Xf}{r:Option (List Hd)},(∀s,r=some s-> ∀hd∈s,hd.fixed=true)->l.map (λl=>l.map m)=r.map (λl=>l.map some)->l.map (λl=>l.map m')=r.map (λl=>l.map some)
 |none,none,_,_=>rfl
 |none,some _,_,e=>by cases e
 |some _,none,_,e=>by cases e
 |some l,some r,hf,e=>by
  simp only[Option.map_some,Option.some.injEq]at e⊢;exact jlm h (hf r rfl) e
theorem Sim.chg(h:Sim X w0 Z0 O0 shv m s a w){w':World}{m':jG}{st':jg}(hc:Chg w m s.st w' m' st')(hs:Sto X w' O0 m' st') :
  Sim X w0 Z0 O0 shv m' { s with st:=st' } a w' where
 defers:=h.defers
 tsz:=h.tsz
 os:=hc.os.trans h.os
 tape:=hc.tape.trans h.tape
 output:=hc.output.trans h.output
 size:=Nat.le_trans h.size hc.size
 keep:=λb hb hn=>by
  have h2:¬Mz m s.st b:=λhm=>by
   rcases h.new b hm with h3|h3
   .exact hn h3
   .omega
  exact(hc.keep b (Nat.lt_of_lt_of_le hb h.size) h2).trans (h.keep b hb hn)
 new:=λb hb=>by
  rcases hc.new b hb with h1|h1
  .exact h.new b h1
  .exact Or.inr (Nat.le_trans h.size h1)
 sto:=hs
 fr:=λi v hv=>hc.relV (h.fr i v hv)
 sh:=jpl hc.mext h.shf h.sh
 shf:=h.shf
theorem Sim.below(h:Sim X w0 Z0 O0 shv m s a w){w':World}(hb:Below w.heap.size w w'):Sim X w0 Z0 O0 shv m s a w':=
 h.chg (Chg.below hb) (h.sto.below hb)
theorem jh1{o:Oper}{t:Tx}{N:Act->World->Prop}{Q:Exit->Act->World->Prop}(hs:Sim X w0 Z0 O0 shv m s a w)(ht:jB P X o (QS s.n s.fr) t)(hr:∀r∈t.rds,kr s.st r)
  (hN:∀m' a' w',Sim X w0 Z0 O0 shv m' { s with fr:=zY s.fr o.dst t.v,st:=jz s.st t.wrs } a' w'->N a' w'):o.wp P a w N Q:=by
 have h:=ht w O0 m s.st a.eval hs.sto hr (λx _=>hs.ev x) λ_=>rfl;unfold Oper.wp;generalize (execOp a.eval o).run P w=res at *;have key:∀u w',zO X w O0 m s.st t.wrs t.v w' u->N (a.put o.dst u) w':=by
  rintro u w' ⟨m',h1,h2,h3⟩;exact hN m' _ _ ((hs.chg h1 h2).put o.dst h3)
 cases res with
 |ok n w'=>
  cases n<;>simp only[Upon]at h<;>simp only[Oper.upon]
  case value u=>exact key u w' h
  case skip=>exact key _ w' h
  case enter f args=>
   obtain⟨rfl,hc⟩:=h;refine hc.mono ?_;rintro e w'' ⟨v,rfl,h1⟩;exact key v w'' h1
 |halt x w'=>simp only[Upon]at h
def jsz:Value->Option Bool|.bool b=>some b|_=>none
def JG(ops:Array Oper)(n:Nat)(o:Oper)(fr:Nat->V)(b:Bool):Prop:=
 match o.guard with
 |none=>b=true
 |some (j,want)=>∃d v,(ops[j]?).bind (·.dst)=some d/\d<n/\fr d = .d (.val v)/\(jsz v == some want)=b
theorem je8{ops:Array Oper}{o:Oper}{b:Bool}(h:Sim X w0 Z0 O0 shv m s a w)(hw:JG ops s.n o s.fr b):Region.wanted o (yielded ops a.tmps)=b:=by
 unfold JG at hw;unfold Region.wanted;cases hg:o.guard with
 |none=>simp only[hg]at hw⊢;exact hw.symm
 |some gw=>
  obtain⟨j,want⟩:=gw;simp only[hg]at hw⊢;obtain⟨d,v,h1,h2,h3,h4⟩:=hw;unfold yielded;rw[h1];simp only[Option.bind_some];have hlt:d<a.tmps.size:=by rw[h.tsz];exact h2
  have:=h.fr d a.tmps[d] (Array.getElem?_eq_getElem hlt);rw[h3]at this;simp only[relV,rel]at this;rw[Array.getElem?_eq_getElem hlt,this,<-h4];cases v<;>rfl
def AY(P:Program)(X:Ctx)(ops:Array Oper)(n:Nat)(o:Oper)(fr:Nat->V)(t:Tx):Prop:=
 (JG ops n o fr true/\jB P X o (QS n fr) t)\/(JG ops n o fr false/\t.v = .d (.val undef)/\t.wrs=[])
theorem wpOp_step{ops:Array Oper}{o:Oper}{t:Tx}{N:Act->World->Prop}{Q:Exit->Act->World->Prop}(hs:Sim X w0 Z0 O0 shv m s a w)(hy:AY P X ops s.n o s.fr t)(hr:∀r∈t.rds,kr s.st r)
  (hN:∀m' a' w',Sim X w0 Z0 O0 shv m' { s with fr:=zY s.fr o.dst t.v,st:=jz s.st t.wrs } a' w'->N a' w') :
  (Region.wanted o (yielded ops a.tmps)=true/\o.wp P a w N Q)\/(Region.wanted o (yielded ops a.tmps)=false/\N (a.put o.dst undef) w):=by
 rcases hy with⟨h1,h2⟩|⟨h1,h2,h3⟩
 .exact Or.inl ⟨je8 hs h1,jh1 hs h2 hr hN⟩
 .refine Or.inr ⟨je8 hs h1,hN m _ _ ?_⟩;rw[h2,h3];exact hs.put o.dst (by simp[relV,rel])
def jl2(P:Program)(X:Ctx)(ops:Array Oper)(n:Nat)(K:(Nat->V)->jg->Prop):List Oper->List Tx->(Nat->V)->jg->Prop
 | [],[],fr,st=>K fr st
 |o::os,t::ts,fr,st=>AY P X ops n o fr t/\(∀r∈t.rds,kr st r)/\jl2 P X ops n K os ts (zY fr o.dst t.v) (jz st t.wrs)
 |_,_,_,_=>False
theorem Zv{ops:Array Oper}{K:(Nat->V)->jg->Prop}{Q:Exit->Act->World->Prop}(n nx:Nat)(sh:Option Xf)
  (hQ:∀fr st m a w,K fr st->Sim X w0 Z0 O0 shv m ⟨n,fr,st,nx,sh⟩ a w->Q .normal a w):∀(l:List Oper)(ts:List Tx)(fr:Nat->V)(st:jg)(m:jG)(a:Act)(w:World),
  Sim X w0 Z0 O0 shv m ⟨n,fr,st,nx,sh⟩ a w->jl2 P X ops n K l ts fr st->wpList P ops Q l a w
 | [],[],fr,st,m,a,w,hs,h=>hQ fr st m a w h hs
 |o::os,t::ts,fr,st,m,a,w,hs,h=>by
  obtain⟨h1,h2,h3⟩:=h;unfold wpList;rcases wpOp_step (Q:=Q) hs h1 h2 (λm' a' w' hs'=>Zv n nx sh hQ os ts _ _ m' a' w' hs' h3)with⟨g1,g2⟩|⟨g1,g2⟩
  .rw [g1,if_pos rfl];exact Or.inl g2
  .rw [g1,if_neg (by simp)];exact g2
 | [],_::_,_,_,_,_,_,_,h=>h.elim
 |_::_,[],_,_,_,_,_,_,h=>h.elim
theorem jsQ{n:Nat}{fr:Nat->V}{dst:Option Tmp}{r:V}{x:Operand}(h:∀d,dst=some d->x≠ .tmp d):QS n (zY fr dst r) x=QS n fr x:=by
 cases dst with
 |none=>rfl
 |some d=>
  cases x with
  |tmp t=>
   have hne:t≠d:=λe=>h d rfl (e ▸ rfl);simp[QS,zY,upd_ne _ _ hne]
  |_=>rfl
theorem jmx(fr:Nat->V){x y:Option Tmp}(v u:V)(h:∀d,x=some d->y≠some d):zY (zY fr x v) y u=zY (zY fr y u) x v:=by
 cases x with
 |none=>rfl
 |some d=>
  cases y with
  |none=>rfl
  |some e=>
   have hne:d≠e:=λhe=>h d rfl (he ▸ rfl);exact jiM _ _ _ hne
theorem jB.congr{o:Oper}{ρ ρ':Operand->V}{t:Tx}(h:jB P X o ρ t)(he:∀x∈o.op.operands,ρ' x=ρ x):jB P X o ρ' t:=
 λw O0 m st ev hs ha hr=>h w O0 m st ev hs ha λx hx=>by rw[<-he x hx];exact hr x hx
theorem je7{ops:Array Oper}{n:Nat}{o:Oper}{fr:Nat->V}{dst:Option Tmp}{r:V}{b:Bool}(h:∀d,dst=some d->d ∉ o.looksAt ops):JG ops n o (zY fr dst r) b↔JG ops n o fr b:=by
 unfold JG;cases hg:o.guard with
 |none=>rfl
 |some gw=>
  obtain⟨g,want⟩:=gw;simp only;have hy:∀d,(ops[g]?).bind (·.dst)=some d->zY fr dst r d=fr d:=by
   intro d hd;cases dst with
   |none=>rfl
   |some d'=>
    have hne:d≠d':=λe=>h d' rfl (by subst e;simp[Oper.looksAt,hg,hd])
    exact upd_ne _ _ hne
  constructor
  .rintro ⟨d,v,h1,h2,h3,h4⟩;exact⟨d,v,h1,h2,by rw[<-hy d h1];exact h3,h4⟩
  .rintro ⟨d,v,h1,h2,h3,h4⟩;exact⟨d,v,h1,h2,by rw[hy d h1];exact h3,h4⟩
theorem AY.put{ops:Array Oper}{n:Nat}{o:Oper}{fr:Nat->V}{t:Tx}{dst:Option Tmp}{u:V}(h:∀d,dst=some d->d ∉ o.looksAt ops):AY P X ops n o (zY fr dst u) t↔AY P X ops n o fr t:=by
 have he:∀x∈o.op.operands,QS n (zY fr dst u) x=QS n fr x:=λx hx=>jsQ λd hd hxd=>h d hd (by
  subst hxd;exact List.mem_append_left _ (List.mem_filterMap.2 ⟨.tmp d,by simpa using hx,rfl⟩))
 unfold AY;rw[je7 h,je7 h];constructor
 .rintro (⟨h1,h2⟩|h1)
  .exact Or.inl ⟨h1,h2.congr λx hx=>(he x hx).symm⟩
  .exact Or.inr h1
 .rintro (⟨h1,h2⟩|h1)
  .exact Or.inl ⟨h1,h2.congr he⟩
  .exact Or.inr h1
def jn1(t u:Tx):Prop:=(∀x∈t.wrs,∀r∈u.rds,K7 x r)/\(∀x∈u.wrs,∀r∈t.rds,K7 x r)/\(∀x∈t.wrs,∀y∈u.wrs,K8 x y)
def aqT(P:Program)(X:Ctx)(ops:Array Oper)(T:List Tx)(n i:Nat)(K:(Nat->V)->jg->Prop)(fr:Nat->V)(st:jg):Prop:=
 match ops[i]?,T[i]? with
 |some o,some t=>AY P X ops n o fr t/\(∀r∈t.rds,kr st r)/\K (zY fr o.dst t.v) (jz st t.wrs)
 |none,_=>K fr st
 |_,_=>False
theorem jnp{ops:Array Oper}{T:List Tx}{n i:Nat}{K K':(Nat->V)->jg->Prop}{fr:Nat->V}{st:jg}(h:∀f s,K f s->K' f s)(hh:aqT P X ops T n i K fr st):aqT P X ops T n i K' fr st:=by
 unfold aqT at *;split<;>rename_i h1<;>simp_all
variable{md:Region.Mode}
def jnk(P:Program)(X:Ctx)(md:Region.Mode)(ops:Array Oper)(T:List Tx)(n:Nat)(K:(Nat->V)->jg->Prop):Nat->Array Bool->(Nat->V)->jg->Prop
 |0,listed,fr,st=>Region.ready md ops listed=[]/\K fr st
 |fuel+1,listed,fr,st=>
  (Region.ready md ops listed=[]->K fr st)/\
  ∀i∈Region.ready md ops listed,aqT P X ops T n i (jnk P X md ops T n K fuel (listed.setIfInBounds i true)) fr st
theorem jpU{ops:Array Oper}{T:List Tx}{n i j:Nat}{oi oj:Oper}{ti tj:Tx}(hi:ops[i]? = some oi)(hti:T[i]? = some ti)(hj:ops[j]? = some oj)(htj:T[j]? = some tj)(hap:oi.apart ops oj=true)(hin:jn1 ti tj)
  {K:(Nat->V)->jg->Prop} {fr:Nat->V} {st:jg} (hy:AY P X ops n oi fr ti) (hr:∀r∈ti.rds,kr st r) (h:aqT P X ops T n j K (zY fr oi.dst ti.v) (jz st ti.wrs)) :
  aqT P X ops T n j (λf s=>AY P X ops n oi f ti/\(∀r∈ti.rds,kr s r)/\K (zY f oi.dst ti.v) (jz s ti.wrs)) fr st:=by
 obtain⟨h1,h2,h3⟩:=Oper.apart_spec hap;unfold aqT at *;simp only[hj,htj]at *;obtain⟨g1,g2,g3⟩:=h;refine⟨(AY.put h1).1 g1,λr hr'=>(jbL ti.wrs st λx hx=>hin.1 x hx r hr').1 (g2 r hr'),(AY.put h3).2 hy,λr hr'=>(jbL tj.wrs st λx hx=>hin.2.1 x hx r hr').2 (hr r hr'),?_⟩;rw[<-jmx fr ti.v tj.v h2,<-jdV ti.wrs tj.wrs st hin.2.2];exact g3
def jfv(md:Region.Mode)(ops:Array Oper)(i:Nat):Nat->Oper->Prop
 |0,_=>False
 |d+1,o=>∃e∈o.after,Region.binds md e=true/\(e.on=i\/ ∃ok,ops[e.on]? = some ok/\jfv md ops i d ok)
def jfs(md:Region.Mode)(ops:Array Oper)(i:Nat)(o:Oper):Prop:=∀d,¬jfv md ops i d o
def Closed(md:Region.Mode)(ops:Array Oper)(listed:Array Bool):Prop:=∀(k:Nat)(ok:Oper),ops[k]? = some ok->listed.getD k false=true-> ∀e∈ok.after,Region.binds md e=true->listed.getD e.on false=true
theorem Yd{listed:Array Bool}{j k:Nat}(h:listed.getD k false=true):(listed.setIfInBounds j true).getD k false=true:=by
 by_cases e:j=k
 .subst e;rcases Nat.lt_or_ge j listed.size with h'|h'
  .simp [Array.getD,h']
  .simp [Array.getD,Nat.not_lt.2 h']at h
 .rw [getD_set_ne false e];exact h
theorem Closed.set{ops:Array Oper}{listed:Array Bool}{j:Nat}(h:Closed md ops listed)(hj:j∈Region.ready md ops listed):Closed md ops (listed.setIfInBounds j true):=by
 intro k ok hk hl e he hb;by_cases e1:j=k
 .subst e1;obtain⟨_,oj,hoj,hall⟩:=mem_ready.1 hj;rw[hk]at hoj;cases hoj;exact Yd (hall e he hb)
 .rw [getD_set_ne false e1]at hl;exact Yd (h k ok hk hl e he hb)
theorem jiU{ops:Array Oper}{T:List Tx}{n:Nat}{K:(Nat->V)->jg->Prop}{i:Nat}{oi:Oper}{ti:Tx}(hi:ops[i]? = some oi)(hti:T[i]? = some ti)(hT:T.length=ops.size) :
  ∀(fuel:Nat)(listed:Array Bool)(fr:Nat->V)(st:jg),
   (∀j oj,ops[j]? = some oj->j≠i->listed.getD j true=false->(∀e∈oj.after,Region.binds md e=true->e.on≠i)->jfs md ops i oj->oi.apart ops oj=true/\ ∀tj,T[j]? = some tj->jn1 ti tj)->
   Closed md ops listed->i∈Region.ready md ops listed->AY P X ops n oi fr ti->(∀r∈ti.rds,kr st r)->
   jnk P X md ops T n K fuel (listed.setIfInBounds i true) (zY fr oi.dst ti.v) (jz st ti.wrs)->jnk P X md ops T n K (fuel+1) listed fr st:=by
 intro fuel;have hq:∀{K:(Nat->V)->jg->Prop}{fr:Nat->V}{st:jg},AY P X ops n oi fr ti->(∀r∈ti.rds,kr st r)->K (zY fr oi.dst ti.v) (jz st ti.wrs)->aqT P X ops T n i K fr st:=by
  intro K fr st hy hr hk;unfold aqT;simp only[hi,hti];exact⟨hy,hr,hk⟩
 induction fuel with
 |zero=>
  intro listed fr st _ _ hr hy hd H;refine⟨λh=>(by rw[h]at hr;cases hr),λj hj=>?_⟩;by_cases hji:j=i
  .subst hji;exact hq hy hd H
  .have:=ready_mono hj hji;rw[H.1]at this;cases this
 |succ fuel ih=>
  intro listed fr st hfree hcl hr hy hd H;refine⟨λh=>(by rw[h]at hr;cases hr),λj hj=>?_⟩;by_cases hji:j=i
  .subst hji;exact hq hy hd H
  .have h1:=H.2 j (ready_mono hj hji);obtain⟨hjun,oj,hoj,hall⟩:=mem_ready.1 hj;have hnot:∀e∈oj.after,Region.binds md e=true->e.on≠i:=λe he hb heq=>by
    have h1:=hall e he hb;have h0:=(mem_ready.1 hr).1;rw[heq]at h1;rcases Nat.lt_or_ge i listed.size with h'|h'
    .simp [h']at h0 h1;rw[h0]at h1;cases h1
    .simp [Array.getElem?_eq_none h']at h1
   obtain⟨tj,htj⟩:∃tj,T[j]? = some tj:=⟨_,List.getElem?_eq_getElem (by rw[hT];exact(Array.getElem?_eq_some_iff.1 hoj).1)⟩
   have hi0:¬listed.getD i false=true:=λh1=>by
    have h0:=(mem_ready.1 hr).1;rcases Nat.lt_or_ge i listed.size with h'|h'
    .simp [h']at h0 h1;rw[h0]at h1;cases h1
    .simp [Array.getElem?_eq_none h']at h1
   have hpath:jfs md ops i oj:=by
    have key:∀(d:Nat)(o:Oper),(∀e∈o.after,Region.binds md e=true->listed.getD e.on false=true)-> ¬jfv md ops i d o:=by
     intro d;induction d with
     |zero=>intro o _ h;exact h
     |succ d ihd=>
      intro o ha hp;obtain⟨e,he,hb,hp⟩:=hp;rcases hp with hp|⟨ok,hok,hp⟩
      .exact hi0 (hp ▸ ha e he hb)
      .exact ihd ok (hcl e.on ok hok (ha e he hb)) hp
    exact λd=>key d oj hall
   have hf:=hfree j oj hoj hji hjun hnot hpath;have h2:=jpU hi hti hoj htj hf.1 (hf.2 tj htj) hy hd h1;have hfree':∀k ok,ops[k]? = some ok->k≠i->(listed.setIfInBounds j true).getD k true=false->
     (∀e∈ok.after,Region.binds md e=true->e.on≠i)->jfs md ops i ok->oi.apart ops ok=true/\ ∀tk,T[k]? = some tk->jn1 ti tk:=λk ok hk hki hun hno hpa=>by
    refine hfree k ok hk hki ?_ hno hpa;by_cases hjk:j=k
    .subst hjk;exact hjun
    .rw [getD_set_ne true hjk]at hun;exact hun
   refine jnp (λf' s' h3=>ih (listed.setIfInBounds j true) f' s' hfree' (hcl.set hj) (ready_mono hr (Ne.symm hji)) h3.1 h3.2.1 ?_) h2;rw[Array.setIfInBounds_comm _ _ hji];exact h3.2.2
def jrs(md:Region.Mode)(ops:Array Oper)(T:List Tx):Prop:=
 ∀(i j:Nat)(oj:Oper)(ti tj:Tx),i<j->ops[j]? = some oj->T[i]? = some ti->T[j]? = some tj->jfs md ops i oj->jn1 ti tj
theorem jgQ{ops:Array Oper}{T:List Tx}{n:Nat}{K:(Nat->V)->jg->Prop}(hT:T.length=ops.size)(hL:jrs md ops T):∀(l:List Oper)(ts:List Tx)(k:Nat)(listed:Array Bool)(fr:Nat->V)(st:jg),
  (∀j,l[j]? = ops[k+j]?)->(∀j,ts[j]? = T[k+j]?)->(∀j,j<k->listed.getD j true=true)->Closed md ops listed->
  Region.lexFrom md ops l.length k listed=true->jl2 P X ops n K l ts fr st->jnk P X md ops T n K l.length listed fr st
 | [],[],_,_,_,_,_,_,_,_,hB,h=>⟨by simpa[Region.lexFrom]using hB,h⟩
 |o::l,t::ts,k,listed,fr,st,hl,ht,hlt,hcl,hB,h=>by
  have h0:ops[k]? = some o:=by simpa using(hl 0).symm
  have h0':T[k]? = some t:=by simpa using(ht 0).symm
  simp only[List.length_cons,Region.lexFrom,Bool.and_eq_true]at hB;obtain⟨⟨hr,hf⟩,hB'⟩:=hB;obtain⟨hy,hd,hK⟩:=h;have hsz:k<listed.size:=by
   have:=(mem_ready.1 (show k∈Region.ready md ops listed by simpa using hr)).1;rcases Nat.lt_or_ge k listed.size with h'|h'
   .exact h'
   .simp [Array.getD,Nat.not_lt.2 h']at this
  refine jiU h0 h0' hT l.length listed fr st (λj oj hj hne hun hno hpa=>⟨Region.free_spec h0 hf j oj hj hne hun hno,λtj htj=>?_⟩) hcl (by simpa using hr) hy hd
   (jgQ hT hL l ts (k+1) _ _ _ (λj=>by have:=hl (j+1);simpa[Nat.add_assoc,Nat.add_comm 1 j]using this) (λj=>by have:=ht (j+1);simpa[Nat.add_assoc,Nat.add_comm 1 j]using this) ?_ (hcl.set (by simpa using hr)) hB' hK)
  .refine hL k j oj t tj ?_ hj h0' htj hpa;rcases Nat.lt_or_ge j k with h|h
   .rw [hlt j h]at hun;cases hun
   .omega
  .intro j hj;by_cases e:k=j
   .subst e;simp[Array.getD,hsz]
   .rw [getD_set_ne true e];exact hlt j (by omega)
 | [],_::_,_,_,_,_,_,_,_,_,_,h=>h.elim
 |_::_,[],_,_,_,_,_,_,_,_,_,h=>h.elim
theorem Yo{ops:Array Oper}{T:List Tx}{K:(Nat->V)->jg->Prop}{Q:Exit->Act->World->Prop}(n nx:Nat)(sh:Option Xf)(hT:T.length=ops.size)
  (hQ:∀fr st m a w,K fr st->Sim X w0 Z0 O0 shv m ⟨n,fr,st,nx,sh⟩ a w->Q .normal a w):∀(fuel:Nat)(listed:Array Bool)(fr:Nat->V)(st:jg)(m:jG)(a:Act)(w:World),
  Sim X w0 Z0 O0 shv m ⟨n,fr,st,nx,sh⟩ a w->jnk P X md ops T n K fuel listed fr st->wpAny P md ops Q fuel listed a w
 |0,_,fr,st,m,a,w,hs,h=>⟨h.1,hQ fr st m a w h.2 hs⟩
 |fuel+1,listed,fr,st,m,a,w,hs,h=>⟨λh0=>hQ fr st m a w (h.1 h0) hs,λi hi=>by
   have hh:=h.2 i hi;obtain⟨_,oi,hoi,_⟩:=mem_ready.1 hi;obtain⟨ti,hti⟩:∃ti,T[i]? = some ti:=⟨_,List.getElem?_eq_getElem (by rw[hT];exact(Array.getElem?_eq_some_iff.1 hoi).1)⟩;unfold aqT at hh;simp only[hoi,hti]at hh;obtain⟨h1,h2,h3⟩:=hh;unfold wpOp;simp only[hoi];rcases wpOp_step (Q:=Q) hs h1 h2 (λm' a' w' hs'=>Yo n nx sh hT hQ fuel (listed.setIfInBounds i true) _ _ m' a' w' hs' h3)with⟨g1,g2⟩|⟨g1,g2⟩
   .rw [g1,if_pos rfl];exact Or.inl g2
   .rw [g1,if_neg (by simp)];exact g2⟩
theorem jdv{id:Nat}{l:List Oper}{draw:Bool}{T:List Tx}{K:(Nat->V)->jg->Prop}{Q:Exit->Act->World->Prop}(hm:P.follows .mixedOrders=true)(hs:Sim X w0 Z0 O0 shv m s a w)
  (hd:draw=true->Region.lexB .any l.toArray=true/\T.length=l.length/\jrs .any l.toArray T)
  (h:jl2 P X l.toArray s.n K l T s.fr s.st) (hQ:∀fr st m a w,K fr st->Sim X w0 Z0 O0 shv m { s with fr:=fr,st:=st } a w->Q .normal a w):(Code.region id l.toArray draw).wp P Q a w:=by
 cases draw with
 |false=>exact wp_region_lit (Zv s.n s.nx s.sh hQ l T s.fr s.st m a w hs h)
 |true=>
  obtain⟨hB,hT,hL⟩:=hd rfl;simp only[Region.lexB,Bool.and_eq_true]at hB;have hb:Below w.heap.size w { w with drawn:=w.drawn+1 } :=⟨rfl,rfl,Quiet.step w,Nat.le_refl _,λ_ _=>rfl⟩;refine wp_region_any hm ?_;refine Yo (T:=T) (K:=K) s.n s.nx s.sh (by simpa using hT) hQ _ _ s.fr s.st m a _ (hs.below hb) ?_;have:=jgQ (P:=P) (X:=X) (n:=s.n) (K:=K) (md:= .any) (by simpa using hT) hL l T 0 (Array.replicate l.toArray.size false) s.fr s.st (by simp) (by simp) (by simp) (λk ok _ hl=>by simp[Array.getD]at hl) (by simpa using hB.2) h;simpa using this
end
noncomputable section
def I64(n:Int):Prop:= -9223372036854775808<=n/\n<=9223372036854775807
noncomputable instance(n:Int):Decidable (I64 n):=Classical.propDecidable _
abbrev vi(n:Int):A:= .val (.int .i64 n)
abbrev vy(n:Int):A:= .val (.int .u8 n)
abbrev vb(b:Bool):A:= .val (.bool b)
abbrev sv(l:Xb):A:= .val (.string ⟨⟨l⟩⟩)
def bs(b:ByteArray):Xb:=b.data.toList
@[simp] theorem jxl(l : Xb) : bs ⟨⟨l⟩⟩ = l := rfl
theorem jiZ{a b:ByteArray}(h:bs a=bs b):a=b:=by
 cases a;cases b;simp only[bs]at h;congr;exact Array.ext' h
def J6(a b:Xb):Bool:=Op.bytesLess a b
def jdz(op:BinOp)(a b:Int):Int:=
 match op with
 |.shl=>IntKind.i64.wrap (a*2 ^ min b.toNat 64)
 |.shr=>a.fdiv (2 ^ min b.toNat 64)
 |.and=>IntKind.i64.wrap ((BitVec.ofInt 64 a &&& BitVec.ofInt 64 b).toNat:Int)
 |.or=>IntKind.i64.wrap ((BitVec.ofInt 64 a ||| BitVec.ofInt 64 b).toNat:Int)
 |.andNot=>IntKind.i64.wrap ((BitVec.ofInt 64 a &&& ~~~ BitVec.ofInt 64 b).toNat:Int)
 |_=>0
def jdA(op:BinOp)(k:IntKind)(a b:Int):Int:=
 match op with
 |.shl=>k.wrap (a*2 ^ min b.toNat k.bits)
 |.shr=>a.fdiv (2 ^ min b.toNat k.bits)
 |.and=>k.wrap ((BitVec.ofInt k.bits a &&& BitVec.ofInt k.bits b).toNat:Int)
 |.or=>k.wrap ((BitVec.ofInt k.bits a ||| BitVec.ofInt k.bits b).toNat:Int)
 |.xor=>k.wrap ((BitVec.ofInt k.bits a ^^^ BitVec.ofInt k.bits b).toNat:Int)
 |.andNot=>k.wrap ((BitVec.ofInt k.bits a &&& ~~~ BitVec.ofInt k.bits b).toNat:Int)
 |_=>0
def ck(n:Int):Xl:=if I64 n then some (vi n)else none
def jtc(op:BinOp)(k:IntKind)(a b:Int):Xl:=
 match op with
 |.add=>(match k with|.i64=>ck (a+b)|k=>some (.val (.int k (k.wrap (a+b)))))
 |.sub=>(match k with|.i64=>ck (a-b)|k=>some (.val (.int k (k.wrap (a-b)))))
 |.mul=>(match k with|.i64=>ck (a*b)|k=>some (.val (.int k (k.wrap (a*b)))))
 |.eql=>some (vb (decide (a=b)))
 |.neq=>some (vb (!decide (a=b)))
 |.lss=>some (vb (decide (a<b)))
 |.leq=>some (vb (decide (a<=b)))
 |.gtr=>some (vb (decide (b<a)))
 |.geq=>some (vb (decide (b<=a)))
 |.quo=>(match k with|.i64=>if b=0 then none else ck (a.tdiv b)|_=>none)
 |.rem=>(match k with|.i64=>if b=0 then none else some (vi (a.tmod b))|_=>none)
 |.and=>(match k with|.i64=>some (vi (jdz .and a b))|k=>some (.val (.int k (jdA .and k a b))))
 |.or=>(match k with|.i64=>some (vi (jdz .or a b))|k=>some (.val (.int k (jdA .or k a b))))
 |.andNot=>(match k with|.i64=>some (vi (jdz .andNot a b))|k=>some (.val (.int k (jdA .andNot k a b))))
 |_=>none
def jtf(op:BinOp)(a b:Xb):Xl:=
 match op with
 |.add=>if a.length+b.length<=9223372036854775807 then some (sv (a++b))else none
 |.eql=>some (vb (decide (a=b)))
 |.neq=>some (vb (!decide (a=b)))
 |.lss=>some (vb (J6 a b))
 |.leq=>some (vb (J6 a b || decide (a=b)))
 |.gtr=>some (vb (!(J6 a b || decide (a=b))))
 |.geq=>some (vb (!J6 a b))
 |_=>none
def jw(op:BinOp)(isB:Bool)(a b:A):Xl:=
 match a,b with
 |.val (.int k x),.val (.int k' y)=>(match op with
  |.shl=>(match k with|.i64=>if 0<=y then some (vi (jdz .shl x y))else none|k=>if 0<=y then some (.val (.int k (jdA .shl k x y)))else none)
  |.shr=>(match k with|.i64=>if 0<=y then some (vi (jdz .shr x y))else none|k=>if 0<=y then some (.val (.int k (jdA .shr k x y)))else none)
  |op=>if k'=k then jtc op k x y else none)
 |.val (.string x),.val (.string y)=>jtf op (bs x) (bs y)
 |.val (.bool x),.val (.bool y)=>if isB then(match op with
  |.eql=>some (vb (decide (x=y)))
  |.neq=>some (vb (!decide (x=y)))
  |_=>none)else none
 |_,_=>none
def JA(op:UnOp)(a:A):Xl:=
 match op,a with
 |.not,.val (.bool x)=>some (vb !x)
 |.neg,.val (.int k x)=>some (.val (.int k (k.wrap (0-x))))
 |_,_=>none
def jcN(k':IntKind)(a:A):Xl:=
 match a with
 |.val (.int _ n)=>(match k' with|.i64=>ck n|k'=>some (.val (.int k' (k'.wrap n))))
 |_=>none
def zD(a:A):Option Bool:=match a with|.val (.bool b)=>some b|_=>none
def yF(c a b:A):Xl:=(zD c).map λt=>if t then a else b
def jK(a i:A):Xl:=
 match a,i with
 |.val (.string s),.val (.int _ n)=>if 0<=n/\n<((bs s).length:Int)then some (vy (((bs s).getD n.toNat 0).toNat:Int))else none
 |_,_=>none
def pIx(len:Nat)(i:A):Option Nat:=match i with|.val (.int _ n)=>if 0<=n/\n<(len:Int)then some n.toNat else none|_=>none
def ji(k:Nat)(a i:A):Xl:=
 match a with
 |.sl k' xs=>if k'=k then(pIx xs.length i).map λn=>.elt (xs.getD n []) 0 else none
 |_=>none
def zI(a:A):Xl:=match a with|.elt cs off=>cs[off]?|_=>none
def zX(n:Nat)(a:A):Xl:=match a with|.elt cs off=>if off+n<=cs.length then some (.agg ((cs.drop off).take n))else none|_=>none
def Z6(a:A)(n:Nat):Xl:=match a with|.elt cs off=>some (.elt cs (off+n))|_=>none
def jcO(off:Nat)(a:A):Xl:=match a with|.agg cs=>cs[off]?|_=>none
def jgc(off n:Nat)(a:A):Xl:=match a with|.agg cs=>if off+n<=cs.length then some (.agg ((cs.drop off).take n))else none|_=>none
def jcP(a:A)(n:Nat):Xl:=match a with|.tup cs=>cs[n]?|_=>none
def jyv(a:A):Xl:=match a with|.sl _ xs=>some (vi xs.length)|.val (.string s)=>some (vi (bs s).length)|_=>none
def jjG(a b:A):Xl:=match a,b with|.val (.int k x),.val (.int k' y)=>if k'=k then some (.val (.int k (if x<y then y else x)))else none|_,_=>none
def jmr(a b:A):Xl:=match a,b with|.val (.int k x),.val (.int k' y)=>if k'=k then some (.val (.int k (if y<x then y else x)))else none|_,_=>none
def juG(a:A):Xl:=match a with|.elt cs off=>some (.elt cs off)|.fn f caps=>some (.fn f caps)|_=>none
def Jg(d:Int)(x:Xl):Option Int:=match x with|none=>some d|some (.val (.int _ n))=>some n|_=>none
def jai(k:Nat)(a:A)(lo hi:Xl):Xl:=
 match a with
 |.sl k' xs=>(Jg 0 lo).bind λl=>(Jg xs.length hi).bind λh=>if k'=k/\0<=l/\l<=h/\h<=(xs.length:Int)then some (.sl k ((xs.take h.toNat).drop l.toNat))else none
 |_=>none
def jX(a:A)(lo hi:Xl):Xl:=
 match a with
 |.val (.string s)=>(Jg 0 lo).bind λl=>(Jg (bs s).length hi).bind λh=>if 0<=l/\l<=h/\h<=((bs s).length:Int)then some (sv (((bs s).take h.toNat).drop l.toNat))else none
 |_=>none
mutual
def kT:A->Bool
 |.val _=>true
 |.top=>true
 |.sl _ xs=>xs.isEmpty
 |.agg cs=>jb8 cs
 |.tup cs=>jb8 cs
 |_=>false
def jb8:Xd->Bool
 | []=>true
 |c::cs=>kT c && jb8 cs
end
section
variable{w w':World}{O O':Nat->Prop}
mutual
theorem Zn:∀(a:A)(v:Value),kT a=true->rel w O a v->rel w' O' a v
 |.top,_,_,_=>by simp[rel]
 |.val x,v,_,h=>by simpa[rel]using h
 |.sl k xs,v,hf,h=>by
  simp only[kT,List.isEmpty_iff]at hf;subst hf;simp only[rel]at h⊢;obtain⟨a,cap,h1,h2,h3,_⟩:=h;exact⟨a,cap,h1,h2,h3,Or.inl trivial⟩
 |.agg cs,v,hf,h=>by
  simp only[rel,kT]at h hf⊢;obtain⟨vs,h1,h2⟩:=h;exact⟨vs,h1,jak cs vs hf h2⟩
 |.tup cs,v,hf,h=>by
  simp only[rel,kT]at h hf⊢;obtain⟨vs,h1,h2⟩:=h;exact⟨vs,h1,jak cs vs hf h2⟩
 |.elt _ _,_,hf,_=>by simp[kT]at hf
 |.fn _ _,_,hf,_=>by simp[kT]at hf
theorem jak:∀(cs:Xd)(vs:Xh),jb8 cs=true->jm w O cs vs->jm w' O' cs vs
 | [],vs,_,h=>by simpa[jm]using h
 |c::cs,vs,hf,h=>by
  simp only[jm,jb8,Bool.and_eq_true]at h hf⊢;obtain⟨v,r,h1,h2,h3⟩:=h;exact⟨v,r,h1,Zn c v hf.1 h2,jak cs r hf.2 h3⟩
end
end
inductive TK where
 |int (k:IntKind)|str|bool|slice (e:Nat)|struct (fs:Xk)|fn|map (k e:Nat)|ptr (e:Nat)|other
structure TI where
 kind:TK
 size:Nat
 bytes:Nat
 zero:Value
def TK.plain:TK->Bool|.struct _=>false|.other=>false|_=>true
def TK.known:TK->Bool|.other=>false|_=>true
def TK.desc(P:Program)(t:Nat):TK->Prop
 |.int k=>P.underlying t=some (.int k)
 |.str=>P.underlying t=some .string
 |.bool=>P.underlying t=some .bool
 |.slice e=>P.underlying t=some (.slice e)
 |.struct fs=>∃g,P.underlying t=some (.struct g)/\g.toList.map (λf=>(f.offset,f.type))=fs
 |.fn=>∃a b c,P.underlying t=some (.func a b c)
 |.map k e=>P.underlying t=some (.map k e)
 |.ptr e=>P.underlying t=some (.pointer e)
 |.other=>True
structure TI.ok(P:Program)(t:Nat)(i:TI):Prop where
 desc:i.kind.desc P t
 info:(P.info? t).map (λj=>(j.size,j.bytes,j.zero))=some (i.size,i.bytes,some i.zero)
 zsize:i.zero.cells.size=i.size
 one:i.kind.plain=true->i.size=1
def zl(P:Program)(D:Nat->Option TI):Prop:=∀t i,D t=some i->TI.ok P t i
theorem TK.known_or{k:TK}(h:k.known=true):k.plain=true\/ ∃fs,k = .struct fs:=by
 cases k<;>simp_all [TK.known,TK.plain]
theorem TI.ok.run_isAgg{P:Program}{t:Nat}{i:TI}(h:TI.ok P t i)(w:World)(hk:i.kind.known=true):(isAgg t).run P w = .ok (!i.kind.plain) w:=by
 have hd:=h.desc;cases hi:i.kind<;>simp only[hi,TK.desc,TK.plain,TK.known]at hd hk⊢
 case struct fs=>obtain⟨g,h1,_⟩:=hd;simp[isAgg,run_underlying h1]
 case fn=>obtain⟨a,b,c,h1⟩:=hd;simp[isAgg,run_underlying h1]
 case other=>simp at hk
 all_goals simp[isAgg,run_underlying hd]
theorem TI.ok.some_info{P:Program}{t:Nat}{i:TI}(h:TI.ok P t i):∃j,P.info? t=some j/\j.size=i.size/\j.bytes=i.bytes/\j.zero=some i.zero:=by
 have h1:=h.info;cases hj:P.info? t with
 |none=>simp[hj]at h1
 |some j=>simp[hj]at h1;exact⟨j,rfl,h1.1,h1.2.1,h1.2.2⟩
theorem TI.ok.run_sizeOf{P:Program}{t:Nat}{i:TI}(h:TI.ok P t i)(w:World):(sizeOf t).run P w = .ok i.size w:=by
 obtain⟨j,h1,h2,_⟩:=h.some_info;simp[sizeOf,typeInfo,h1,h2]
theorem TI.ok.run_zero{P:Program}{t:Nat}{i:TI}(h:TI.ok P t i)(w:World):(zeroValue t).run P w = .ok i.zero w:=by
 obtain⟨j,h1,_,_,h4⟩:=h.some_info;simp[zeroValue,typeInfo,h1,h4]
theorem zW(b off j:Nat):(⟨b,off,none⟩:Addr).add j=⟨b,off+j,none⟩:=by
 unfold Addr.add;by_cases h:j=0
 .subst h;rfl
 .rw [if_neg h]
theorem run_loadCells{P:Program}{t:Nat}{i:TI}{w:World}(h:TI.ok P t i)(hk:i.kind.known=true){vs:Xh}{b off:Nat}(hv:Reads w b off vs)(hl:i.size<=vs.length) :
  ∃v,(loadVar t ⟨b,off,none⟩).run P w = .ok v w/\((i.kind.plain=true/\vs[0]? = some v)\/(i.kind.plain=false/\v = .agg (vs.take i.size).toArray)):=by
 unfold loadVar;simp only[Sem.run_bind,h.run_isAgg w hk,Result.andThen_ok];cases hp:i.kind.plain with
 |true=>
  have h1:=h.one hp;obtain⟨v,hv0⟩:∃v,vs[0]? = some v:=⟨_,List.getElem?_eq_getElem (by omega)⟩;refine⟨v,?_,Or.inl ⟨rfl,hv0⟩⟩;have:=hv 0 v hv0;simp only[Nat.add_zero]at this;simp[this]
 |false=>
  refine⟨.agg (vs.take i.size).toArray,?_,Or.inr ⟨rfl,rfl⟩⟩;have e:(vs.take i.size).length=i.size:=by simp;omega
  have:=run_loadCells_list (P:=P) w ⟨b,off,none⟩ (vs.take i.size) (λj v hj=>by rw[zW];exact hv.take i.size j v hj)
  rw[e]at this;simp[h.run_sizeOf w,this]
section
variable{P:Program}{w:World}{O:Nat->Prop}{o:Oper}{ev:Operand->Value}
theorem jdw{n:Int}(h:I64 n):IntKind.i64.wrap n=n:=by
 unfold I64 at h;rw[IntKind.wrap_i64];omega
theorem jmX(s:ByteArray):s.toList=bs s:=Lib.toList_data s
theorem QL(s:ByteArray):s.size=(bs s).length:=rfl
theorem ju5(s:ByteArray):(sv (bs s))=A.val (.string s):=by cases s;rfl
theorem jq9{op:BinOp}{t u:TypeId}{x y:Operand}(ho:o.op = .binOp op t x y u){k:IntKind}{a b:Int}(hx:ev x = .int k a)(hy:ev y = .int k b){r:A}(h:jtc op k a b=some r) :
  ∃z,(execOp ev o).run P w = .ok (.value z) w/\rel w O r z:=by
 have hck:∀{n:Int}{r:A},ck n=some r->IntKind.i64.wrap n=n/\r=vi n:=by
  intro n r h;unfold ck at h;split at h
  .rename_i hn;cases h;exact⟨jdw hn,rfl⟩
  .cases h
 cases op<;>simp only[jtc,Option.some.injEq,reduceCtorEq]at h
 case add=>
  cases k
  case i64=>obtain⟨h1,rfl⟩:=hck h;exact⟨_,by simp only[execOp,ho,hx,hy,eqGuard,binOp,Op.intArith];simp;rfl,by simp[rel,h1]⟩
  all_goals (cases h;exact⟨_,by simp only[execOp,ho,hx,hy,eqGuard,binOp,Op.intArith];simp;rfl,by simp[rel]⟩)
 case sub=>
  cases k
  case i64=>obtain⟨h1,rfl⟩:=hck h;exact⟨_,by simp only[execOp,ho,hx,hy,eqGuard,binOp,Op.intArith];simp;rfl,by simp[rel,h1]⟩
  all_goals (cases h;exact⟨_,by simp only[execOp,ho,hx,hy,eqGuard,binOp,Op.intArith];simp;rfl,by simp[rel]⟩)
 case mul=>
  cases k
  case i64=>obtain⟨h1,rfl⟩:=hck h;exact⟨_,by simp only[execOp,ho,hx,hy,eqGuard,binOp,Op.intArith];simp;rfl,by simp[rel,h1]⟩
  all_goals (cases h;exact⟨_,by simp only[execOp,ho,hx,hy,eqGuard,binOp,Op.intArith];simp;rfl,by simp[rel]⟩)
 case quo=>
  cases k<;>simp only[reduceCtorEq]at h
  split at h
  .cases h
  .rename_i hb;obtain⟨h1,rfl⟩:=hck h;exact⟨_,by simp only[execOp,ho,hx,hy,eqGuard,binOp,Op.intDiv];simp[hb];rfl,by simp[rel,h1]⟩
 case rem=>
  cases k<;>simp only[reduceCtorEq]at h
  split at h
  .cases h
  .rename_i hb;cases h;exact⟨_,by simp only[execOp,ho,hx,hy,eqGuard,binOp,Op.intDiv];simp[hb];rfl,by simp[rel]⟩
 case and=>
  cases k<;>simp only[Option.some.injEq]at h
  case i64=>
   subst h;exact⟨_,by simp only[execOp,ho,hx,hy,eqGuard,binOp,Op.intBits];simp;rfl,by simp[rel,jdz];rfl⟩
  all_goals
   subst h;exact⟨_,by simp only[execOp,ho,hx,hy,eqGuard,binOp,Op.intBits];simp;rfl,by simp[rel,jdA]⟩
 case or=>
  cases k<;>simp only[Option.some.injEq]at h
  case i64=>
   subst h;exact⟨_,by simp only[execOp,ho,hx,hy,eqGuard,binOp,Op.intBits];simp;rfl,by simp[rel,jdz];rfl⟩
  all_goals
   subst h;exact⟨_,by simp only[execOp,ho,hx,hy,eqGuard,binOp,Op.intBits];simp;rfl,by simp[rel,jdA]⟩
 case andNot=>
  cases k<;>simp only[Option.some.injEq]at h
  case i64=>
   subst h;exact⟨_,by simp only[execOp,ho,hx,hy,eqGuard,binOp,Op.intBits];simp;rfl,by simp[rel,jdz];rfl⟩
  all_goals
   subst h;exact⟨_,by simp only[execOp,ho,hx,hy,eqGuard,binOp,Op.intBits];simp;rfl,by simp[rel,jdA]⟩
 all_goals
  subst h;exact⟨_,by simp only[execOp,ho,hx,hy,eqGuard,binOp,Op.intCmp];simp;rfl,by simp[rel];try rfl⟩
theorem jsy(a b:ByteArray):(bs a == bs b)=decide (bs a=bs b):=by
 rw[Bool.eq_iff_iff];simp
theorem jrc{op:BinOp}{t u:TypeId}{x y:Operand}(ho:o.op = .binOp op t x y u){a b:ByteArray}(hx:ev x = .string a)(hy:ev y = .string b){r:A}(h:jtf op (bs a) (bs b)=some r) :
  ∃z,(execOp ev o).run P w = .ok (.value z) w/\rel w O r z:=by
 cases op<;>simp only[jtf,Option.some.injEq,reduceCtorEq]at h
 case add=>
  split at h
  .rename_i hl;cases h;refine⟨.string (a++b),?_,?_⟩
   .simp [execOp,ho,hx,hy,eqGuard,binOp,Op.stringOp];rw[QL,QL];omega
   .simp only[rel];congr 1
  .cases h
 all_goals
  subst h;exact⟨_,by simp only[execOp,ho,hx,hy,eqGuard,binOp,Op.stringOp,jmX];simp;rfl,by simp[rel,J6,jsy]⟩
theorem run_equalIn_bool{t:TypeId}(ht:P.underlying t=some .bool)(d:Nat)(a b:Bool)(w:World):(Op.equalIn (d+1) t (.bool a) (.bool b)).run P w = .ok (a == b) w:=by
 simp[Op.equalIn,run_underlying ht]
theorem jip{op:BinOp}{t u:TypeId}{x y:Operand}(ho:o.op = .binOp op t x y u){a b:Bool}(hx:ev x = .bool a)(hy:ev y = .bool b)(ht:P.underlying t=some .bool)
  {r:Bool} (hc:(op = .eql/\r=decide (a=b))\/(op = .neq/\r=!decide (a=b))):(execOp ev o).run P w = .ok (.value (.bool r)) w:=by
 have he:=run_equalIn_bool ht 9999 a b w;have e:(a == b)=decide (a=b):=by cases a<;>cases b<;>rfl
 rw[e]at he;rcases hc with⟨rfl,rfl⟩|⟨rfl,rfl⟩<;>simp only[execOp,ho,hx,hy,eqGuard,binOp,Op.equal,Op.maxDepth]<;>simp[he]
theorem jeH{op:BinOp}{t u:TypeId}{x y:Operand}(ho:o.op = .binOp op t x y u){a b:Int}{k':IntKind}(hx:ev x = .int .i64 a)(hy:ev y = .int k' b)(hb:0<=b)(hop:op = .shl\/op = .shr) :
  (execOp ev o).run P w = .ok (.value (.int .i64 (jdz op a b))) w:=by
 have hb':¬b<0:=by omega
 have hk:IntKind.i64.bits=64:=rfl;rcases hop with rfl|rfl<;>simp[execOp,ho,hx,hy,eqGuard,binOp,Op.shift,hb',jdz,hk]
theorem jda{op:BinOp}{t u:TypeId}{x y:Operand}(ho:o.op = .binOp op t x y u){a b:Int}{k k':IntKind}(hx:ev x = .int k a)(hy:ev y = .int k' b)(hb:0<=b)(hop:op = .shl\/op = .shr) :
  (execOp ev o).run P w = .ok (.value (.int k (jdA op k a b))) w:=by
 have hb':¬b<0:=by omega
 rcases hop with rfl|rfl<;>simp[execOp,ho,hx,hy,eqGuard,binOp,Op.shift,hb',jdA]
theorem jq7{op:BinOp}{t u:TypeId}{x y:Operand}(ho:o.op = .binOp op t x y u){isB:Bool}(hB:isB=true->P.underlying t=some .bool){a b:A}(hx:rel w O a (ev x))(hy:rel w O b (ev y)){r:A}(h:jw op isB a b=some r) :
  ∃z,(execOp ev o).run P w = .ok (.value z) w/\rel w O r z:=by
 unfold jw at h;split at h
 .rename_i k x' k' y';simp only[rel]at hx hy;split at h
  .cases k
   case i64=>
    dsimp only at h;split at h
    .rename_i hb;cases h;exact⟨_,jeH ho hx hy hb (Or.inl rfl),by simp[rel]⟩
    .cases h
   all_goals
    dsimp only at h;split at h
    .rename_i hb;cases h;exact⟨_,jda ho hx hy hb (Or.inl rfl),by simp[rel]⟩
    .cases h
  .cases k
   case i64=>
    dsimp only at h;split at h
    .rename_i hb;cases h;exact⟨_,jeH ho hx hy hb (Or.inr rfl),by simp[rel]⟩
    .cases h
   all_goals
    dsimp only at h;split at h
    .rename_i hb;cases h;exact⟨_,jda ho hx hy hb (Or.inr rfl),by simp[rel]⟩
    .cases h
  .split at h
   .rename_i hk;subst hk;exact jq9 ho hx hy h
   .cases h
 .simp only[rel]at hx hy;exact jrc ho hx hy h
 .simp only[rel]at hx hy;split at h
  .rename_i hb;split at h
   .cases h;exact⟨_,jip ho hx hy (hB hb) (Or.inl ⟨rfl,rfl⟩),by simp[rel]⟩
   .cases h;exact⟨_,jip ho hx hy (hB hb) (Or.inr ⟨rfl,rfl⟩),by simp[rel]⟩
   .cases h
  .cases h
 .cases h
theorem jtp{op:UnOp}{t:TypeId}{x:Operand}(ho:o.op = .unOp op t x){a:A}(hx:rel w O a (ev x)){r:A}(h:JA op a=some r):∃z,(execOp ev o).run P w = .ok (.value z) w/\rel w O r z:=by
 unfold JA at h;split at h
 .cases h;simp only[rel]at hx;exact⟨_,by simp[execOp,ho,hx,Op.unary];rfl,by simp[rel]⟩
 .cases h;simp only[rel]at hx;exact⟨_,by simp[execOp,ho,hx,Op.unary,Op.intArith];rfl,by simp[rel]⟩
 .cases h
theorem jpi{s d:TypeId}{x:Operand}(ho:o.op = .convert s d x){k':IntKind}(hs:∃k,P.underlying s=some (.int k))(hd:P.underlying d=some (.int k')){a:A}(hx:rel w O a (ev x)){r:A}(h:jcN k' a=some r) :
  ∃z,(execOp ev o).run P w = .ok (.value z) w/\rel w O r z:=by
 obtain⟨k0,hs⟩:=hs;unfold jcN at h;split at h
 .rename_i k n;simp only[rel]at hx;have key:(execOp ev o).run P w = .ok (.value (.int k' (k'.wrap n))) w:=by
   simp[execOp,ho,hx,convert,run_underlying hs,run_underlying hd,Conv.intToInt]
  refine⟨_,key,?_⟩;cases k'<;>simp only[Option.some.injEq]at h
  case i64=>
   unfold ck at h;split at h
   .rename_i hn;cases h;simp[rel,jdw hn]
   .cases h
  all_goals (subst h;simp[rel])
 .cases h
theorem jjT{t:TypeId}{x i:Operand}(ho:o.op = .index t x i)(ht:P.underlying t=some .string){a b:A}(hx:rel w O a (ev x))(hi:rel w O b (ev i)){r:A}(h:jK a b=some r) :
  ∃z,(execOp ev o).run P w = .ok (.value z) w/\rel w O r z:=by
 unfold jK at h;split at h
 .rename_i s k n;simp only[rel]at hx hi;split at h
  .rename_i hn;cases h;have hlt:n.toNat<s.size:=by rw[QL];omega
   have e:s[n.toNat]? = some s[n.toNat]:=by simp[hlt]
   have e2:(bs s).getD n.toNat 0=s[n.toNat]:=by
    rw[List.getD_eq_getElem?_getD,List.getElem?_eq_getElem (by rw[<-QL];exact hlt)]
    rfl
   refine⟨.int .u8 (s[n.toNat].toNat:Int),?_,by simp only[rel,e2]⟩;simp[execOp,ho,hx,hi,Instr.index,asIntOf,run_underlying ht,hn.1,e]
  .cases h
 .cases h
theorem Qy{len:Nat}{i:A}{n:Nat}(h:pIx len i=some n):∃k z,i = .val (.int k z)/\0<=z/\z<(len:Int)/\n=z.toNat:=by
 unfold pIx at h;split at h
 .split at h
  .rename_i hz;cases h;exact⟨_,_,rfl,hz.1,hz.2,rfl⟩
  .cases h
 .cases h
theorem Ym{t:TypeId}{x ix:Operand}(ho:o.op = .indexAddr t x ix){e:Nat}(ht:P.underlying t=some (.slice e)){i:TI}(hi:TI.ok P e i){a b:A}(hx:rel w O a (ev x))(hn:rel w O b (ev ix)){r:A}(h:ji i.size a b=some r) :
  ∃z,(execOp ev o).run P w = .ok (.value z) w/\rel w O r z:=by
 unfold ji at h;split at h
 .rename_i k xs;split at h
  .rename_i hk;subst hk;rw[Option.map_eq_some_iff]at h;obtain⟨n,h1,rfl⟩:=h;obtain⟨kk,z,rfl,h0,h2,rfl⟩:=Qy h1;simp only[rel]at hx hn;obtain⟨a,cap,g2,g3,g4,g5⟩:=hx;rcases g5 with g5|⟨b,off,g5,g6,g7,g8⟩
   .subst g5;simp at h2;omega
   have hlt:z.toNat<xs.length:=by omega
   have hg:=JB g8 (List.getElem?_eq_getElem hlt);have hb:0<=z/\z<(xs.length:Int):=⟨h0,h2⟩;refine⟨.pointer (some ⟨b,off+z.toNat*i.size,none⟩),?_,?_⟩
   .simp only[execOp,ho,Instr.indexAt,g2,hn,g5,asIntOf,Sem.run_bind,Sem.run_pure,Result.andThen_ok,run_underlying ht,hb,and_self,if_true,hi.run_sizeOf w,zW,Sem.run_ite]
   .simp only[rel];refine⟨b,off+z.toNat*i.size,by simp,g6,g7,?_⟩;rw[List.getD_eq_getElem?_getD,List.getElem?_eq_getElem hlt];exact hg.2
  .cases h
 .cases h
theorem jmK{t:TypeId}{x:Operand}(ho:o.op = .load t x){i:TI}(ht:TI.ok P t i)(hp:i.kind.plain=true){a:A}(hx:rel w O a (ev x)){r:A}(h:zI a=some r):∃z,(execOp ev o).run P w = .ok (.value z) w/\rel w O r z:=by
 unfold zI at h;split at h
 .rename_i cs off;simp only[rel]at hx;obtain⟨b,o',h1,_,_,h4⟩:=hx;obtain⟨vs,h5,h6,_⟩:=zK h4;obtain⟨v,h7,h8⟩:=Zm h5 h;have hl:off<vs.length:=(List.getElem?_eq_some_iff.1 h7).1;have hk:i.kind.known=true:=by cases hi:i.kind<;>simp_all [TK.known,TK.plain]
  obtain⟨u,g1,g2⟩:=run_loadCells (P:=P) ht hk (h6.drop off) (by rw[ht.one hp];simp;omega)
  rcases g2 with⟨_,g2⟩|⟨g2,_⟩
  .have e:u=v:=by rw[List.getElem?_drop,Nat.add_zero,h7]at g2;cases g2;rfl
   subst e;exact⟨u,by simp only[execOp,ho,Instr.loadAt,h1,Instr.sureAddr,Sem.run_bind,Sem.run_pure,Result.andThen_ok,g1],h8⟩
  .rw [hp]at g2;cases g2
 .cases h
theorem jmJ{t:TypeId}{x:Operand}(ho:o.op = .load t x){i:TI}(ht:TI.ok P t i)(hk:i.kind.known=true)(hp:i.kind.plain=false){a:A}(hx:rel w O a (ev x)){r:A}(h:zX i.size a=some r):∃z,(execOp ev o).run P w = .ok (.value z) w/\rel w O r z:=by
 unfold zX at h;split at h
 .rename_i cs off;split at h
  .rename_i hl;cases h;simp only[rel]at hx;obtain⟨b,o',h1,_,_,h4⟩:=hx;obtain⟨vs,h5,h6,_⟩:=zK h4;have hlen:=jy h5;obtain⟨u,g1,g2⟩:=run_loadCells (P:=P) ht hk (h6.drop off) (by simp;omega);rcases g2 with⟨g2,_⟩|⟨_,rfl⟩
   .rw [hp]at g2;cases g2
   .refine ⟨_,by simp only[execOp,ho,Instr.loadAt,h1,Instr.sureAddr,Sem.run_bind,Sem.run_pure,Result.andThen_ok,g1];rfl,?_⟩
    simp only[rel];exact⟨_,rfl,yk _ (qN _ h5)⟩
  .cases h
 .cases h
theorem jb6{P:Program}{b off:Nat}{f:Field}{i:TI}(hi:TI.ok P f.type i)(h0:i.size≠0)(w:World):(fieldPlace ⟨b,off,none⟩ f).run P w = .ok ⟨b,off+f.offset,none⟩ w:=by
 simp only[fieldPlace,Sem.run_bind,hi.run_sizeOf w,Result.andThen_ok];rw[if_neg h0,zW];rfl
theorem QN{s:TypeId}{fs:Xk}(ht:(TK.struct fs).desc P s){f off t:Nat}(hf:fs[f]? = some (off,t)):∃g fd,P.underlying s=some (.struct g)/\g[f]? = some fd/\fd.offset=off/\fd.type=t:=by
 obtain⟨g,h1,h2⟩:=ht;rw[<-h2]at hf;simp only[List.getElem?_map,Option.map_eq_some_iff]at hf;obtain⟨fd,h4,h5⟩:=hf;exact⟨g,fd,h1,by simpa using h4,by simpa using congrArg Prod.fst h5,by simpa using congrArg Prod.snd h5⟩
theorem JJ{s:TypeId}{x:Operand}{f:Nat}(ho:o.op = .fieldAddr s x f){fs:Xk}(ht:(TK.struct fs).desc P s){off t:Nat}(hf:fs[f]? = some (off,t)){i:TI}(hi:TI.ok P t i)(h0:i.size≠0)
  {b p:Nat} (hx:ev x = .pointer (some ⟨b,p,none⟩)):(execOp ev o).run P w = .ok (.value (.pointer (some ⟨b,p+off,none⟩))) w:=by
 obtain⟨g,fd,h1,h4,rfl,rfl⟩:=QN ht hf;have hp:=jb6 (P:=P) (b:=b) (off:=p) (f:=fd) hi h0 w;simp only[execOp,ho,Instr.fieldAt,hx,Instr.sureAddr,Sem.run_bind,Sem.run_pure,Result.andThen_ok,run_underlying h1,h4,hp]
theorem ZS{s:TypeId}{x:Operand}{f:Nat}(ho:o.op = .field s x f){fs:Xk}(ht:(TK.struct fs).desc P s){off t:Nat}(hf:fs[f]? = some (off,t)){i:TI}(hi:TI.ok P t i)(hk:i.kind.known=true)
  {vs:Xh} (hx:ev x = .agg vs.toArray) (hl:off+i.size<=vs.length) :
  ∃v,(execOp ev o).run P w = .ok (.value v) w/\((i.kind.plain=true/\vs[off]? = some v)\/(i.kind.plain=false/\v = .agg ((vs.drop off).take i.size).toArray)):=by
 obtain⟨g,fd,g1,g4,rfl,rfl⟩:=QN ht hf;simp only[execOp,ho,Instr.field,hx,asAgg,part,Sem.run_bind,Sem.run_pure,Result.andThen_ok,run_underlying g1,g4,hi.run_isAgg w hk];cases hp:i.kind.plain with
 |true=>
  have h1:=hi.one hp;have hlt:fd.offset<vs.length:=by omega
  refine⟨vs[fd.offset],?_,Or.inl ⟨rfl,List.getElem?_eq_getElem hlt⟩⟩;simp[hlt]
 |false=>
  simp only[Bool.not_false,if_true,Sem.run_bind,hi.run_sizeOf w,Result.andThen_ok,Sem.run_pure];refine⟨_,rfl,Or.inr ⟨trivial,?_⟩⟩;congr 1;apply Array.ext';simp[List.extract_eq_take_drop]
theorem ja6{x:Operand}{n:Nat}(ho:o.op = .extract x n){vs:Xh}(hx:ev x = .tuple vs.toArray){v:Value}(hv:vs[n]? = some v):(execOp ev o).run P w = .ok (.value v) w:=by
 simp only[execOp,ho,Instr.extract,hx,Sem.run_bind,List.getElem?_toArray,hv,Sem.run_pure,Result.andThen_ok]
theorem run_len_slice{xs:Array Operand}{ts:Array TypeId}{x:Operand}(ho:o.op = .call { callee:= .builtin .len,args:=xs,argTypes:=ts })(hxs:xs = #[x]){t e:TypeId}(hts:ts = #[t])(ht:P.underlying t=some (.slice e)){a:Option Addr}{n c:Nat}(hx:ev x = .slice a n c) :
  (execOp ev o).run P w = .ok (.value (.int .i64 n)) w:=by
 subst hxs hts;simp[execOp,ho,resolve,invoke,builtin,Builtin.len_,hx,run_underlying ht,goInt]
theorem jiq{xs:Array Operand}{ts:Array TypeId}{x:Operand}(ho:o.op = .call { callee:= .builtin .len,args:=xs,argTypes:=ts })(hxs:xs = #[x]){t:TypeId}(hts:ts = #[t])(ht:P.underlying t=some .string){s:ByteArray}(hx:ev x = .string s) :
  (execOp ev o).run P w = .ok (.value (.int .i64 s.size)) w:=by
 subst hxs hts;simp[execOp,ho,resolve,invoke,builtin,Builtin.len_,hx,run_underlying ht,goInt]
theorem jra{xs:Array Operand}{ts:Array TypeId}{x y:Operand}(ho:o.op = .call { callee:= .builtin .max,args:=xs,argTypes:=ts })(hxs:xs = #[x,y]){a b:A}(hx:rel w O a (ev x))(hy:rel w O b (ev y)){r:A}(h:jjG a b=some r) :
  ∃z,(execOp ev o).run P w = .ok (.value z) w/\rel w O r z:=by
 subst hxs;unfold jjG at h;split at h
 .split at h
  .rename_i hk;subst hk;cases h;simp only[rel]at hx hy;refine⟨_,by simp[execOp,ho,resolve,invoke,builtin,Builtin.max_,Builtin.max2,hx,hy];rfl,by simp[rel]⟩
  .cases h
 .cases h
theorem jrb{xs:Array Operand}{ts:Array TypeId}{x y:Operand}(ho:o.op = .call { callee:= .builtin .min,args:=xs,argTypes:=ts })(hxs:xs = #[x,y]){a b:A}(hx:rel w O a (ev x))(hy:rel w O b (ev y)){r:A}(h:jmr a b=some r) :
  ∃z,(execOp ev o).run P w = .ok (.value z) w/\rel w O r z:=by
 subst hxs;unfold jmr at h;split at h
 .split at h
  .rename_i hk;subst hk;cases h;simp only[rel]at hx hy;refine⟨_,by simp[execOp,ho,resolve,invoke,builtin,Builtin.min_,Builtin.min2,hx,hy];rfl,by simp[rel]⟩
  .cases h
 .cases h
theorem jc9{lo hi:Option Operand}{alo ahi:Xl}(isS:Bool){len cap:Nat}(hlo:∀y,lo=some y-> ∃a,alo=some a/\rel w O a (ev y))(hlo0:lo=none->alo=none)(hhi:∀y,hi=some y-> ∃a,ahi=some a/\rel w O a (ev y))(hhi0:hi=none->ahi=none)
  {l h:Int} (hl:Jg 0 alo=some l) (hh:Jg len ahi=some h) (h0:0<=l) (h1:l<=h) (h2:h<=(len:Int)) (hc:len<=cap) (hs:isS=false->cap=len) :
  (Instr.sliceBounds isS len cap (lo.map ev) (hi.map ev) none).run P w = .ok (l.toNat,h.toNat,cap) w:=by
 obtain⟨l,rfl⟩:=Int.eq_ofNat_of_zero_le h0;obtain⟨h,rfl⟩:=Int.eq_ofNat_of_zero_le (Int.le_trans h0 h1);have k1:l<=h:=by exact_mod_cast h1
 have k2:h<=cap:=by
  have:h<=len:=by exact_mod_cast h2
  omega
 have el:∀y,lo=some y-> ∃k,ev y = .int k l:=by
  intro y hy;obtain⟨a,rfl,ha⟩:=hlo y hy;unfold Jg at hl;split at hl
  .rename_i e;cases e
  .rename_i e;cases e;cases hl;simp only[rel]at ha;exact⟨_,ha⟩
  .cases hl
 have eh:∀y,hi=some y-> ∃k,ev y = .int k h:=by
  intro y hy;obtain⟨a,rfl,ha⟩:=hhi y hy;unfold Jg at hh;split at hh
  .rename_i e;cases e
  .rename_i e;cases e;cases hh;simp only[rel]at ha;exact⟨_,ha⟩
  .cases hh
 cases lo with
 |none=>
  have:=hlo0 rfl;subst this;simp only[Jg,Option.some.injEq]at hl;have hl0:l=0:=by omega
  subst hl0;cases hi with
  |none=>
   have:=hhi0 rfl;subst this;simp only[Jg,Option.some.injEq]at hh;have hh0:h=len:=by omega
   subst hh0;simp[Instr.sliceBounds]
  |some z=>
   obtain⟨k,hz⟩:=eh z rfl;cases isS
   .simp [Instr.sliceBounds,Instr.sliceBound,hz,asIntOf,k2]
   .simp [Instr.sliceBounds,Instr.sliceBound,hz,asIntOf,k2]
 |some y=>
  obtain⟨k,hy⟩:=el y rfl;cases hi with
  |none=>
   have:=hhi0 rfl;subst this;simp only[Jg,Option.some.injEq]at hh;have hh0:h=len:=by omega
   subst hh0;simp[Instr.sliceBounds,Instr.sliceBound,hy,asIntOf,k1]
  |some z=>
   obtain⟨k',hz⟩:=eh z rfl;cases isS
   .simp [Instr.sliceBounds,Instr.sliceBound,hy,hz,asIntOf,k1,k2]
   .simp [Instr.sliceBounds,Instr.sliceBound,hy,hz,asIntOf,k1,k2]
theorem jeI{t:TypeId}{x:Operand}{lo hi:Option Operand}(ho:o.op = .slice t x lo hi none){e:Nat}(ht:P.underlying t=some (.slice e)){i:TI}(hi':TI.ok P e i){a:A}(hx:rel w O a (ev x))
  {alo ahi:Xl} (hlo:∀y,lo=some y-> ∃a,alo=some a/\rel w O a (ev y)) (hlo0:lo=none->alo=none) (hhi:∀y,hi=some y-> ∃a,ahi=some a/\rel w O a (ev y)) (hhi0:hi=none->ahi=none)
  {r:A} (h:jai i.size a alo ahi=some r):∃z,(execOp ev o).run P w = .ok (.value z) w/\rel w O r z:=by
 unfold jai at h;split at h
 .rename_i k xs;rw[Option.bind_eq_some_iff]at h;obtain⟨l,hl,h⟩:=h;rw[Option.bind_eq_some_iff]at h;obtain⟨hh,hhh,h⟩:=h;split at h
  .rename_i hc;obtain⟨rfl,h0,h1,h2⟩:=hc;cases h;simp only[rel]at hx;obtain⟨a,cap,g1,g2,g3,g4⟩:=hx;have hb:=jc9 (P:=P) (ev:=ev) true hlo hlo0 hhi hhi0 hl hhh h0 h1 h2 g2 (by simp);obtain⟨l,rfl⟩:=Int.eq_ofNat_of_zero_le h0;obtain⟨hh,rfl⟩:=Int.eq_ofNat_of_zero_le (Int.le_trans h0 h1);simp only[Int.toNat_natCast]at hb⊢;have k1:l<=hh:=by exact_mod_cast h1
   have k2:hh<=xs.length:=by exact_mod_cast h2
   refine⟨_,by simp only[execOp,ho,Instr.sliceAt,g1,Sem.run_bind,run_underlying ht,Result.andThen_ok,Instr.slice,Option.map_none,hb,hi'.run_sizeOf w,Sem.run_pure];rfl,?_⟩
   simp only[rel];have hlen:((xs.take hh).drop l).length=hh-l:=by simp;omega
   rw[hlen];refine⟨_,cap-l,rfl,by omega,by omega,?_⟩;by_cases hlh:l=hh
   .left;subst hlh;simp
   .right;have hne:xs≠ []:=by intro e;subst e;simp at k2;omega
    obtain⟨b,off,rfl,g5,g6,g7⟩:=g4.resolve_left hne;refine⟨b,off+l*i.size,?_,g5,g6,?_⟩
    .rw [if_neg (by omega)];simp[zW]
    .exact qH l (qI hh g7) (by simp;omega)
  .cases h
 .cases h
theorem jjc(s:ByteArray)(l h:Nat):bs (s.extract l h)=((bs s).take h).drop l:=by
 simp[bs,ByteArray.extract,ByteArray.copySlice,List.extract_eq_take_drop];rw[List.drop_take]
theorem jjU{t:TypeId}{x:Operand}{lo hi:Option Operand}(ho:o.op = .slice t x lo hi none)(ht:P.underlying t=some .string){a:A}(hx:rel w O a (ev x))
  {alo ahi:Xl} (hlo:∀y,lo=some y-> ∃a,alo=some a/\rel w O a (ev y)) (hlo0:lo=none->alo=none) (hhi:∀y,hi=some y-> ∃a,ahi=some a/\rel w O a (ev y)) (hhi0:hi=none->ahi=none)
  {r:A} (h:jX a alo ahi=some r):∃z,(execOp ev o).run P w = .ok (.value z) w/\rel w O r z:=by
 unfold jX at h;split at h
 .rename_i s;rw[Option.bind_eq_some_iff]at h;obtain⟨l,hl,h⟩:=h;rw[Option.bind_eq_some_iff]at h;obtain⟨hh,hhh,h⟩:=h;split at h
  .rename_i hc;obtain⟨h0,h1,h2⟩:=hc;cases h;simp only[rel]at hx;have hb:=jc9 (P:=P) (ev:=ev) (len:=s.size) (cap:=s.size) false hlo hlo0 hhi hhi0 hl hhh h0 h1 h2 (Nat.le_refl _) (by simp);refine⟨.string (s.extract l.toNat hh.toNat),by simp only[execOp,ho,Instr.sliceAt,hx,Sem.run_bind,run_underlying ht,Result.andThen_ok,Instr.slice,Option.map_none,hb,Option.isSome_none,Bool.false_eq_true,if_false,Sem.run_pure],?_⟩;simp only[rel];congr 1;apply jiZ;rw[jjc];rfl
  .cases h
 .cases h
theorem jdb{t:TypeId}{x l h m:Operand}(ho:o.op = .slice t x (some l) (some h) (some m)){e:Nat}(ht:P.underlying t=some (.slice e)){i:TI}(hi':TI.ok P e i){a:Option Addr}{n c:Nat}(hx:ev x = .slice a n c)
  {k1 k2 k3:IntKind} (hl:ev l = .int k1 0) (hh:ev h = .int k2 0) (hm:ev m = .int k3 0):(execOp ev o).run P w = .ok (.value (.slice a 0 0)) w:=by
 simp[execOp,ho,Instr.sliceAt,hx,run_underlying ht,Instr.slice,Instr.sliceBounds,Instr.sliceBound,hl,hh,hm,asIntOf,hi'.run_sizeOf w]
end
end
noncomputable section
abbrev Out:=A×Xd
abbrev Xe:=Option Out
def nA(n:Nat):A:=vi n
def Qz(a:A):Xl:=match a with|.sl _ xs=>some (vi xs.length)|_=>none
def J3(a:A):Xl:=match a with|.val (.string s)=>some (vi (bs s).length)|_=>none
def jbi(xs:Xc):A:=vi xs.length
def jpc(xs:Xc)(i:Nat):Xd:=xs.getD i []
def jsa(xs:Xc)(i j:Nat):Xl:=(xs[i]?).bind (·[j]?)
def jr9(xs:Xc)(i j n:Nat):Xl:=(xs[i]?).map λcs=>.agg ((cs.drop j).take n)
def jqw:TK->Option (Option IntKind)
 |.str=>some none
 |.int k=>some (some k)
 |_=>none
def JY:Option IntKind->A->Bool
 |none,.val (.string _)=>true
 |some k,.val (.int k' _)=>decide (k'=k)
 |_,_=>false
def eqK:Option IntKind->A->A->Option Bool
 |none,.val (.string a),.val (.string b)=>some (decide (bs a=bs b))
 |some _,.val (.int k a),.val (.int k' b)=>if k=k' then some (decide (a=b))else none
 |_,_,_=>none
def Yi(ks:Option IntKind)(k:A):Xc->Nat->Option (Option (Nat×A))
 | [],_=>some none
 | [k',v]::xs,i=>(match eqK ks k k' with
  |some true=>some (some (i,v))
  |some false=>Yi ks k xs (i+1)
  |none=>none)
 |_::_,_=>none
def jju:A->Option Xc
 |.mp xs=>some xs
 |.val (.map none)=>some []
 |_=>none
def zA(plain:Bool)(z:Xd):A:=if plain then z.headD .top else .agg z
def zOk(i:TI):Bool:=match i.zero with|.agg _=> !i.kind.plain|_=>i.kind.plain
def jk1(c:Bool)(v:A)(b:Bool):A:=if c then .tup [v,vb b]else v
def jr3(c plain:Bool)(z:Xd):Option (Nat×A)->A
 |some (_,v)=>jk1 c v true
 |none=>jk1 c (zA plain z) false
def jk9(ks:Option IntKind)(c plain:Bool)(z:Xd)(a k:A):Xl:=
 if JY ks k then(jju a).bind λxs=>(Yi ks k xs 0).map (jr3 c plain z)else none
def jte(ks:Option IntKind)(xs:Xc)(k v:A):Option Xc:=
 if JY ks k then(Yi ks k xs 0).map λr=>match r with
  |some (i,_)=>xs.set i [k,v]
  |none=>xs++[[k,v]]
 else none
mutual
def toA(st:jg):Nat->V->Option (A×Xm)
 |_,.d a=>some (a,[])
 |_,.nil k=>some (.sl k [],[])
 |_,.row id=>(match st id with
  |.row k xs=>some (.sl k xs,[.obj id (.row k xs)])
  |.fro k xs=>some (.sl k xs,[.obj id (.fro k xs)])
  |.tre f k xs=>some (.sl k xs,[.obj id (.tre f k xs)])
  |.map xs=>some (.mp xs,[.obj id (.map xs)])
  |_=>none)
 |_,.sub id i k j=>(match st id with
  |.tre true k' xs=>if k'=k/\j<k then(match(xs[i]?).bind (·[j]?)with|some (.sl l ys)=>some (.sl l ys,[.obj id (.tre true k' xs)])|_=>none)else none
  |_=>none)
 |_,.win id k off n=>(match st id with
  |.row k' xs=>if k'=k then some (.sl k ((xs.drop off).take n),[.obj id (.row k' xs)])else none
  |_=>none)
 |n+1,.agg cs=>(match zZ st n cs with|some (as,r)=>some (.agg as,r)|none=>none)
 |n+1,.tup cs=>(match zZ st n cs with|some (as,r)=>some (.tup as,r)|none=>none)
 |n+1,.fn f cs=>(match zZ st n cs with|some (as,r)=>some (.fn f as,r)|none=>none)
 |n+1,.ptr id off=>(match st id with
  |.box cs=>(match zZ st n cs with|some (as,r)=>some (.elt as off,.obj id (.box cs)::r)|none=>none)
  |_=>none)
 |_,_=>none
def zZ(st:jg):Nat->Xj->Option (Xd×Xm)
 |_,[]=>some ([],[])
 |n+1,c::cs=>(match toA st n c with
  |some (a,r)=>(match zZ st n cs with|some (as,r')=>some (a::as,r++r')|none=>none)
  |none=>none)
 |0,_::_=>none
end
def RB(m:jG)(rds:Xm)(b:Nat):Prop:=∃id o hd,Rd.obj id o∈rds/\o.alive=true/\m id=some hd/\b∈hd.blocks
def ye:Xm->Bool
 | []=>false
 |.obj _ o::r=>o.alive || ye r
 |_::r=>ye r
theorem jkt{m:jG} :∀{rds:Xm},ye rds=false-> ∀b,¬RB m rds b
 | [],_,b=>λ⟨_,_,_,h,_⟩=>by cases h
 |r::rds,h,b=>by
  rintro⟨id,o,hd,h1,h2,h3⟩;rcases List.mem_cons.1 h1 with rfl|h1
  .simp only[ye,Bool.or_eq_false_iff]at h;rw[h2]at h;cases h.1
  .have h':ye rds=false:=by
    cases r<;>simp only[ye,Bool.or_eq_false_iff]at h<;>first|exact h|exact h.2
   exact jkt h' b ⟨id,o,hd,h1,h2,h3⟩
section
variable{X:Ctx}{w:World}{O0:Nat->Prop}{m:jG}{st:jg}
mutual
theorem jlw{st':jg} :∀(n:Nat)(v:V){a:A}{rds:Xm},toA st n v=some (a,rds)->(∀r∈rds,kr st' r)->toA st' n v=some (a,rds)
 |_,.d a,_,_,h,_=>by simpa[toA]using h
 |_,.nil k,_,_,h,_=>by simpa[toA]using h
 |_,.top,_,_,h,_=>by simp[toA]at h
 |_,.rptr _ _ _ _,_,_,h,_=>by simp[toA]at h
 |_,.ub _ _,_,_,h,_=>by simp[toA]at h
 |_,.win id k off n,a,rds,h,hg=>by
  simp only[toA]at h;split at h
  .rename_i k' xs _;split at h
   .rename_i hk;cases h;have:st' id = .row k' xs:=hg (.obj id (.row k' xs)) (by simp);simp[toA,this,hk]
   .cases h
  .cases h
 |_,.row id,a,rds,h,hg=>by
  simp only[toA]at h;split at h
  .rename_i k xs _;cases h;have:st' id = .row k xs:=hg (.obj id (.row k xs)) (by simp);simp[toA,this]
  .rename_i k xs _;cases h;have:st' id = .fro k xs:=hg (.obj id (.fro k xs)) (by simp);simp[toA,this]
  .rename_i f k xs _;cases h;have:st' id = .tre f k xs:=hg (.obj id (.tre f k xs)) (by simp);simp[toA,this]
  .rename_i xs _;cases h;have:st' id = .map xs:=hg (.obj id (.map xs)) (by simp);simp[toA,this]
  .cases h
 |_,.sub id i k j,a,rds,h,hg=>by
  simp only[toA]at h;split at h
  .rename_i k' xs _;split at h
   .rename_i hk;split at h
    .rename_i l ys hx;cases h;have:st' id = .tre true k' xs:=hg (.obj id (.tre true k' xs)) (by simp);simp[toA,this,hk,hx]
    .cases h
   .cases h
  .cases h
 |0,.agg _,_,_,h,_=>by simp[toA]at h
 |0,.tup _,_,_,h,_=>by simp[toA]at h
 |0,.fn _ _,_,_,h,_=>by simp[toA]at h
 |0,.ptr _ _,_,_,h,_=>by simp[toA]at h
 |n+1,.agg cs,a,rds,h,hg=>by
  simp only[toA]at h;split at h
  .rename_i as r he;cases h;simp[toA,yw n cs he hg]
  .cases h
 |n+1,.tup cs,a,rds,h,hg=>by
  simp only[toA]at h;split at h
  .rename_i as r he;cases h;simp[toA,yw n cs he hg]
  .cases h
 |n+1,.fn f cs,a,rds,h,hg=>by
  simp only[toA]at h;split at h
  .rename_i as r he;cases h;simp[toA,yw n cs he hg]
  .cases h
 |n+1,.ptr id off,a,rds,h,hg=>by
  simp only[toA]at h;split at h
  .split at h
   .rename_i cs _ _ as r he;cases h;have h1:st' id = .box cs:=hg (.obj id (.box cs)) (by simp);have h2:=yw n cs he λr hr=>hg r (by simp[hr]);simp[toA,h1,h2]
   .cases h
  .cases h
theorem yw{st':jg} :∀(n:Nat)(cs:Xj){as:Xd}{rds:Xm},zZ st n cs=some (as,rds)->(∀r∈rds,kr st' r)->zZ st' n cs=some (as,rds)
 |_,[],_,_,h,_=>by simpa[zZ]using h
 |0,_::_,_,_,h,_=>by simp[zZ]at h
 |n+1,c::cs,as,rds,h,hg=>by
  simp only[zZ]at h;split at h
  .split at h
   .rename_i a r h1 _ as' r' h2;cases h;have g1:=jlw n c h1 λx hx=>hg x (by simp[hx]);have g2:=yw n cs h2 λx hx=>hg x (by simp[hx]);simp[zZ,g1,g2]
   .cases h
  .cases h
end
mutual
theorem jbC:∀(n:Nat)(v:V){a:A}{rds:Xm},toA st n v=some (a,rds)-> ∀r∈rds,kr st r
 |_,.d a,_,_,h=>by simp only[toA,Option.some.injEq,Prod.mk.injEq]at h;obtain⟨_,rfl⟩:=h;simp
 |_,.nil k,_,_,h=>by simp only[toA,Option.some.injEq,Prod.mk.injEq]at h;obtain⟨_,rfl⟩:=h;simp
 |_,.top,_,_,h=>by simp[toA]at h
 |_,.rptr _ _ _ _,_,_,h=>by simp[toA]at h
 |_,.ub _ _,_,_,h=>by simp[toA]at h
 |_,.win id k off n,a,rds,h=>by
  simp only[toA]at h;split at h
  .rename_i he;split at h
   .cases h;simpa[kr]using he
   .cases h
  .cases h
 |_,.row id,a,rds,h=>by
  simp only[toA]at h;split at h
  .rename_i he;cases h;simpa[kr]using he
  .rename_i he;cases h;simpa[kr]using he
  .rename_i he;cases h;simpa[kr]using he
  .rename_i he;cases h;simpa[kr]using he
  .cases h
 |_,.sub id i k j,a,rds,h=>by
  simp only[toA]at h;split at h
  .rename_i he;split at h
   .split at h
    .cases h;simpa[kr]using he
    .cases h
   .cases h
  .cases h
 |0,.agg _,_,_,h=>by simp[toA]at h
 |0,.tup _,_,_,h=>by simp[toA]at h
 |0,.fn _ _,_,_,h=>by simp[toA]at h
 |0,.ptr _ _,_,_,h=>by simp[toA]at h
 |n+1,.agg cs,a,rds,h=>by
  simp only[toA]at h;split at h
  .rename_i as r he;cases h;exact yx n cs he
  .cases h
 |n+1,.tup cs,a,rds,h=>by
  simp only[toA]at h;split at h
  .rename_i as r he;cases h;exact yx n cs he
  .cases h
 |n+1,.fn f cs,a,rds,h=>by
  simp only[toA]at h;split at h
  .rename_i as r he;cases h;exact yx n cs he
  .cases h
 |n+1,.ptr id off,a,rds,h=>by
  simp only[toA]at h;split at h
  .split at h
   .rename_i cs he1 _ as r he;cases h;intro x hx;rcases List.mem_cons.1 hx with rfl|hx
    .exact he1
    .exact yx n cs he x hx
   .cases h
  .cases h
theorem yx:∀(n:Nat)(cs:Xj){as:Xd}{rds:Xm},zZ st n cs=some (as,rds)-> ∀r∈rds,kr st r
 |_,[],_,_,h=>by simp only[zZ,Option.some.injEq,Prod.mk.injEq]at h;obtain⟨_,rfl⟩:=h;simp
 |0,_::_,_,_,h=>by simp[zZ]at h
 |n+1,c::cs,as,rds,h=>by
  simp only[zZ]at h;split at h
  .split at h
   .rename_i a r h1 _ as' r' h2;cases h;intro x hx;rcases List.mem_append.1 hx with hx|hx
    .exact jbC n c h1 x hx
    .exact yx n cs h2 x hx
   .cases h
  .cases h
end
def Oc(O0:Nat->Prop)(m:jG)(st:jg)(rds:Xm):Nat->Prop:=λb=>Ow O0 m st b/\ ¬RB m rds b
theorem Q0(rds:Xm):∀b,Oc O0 m st rds b->Ow O0 m st b:=λ_ h=>h.1
theorem jft{r1 r2:Xm}(h:∀x∈r1,x∈r2):∀b,Oc O0 m st r2 b->Oc O0 m st r1 b:=λ_ ⟨h1,h2⟩=>⟨h1,λ⟨id,o,hd,g1,g2,g3⟩=>h2 ⟨id,o,hd,h _ g1,g2,g3⟩⟩
mutual
theorem QG(hs:Sto X w O0 m st):∀(n:Nat)(v:V){a:A}{rds:Xm}{u:Value},toA st n v=some (a,rds)->relV w (Ow O0 m st) m v u->rel w (Oc O0 m st rds) a u
 |_,.d a,_,_,u,h,hr=>by
  simp only[toA,Option.some.injEq,Prod.mk.injEq]at h;obtain⟨rfl,rfl⟩:=h;simp only[relV]at hr;exact jU (MonoW.sub (Q0 _)) _ _ hr
 |_,.nil k,_,_,u,h,hr=>by
  simp only[toA,Option.some.injEq,Prod.mk.injEq]at h;obtain⟨rfl,rfl⟩:=h;simp only[relV]at hr;obtain⟨a,rfl⟩:=hr;simp only[rel];exact⟨a,0,rfl,by simp,by omega,Or.inl trivial⟩
 |_,.top,_,_,_,h,_=>by simp[toA]at h
 |_,.rptr _ _ _ _,_,_,_,h,_=>by simp[toA]at h
 |_,.ub _ _,_,_,_,h,_=>by simp[toA]at h
 |_,.win id k off n,a,rds,u,h,hr=>by
  simp only[toA]at h;simp only[relV]at hr;obtain⟨hd,h1,h2⟩:=hr;have ho:=hs.obj id;split at h
  .rename_i k' xs he;split at h
   .rename_i hk;subst hk;cases h;rw[he]at ho;obtain⟨hd',g1,g2⟩:=ho;rw[h1]at g1;cases g1;refine jpD g2 h2 (Q0 _) λb c n e=>?_;subst e;exact λhb=>hb.2 ⟨id,.row k' xs,_,by simp,rfl,h1,y5⟩
   .cases h
  .cases h
 |_,.row id,a,rds,u,h,hr=>by
  simp only[toA]at h;simp only[relV]at hr;obtain⟨hd,h1,h2⟩:=hr;have ho:=hs.obj id;split at h
  .rename_i k xs he;cases h;rw[he]at ho;obtain⟨hd',g1,g2⟩:=ho;rw[h1]at g1;cases g1;refine jim g2 h2 (Q0 _) λb c n e=>?_;subst e;exact λhb=>hb.2 ⟨id,.row k xs,_,by simp,rfl,h1,y5⟩
  .rename_i k xs he;cases h;rw[he]at ho;obtain⟨hd',g1,g2⟩:=ho;rw[h1]at g1;cases g1;exact jU (MonoW.sub (Q0 _)) _ _ (g2.2 u h2)
  .rename_i f k xs he;cases h;rw[he]at ho;obtain⟨hd',g1,g2,_⟩:=ho;rw[h1]at g1;cases g1;exact jgC hd (λb hb hc=>hc.2 ⟨id,.tre f k xs,hd,by simp,rfl,h1,hb⟩) g2 h2
  .rename_i xs he;cases h;rw[he]at ho;obtain⟨hd',g1,g2⟩:=ho;rw[h1]at g1;cases g1;refine jhV g2 h2 (Q0 _) λb e=>?_;subst e;exact λhb=>hb.2 ⟨id,.map xs,_,by simp,rfl,h1,by simp[Hd.blocks]⟩
  .cases h
 |_,.sub id i k j,a,rds,u,h,hr=>by
  simp only[toA]at h;simp only[relV]at hr;obtain⟨hd,h1,h2⟩:=hr;have ho:=hs.obj id;split at h
  .rename_i k' xs he;split at h
   .rename_i hk;obtain⟨rfl,hj⟩:=hk;split at h
    .rename_i l ys hx;cases h;rw[he]at ho;obtain⟨hd',g1,g2,_⟩:=ho;rw[h1]at g1;cases g1;cases hd with
     |none=>exact h2.elim
     |blk=>exact h2.elim
     |mp=>exact h2.elim
     |tre f b c n ks=>
      cases f with
      |false=>exact h2.elim
      |true=>
       obtain⟨kid,e1,e2,_⟩:=h2;simp only[ju]at g2;obtain⟨_,_,_,_,g5,cc,T,_,_,_,g9⟩:=g2;obtain⟨x,hxi,hxj⟩:=Option.bind_eq_some_iff.1 hx;obtain⟨kid',v,e3,_,e5⟩:=Jn g9 ((kY g5 hxi hj).trans hxj);rw[e1]at e3;cases e3;exact jgC kid (λb' hb hc=>hc.2 ⟨id,.tre true k' xs,_,by simp,rfl,h1,by simp only[Hd.blocks,List.mem_cons];exact Or.inr (kX e1 hb)⟩) e5.2 e2
    .cases h
   .cases h
  .cases h
 |0,.agg _,_,_,_,h,_=>by simp[toA]at h
 |0,.tup _,_,_,_,h,_=>by simp[toA]at h
 |0,.fn _ _,_,_,_,h,_=>by simp[toA]at h
 |0,.ptr _ _,_,_,_,h,_=>by simp[toA]at h
 |n+1,.agg cs,a,rds,u,h,hr=>by
  simp only[toA]at h;split at h
  .rename_i as r he;cases h;simp only[relV]at hr;obtain⟨vs,rfl,h2⟩:=hr;simp only[rel];exact⟨vs,rfl,yu hs n cs he h2⟩
  .cases h
 |n+1,.tup cs,a,rds,u,h,hr=>by
  simp only[toA]at h;split at h
  .rename_i as r he;cases h;simp only[relV]at hr;obtain⟨vs,rfl,h2⟩:=hr;simp only[rel];exact⟨vs,rfl,yu hs n cs he h2⟩
  .cases h
 |n+1,.fn f cs,a,rds,u,h,hr=>by
  simp only[toA]at h;split at h
  .rename_i as r he;cases h;simp only[relV]at hr;obtain⟨vs,rfl,h2⟩:=hr;simp only[rel];exact⟨vs,rfl,yu hs n cs he h2⟩
  .cases h
 |n+1,.ptr id off,a,rds,u,h,hr=>by
  simp only[toA]at h;simp only[relV]at hr;obtain⟨b,c,l,h1,rfl⟩:=hr;have ho:=hs.obj id;split at h
  .split at h
   .rename_i cs he _ as r he2;cases h;rw[he]at ho;obtain⟨hd,g1,g2⟩:=ho;rw[h1]at g1;cases g1;obtain⟨cc,T,g3,g4,g5⟩:=g2;have h6:=yu hs n cs he2 g5;simp only[rel];refine⟨b,0,by simp,(Array.getElem?_eq_some_iff.1 g3).1,λhb=>hb.2 ⟨id,.box cs,_,by simp,rfl,h1,y5⟩,?_⟩;exact yp (jF (MonoW.sub (jft λx hx=>by simp[hx])) _ _ h6) (Reads.block g3) g4
   .cases h
  .cases h
theorem yu(hs:Sto X w O0 m st):∀(n:Nat)(cs:Xj){as:Xd}{rds:Xm}{us:Xh},zZ st n cs=some (as,rds)->jb w (Ow O0 m st) m cs us->jm w (Oc O0 m st rds) as us
 |_,[],_,_,us,h,hr=>by
  simp only[zZ,Option.some.injEq,Prod.mk.injEq]at h;obtain⟨rfl,rfl⟩:=h;simpa[jb,jm]using hr
 |0,_::_,_,_,_,h,_=>by simp[zZ]at h
 |n+1,c::cs,as,rds,us,h,hr=>by
  simp only[zZ]at h;split at h
  .split at h
   .rename_i a r h1 _ as' r' h2;cases h;simp only[jb]at hr;obtain⟨v,t,rfl,g1,g2⟩:=hr;simp only[jm];exact⟨v,t,rfl,jU (MonoW.sub (jft λx hx=>by simp[hx])) _ _ (QG hs n c h1 g1),jF (MonoW.sub (jft λx hx=>by simp[hx])) _ _ (yu hs n cs h2 g2)⟩
   .cases h
  .cases h
end
theorem jvJ(b:Nat):Oc O0 m st [] b↔Ow O0 m st b:=⟨λh=>h.1,λh=>⟨h,λ⟨_,_,_,h,_⟩=>by cases h⟩⟩
end
section
variable(D:Nat->Option TI)
def jul(t:Nat):Option Nat:=
 match D t with
 |some i=>(match i.kind with
  |.slice e=>(match D e with|some j=>some j.size|none=>none)
  |_=>none)
 |none=>none
def jqL(t:Nat)(v:V):V:=match v with
 |.nil k=>(match jul D t with|some k=>.nil k|none=>.nil k)
 |v=>v
def jfz:Nat->Nat->Xf
 |0,t=>[t]
 |n+1,t=>match D t with
  |some i=>(match i.kind with
   |.struct fs=>fs.flatMap λf=>jfz n f.2
   |_=>[t])
  |none=>[t]
def jdL:Xf->Xj->Xj
 |t::ts,c::cs=>jqL D t c::jdL ts cs
 |_,cs=>cs
def nilV(t:Nat)(v:V):V:=match v with
 |.nil k=>jqL D t (.nil k)
 |.agg cs=>.agg (jdL D (jfz D 6 t) cs)
 |v=>v
def qo:Xf->Xj->Xj
 |t::ts,v::vs=>nilV D t v::qo ts vs
 |_,vs=>vs
end
section
variable{D:Nat->Option TI}{w:World}{O:Nat->Prop}{m:jG}
theorem jih{t:Nat}{a:V}{v:Value}(h:relV w O m a v):relV w O m (jqL D t a) v:=by
 unfold jqL;split
 .split
  .simpa only[relV]using h
  .exact h
 .exact h
theorem YK:∀{ts:Xf}{cs:Xj}{vs:Xh},jb w O m cs vs->jb w O m (jdL D ts cs) vs
 | [],cs,vs,h=>by simpa[jdL]using h
 |t::ts,[],vs,h=>by simpa[jdL]using h
 |t::ts,c::cs,vs,h=>by
  simp only[jb,jdL]at h⊢;obtain⟨v,r,rfl,h1,h2⟩:=h;exact⟨v,r,rfl,jih h1,YK h2⟩
theorem zk{t:Nat}{a:V}{v:Value}(h:relV w O m a v):relV w O m (nilV D t a) v:=by
 unfold nilV;split
 .exact jih h
 .simp only[relV]at h⊢;obtain⟨vs,h1,h2⟩:=h;exact⟨vs,h1,YK h2⟩
 .exact h
theorem kP:∀{ts:Xf}{cs:Xj}{vs:Xh},jb w O m cs vs->jb w O m (qo D ts cs) vs
 | [],cs,vs,h=>by simpa[qo]using h
 |t::ts,[],vs,h=>by simpa[qo]using h
 |t::ts,c::cs,vs,h=>by
  simp only[jb,qo]at h⊢;obtain⟨v,r,rfl,h1,h2⟩:=h;exact⟨v,r,rfl,zk h1,kP h2⟩
end
inductive DX where
 |opt (x:Xl)
 |call (f:FuncId) (args:Xd) (chk:Bool)
 |callc (fn:A) (args:Xd) (chk:Bool)
inductive DR where
 |no
 |val (v:V) (rds:Xm)
 |opt (x:DX) (rds:Xm)
inductive Sh where
 |d (i:Nat)
 |row (o:Nat)
 |ptr (o off:Nat)
 |agg (l:List Sh)
 |tup (l:List Sh)
inductive OW where
 |cons
 |io (j:Nat)
 |box (l:List Sh)
structure SigA where
 nd:Nat
 ks:Xf
 ws:List OW
 nw:Xf
 r:Sh
abbrev Sig:=List SigA
structure ExtV where
 ask:Xj->List Abs.Obj->Option (List (FuncId×Xd))
 ans:Xj->List Abs.Obj->List Out->Xe
def qT(n:Nat):Sig->Option SigA
 | []=>none
 |s::l=>if Nat.beq s.ws.length n then some s else qT n l
structure Cfg where
 P:Program
 D:Nat->Option TI
 sig:FuncId->Option Sig
 kp:FuncId->Xf->Nat
 ext:FuncId->Option (Xd->Xe)
 extv:FuncId->Option ExtV
 wf:FuncId->Bool:=λ_=>false
 both:FuncId->Bool:=λ_=>false
 kn:FuncId->Bool:=λ_=>false
 rd:FuncId->Bool:=λ_=>false
 sl:FuncId->Bool:=λ_=>false
 th:FuncId->Bool:=λ_=>false
 stc:FuncId->FuncId->Bool:=λ_ _=>false
 stf:FuncId->Bool:=λ_=>false
 src:FuncId->FuncId->Bool:=λ_ _=>false
 srf:FuncId->Bool:=λ_=>false
 tf:FuncId->Bool:=λ_=>false
 mak:FuncId->Bool:=λ_=>false
 mf:Bool:=false
 win:Bool:=false
 tr:Bool:=false
def Cfg.pureF(C:Cfg)(f:FuncId):Bool:=(C.sig f).isNone || C.both f
def jkO(C:Cfg):Xj->Bool
 | []=>false
 |.fn g _::l=> !C.pureF g || jkO C l
 |_::l=>jkO C l
def jiV:Xj->Bool
 | []=>false
 |.row _::_=>true
 |.agg (.row _::_)::_=>true
 |_::l=>jiV l
def Cfg.at(C:Cfg)(f:FuncId):Cfg:={ C with win:=C.wf f,tr:=C.tf f,mf:=C.mak f,stf:=C.stc f,srf:=C.src f }
def dat:V->Xl
 |.d a=>some a
 |.nil k=>some (.sl k [])
 |_=>none
def Kh(id off:Nat):Xj->Xm
 | []=>[]
 |c::cs=>.cell id off c::Kh id (off+1) cs
def yL(C:Cfg)(t:Nat)(a:V)(st:jg):DR:=
  match C.D t with
  |none=>.no
  |some i=>(match a with
    |.d p=>if i.kind.plain then .opt (.opt (zI p)) []else if i.kind.known then .opt (.opt (zX i.size p)) []else .no
    |.ptr id off=>(match st id with
      |.box cs=>if i.kind.plain then(match cs[off]? with|some v=>.val v [.cell id off v]|none=>.no)
          else if i.kind.known && Nat.ble (off+i.size) cs.length then .val (.agg ((cs.drop off).take i.size)) (Kh id off ((cs.drop off).take i.size))else .no
      |_=>.no)
    |.rptr id ix k j=>(match st id with
      |.row k' xs=>if Nat.beq k' k && Nat.ble (j+i.size) k then
          (if i.kind.plain then .opt (.opt (jsa xs ix j)) [.elem id ix k (jpc xs ix)]
           else if i.kind.known then .opt (.opt (jr9 xs ix j i.size)) [.elem id ix k (jpc xs ix)]else .no)
          else .no
      |_=>.no)
    |_=>.no)
def jfL(C:Cfg)(t:Nat):Bool:=match C.D t with|some i=>(match i.kind with|.bool=>true|_=>false)|none=>false
def zg(C:Cfg)(s f:Nat):Option (Nat×TI):=
 match C.D s with
 |some i=>(match i.kind with
  |.struct fs=>(match fs[f]? with
   |some (off,t)=>(match C.D t with|some j=>if j.kind.known then some (off,j)else none|none=>none)
   |none=>none)
  |_=>none)
 |none=>none
def kj:A->Bool
 |.val v=>v.oneCell'
 |.sl _ _=>true
 |.elt _ _=>true
 |.fn _ _=>true
 |_=>false
def ji2(plain:Bool)(n:Nat)(a:A):Option Xd:=
 if plain then(if kj a then some [a]else none)else(match a with|.agg ds=>if ds.length=n then some ds else none|_=>none)
def KX(sz:Nat->Option (Nat×TI)):Xd->List (Nat×A)->Xl
 |cs,[]=>some (.agg cs)
 |cs,(i,a)::rest=>(match sz i with
  |some (off,j)=>(ji2 j.kind.plain j.size a).bind λds=>if off+ds.length<=cs.length then KX sz (over cs off ds) rest else none
  |none=>none)
def Q2:List (Nat×V)->Option (List (Nat×A))
 | []=>some []
 |(i,v)::r=>(match dat v,Q2 r with|some a,some l=>some ((i,a)::l)|_,_=>none)
def K1:Xj->Option Xd
 | []=>some []
 |v::r=>(match dat v,K1 r with|some a,some l=>some (a::l)|_,_=>none)
def zeroV(C:Cfg)(t:Nat)(i:TI):Xj:=jdL C.D (jfz C.D 6 t) (i.zero.cells.toList.map jhM)
def y7(C:Cfg)(fs:Xk):List (Nat×V)->List (Nat×V)
 | []=>[]
 |(i,v)::r=>(match fs[i]? with|some (_,t)=>(i,nilV C.D t v)|none=>(i,v))::y7 C fs r
def Jv(C:Cfg)(fs:Xk):Bool:=fs.all λf=>match C.D f.2 with|some j=>j.kind.known|none=>false
def jrG:V->Bool|.d _=>true|_=>false
def jpC(ps:List (Nat×V))(z:Xj)(n:Nat):Bool:=ps.all (λp=>jrG p.2) && (Nat.beq ps.length n || z.all jrG)
def isRow:V->Bool|.row _=>true|_=>false
def bytesOf:Xc->Option Xi
 | []=>some []
 | [.val (.int .u8 n)]::r=>(bytesOf r).map (n::·)
 |_=>none
def YH(a:A):Xl:=match a with|.sl _ xs=>(bytesOf xs).map λns=>sv (ns.map λn=>UInt8.ofNat n.toNat)|_=>none
def jfO:Operand->Bool
 |.const (.slice none 0 0)=>true
 |_=>false
def jch:Operand->Operand->Operand->Bool
 |.const _,.const _,.const _=>true
 |_,_,_=>false
def evD(C:Cfg)(o:Oper)(ρ:Operand->V)(st:jg):DR:=
 match o.op with
 |.move x=>.val (nilV C.D o.type (ρ x)) []
 |.assign x=>.val (nilV C.D o.type (ρ x)) []
 |.pick c a b=>(match dat (ρ c),dat (nilV C.D o.type (ρ a)),dat (nilV C.D o.type (ρ b))with
  |some c,some a,some b=>.opt (.opt (yF c a b)) []
  |_,_,_=>.no)
 |.binOp op t x y _=>if jfO y then .no else(match dat (ρ x),dat (ρ y)with
  |some a,some b=>.opt (.opt (jw op (jfL C t) a b)) []
  |_,_=>.no)
 |.unOp op _ x=>(match dat (ρ x)with|some a=>.opt (.opt (JA op a)) []|none=>.no)
 |.load t a=>yL C t (ρ a) st
 |.fieldAddr s x f=>(match zg C s f with
  |some (off,j)=>if Nat.beq j.size 0 then .no else(match ρ x with
   |.ptr id p=>.val (.ptr id (p+off)) []
   |.rptr id i k p=>.val (.rptr id i k (p+off)) []
   |.d a=>.opt (.opt (Z6 a off)) []
   |_=>.no)
  |none=>.no)
 |.field s x f=>(match zg C s f with
  |some (off,j)=>(match ρ x with
   |.agg cs=>if j.kind.plain then(match cs[off]? with|some v=>.val v []|none=>.no)
     else if Nat.ble (off+j.size) cs.length then .val (.agg ((cs.drop off).take j.size)) []else .no
   |.d a=>if j.kind.plain then .opt (.opt (jcO off a)) []else .opt (.opt (jgc off j.size a)) []
   |_=>.no)
  |none=>.no)
 |.indexAddr t x i=>(match C.D t,dat (ρ i)with
  |some ti,some n=>(match ti.kind with
   |.slice e=>(match C.D e with
    |some j=>(match ρ x with
     |.d a=>.opt (.opt (ji j.size a n)) []
     |.row id=>(match st id with|.fro k xs=>.opt (.opt (ji j.size (.sl k xs) n)) [.obj id (.fro k xs)]|_=>.no)
     |_=>.no)
    |none=>.no)
   |_=>.no)
  |_,_=>.no)
 |.index t x i=>(match C.D t,dat (ρ x),dat (ρ i)with
  |some ti,some a,some n=>(match ti.kind with|.str=>.opt (.opt (jK a n)) []|_=>.no)
  |_,_,_=>.no)
 |.lookup t x k c=>(match C.D t,dat (ρ k)with
  |some ti,some ka=>(match ti.kind with
   |.map kt et=>(match C.D kt,C.D et with
    |some ki,some ei=>(match jqw ki.kind,K1 (zeroV C et ei)with
     |some ks,some z=>if zOk ei then(match ρ x with
      |.d a=>.opt (.opt (jk9 ks c ei.kind.plain z a ka)) []
      |.row id=>(match st id with|.map xs=>.opt (.opt (jk9 ks c ei.kind.plain z (.mp xs) ka)) [.obj id (.map xs)]|_=>.no)
      |_=>.no)else .no
     |_,_=>.no)
    |_,_=>.no)
   |_=>.no)
  |_,_=>.no)
 |.slice t x lo hi none=>(match C.D t with
  |some ti=>(match ti.kind with
   |.slice e=>(match C.D e with
    |some j=>(match(match ρ x with
      |.d a=>some (a,[])
      |.row id=>(match st id with|.fro k xs=>some (A.sl k xs,[Rd.obj id (.fro k xs)])|_=>none)
      |_=>none),(match lo with|none=>some none|some y=>(dat (ρ y)).map some),(match hi with|none=>some none|some y=>(dat (ρ y)).map some)with
     |some (a,rds),some l,some h=>.opt (.opt (jai j.size a l h)) rds
     |_,_,_=>.no)
    |none=>.no)
   |.str=>(match dat (ρ x),(match lo with|none=>some none|some y=>(dat (ρ y)).map some),(match hi with|none=>some none|some y=>(dat (ρ y)).map some)with
    |some a,some l,some h=>.opt (.opt (jX a l h)) []
    |_,_,_=>.no)
   |_=>.no)
  |none=>.no)
 |.slice t x (some l) (some h) (some m)=>if !jch l h m then .no else(match C.D t,ρ l,ρ h,ρ m with
  |some ti,.d (.val (.int _ 0)),.d (.val (.int _ 0)),.d (.val (.int _ 0))=>(match ti.kind with
   |.slice e=>(match C.D e with
    |some j=>(match ρ x with
     |.row id=>(match st id with|.row k xs=>.val (.nil k) [.obj id (.row k xs)]|.fro k xs=>.val (.nil k) [.obj id (.fro k xs)]|_=>.no)
     |.nil k=>.val (.nil k) []
     |_=>.no)
    |none=>.no)
   |_=>.no)
  |_,_,_,_=>.no)
 |.convert s d x=>(match C.D s,C.D d with
  |some si,some di=>(match si.kind,di.kind with
   |.int _,.int k'=>(match dat (ρ x)with|some a=>.opt (.opt (jcN k' a)) []|none=>.no)
   |.slice e,.str=>(match C.D e,toA st 60 (ρ x)with
    |some j,some (a,rds)=>(match j.kind with|.int .u8=>.opt (.opt (YH a)) rds|_=>.no)
    |_,_=>.no)
   |_,_=>.no)
  |_,_=>.no)
 |.makeFunc (.func g) fs cs=>if fs.size=0 then .val (.fn g (cs.toList.map ρ)) []else .no
 |.extract x n=>(match ρ x with
  |.tup cs=>(match cs[n]? with|some v=>.val v []|none=>.no)
  |.d a=>.opt (.opt (jcP a n)) []
  |_=>.no)
 |.nilCheck x=>(match ρ x with
  |.ptr id off=>.val (.ptr id off) []
  |.rptr id i k j=>.val (.rptr id i k j) []
  |.fn f cs=>.val (.fn f cs) []
  |.d a=>.opt (.opt (juG a)) []
  |_=>.no)
 |.build t ps=>(match C.D t with
  |some i=>(match i.kind with
   |.struct fs=>(match K1 (zeroV C t i),Q2 (y7 C fs (ps.toList.map λp=>(p.1,ρ p.2)))with
    |some z,some l=>if Jv C fs then(if jpC (y7 C fs (ps.toList.map λp=>(p.1,ρ p.2))) (zeroV C t i) fs.length then .opt (.opt (KX (zg C t) z l)) []else .no)else .no
    |_,_=>.no)
   |_=>.no)
  |none=>.no)
 |.call c=>(match c.callee with
  |.builtin .len=>(match c.args.toList,c.argTypes.toList with
   | [x],[t]=>(match C.D t with
    |some ti=>(match ti.kind with
     |.slice _=>(match ρ x with
      |.nil _=>.val (.d (vi 0)) []
      |.row id=>(match st id with|.row k xs=>.val (.d (jbi xs)) [.len id k xs.length]|.fro k xs=>.val (.d (jbi xs)) [.obj id (.fro k xs)]|.tre f k xs=>.val (.d (jbi xs)) [.tlen id f k xs.length]|_=>.no)
      |.d a=>.opt (.opt (Qz a)) []
      |.win _ _ _ n=>.val (.d (nA n)) []
      |_=>.no)
     |.str=>(match dat (ρ x)with|some a=>.opt (.opt (J3 a)) []|none=>.no)
     |_=>.no)
    |none=>.no)
   |_,_=>.no)
  |.builtin .max=>(match c.args.toList with
   | [x,y]=>(match dat (ρ x),dat (ρ y)with|some a,some b=>.opt (.opt (jjG a b)) []|_,_=>.no)
   |_=>.no)
  |.builtin .min=>(match c.args.toList with
   | [x,y]=>(match dat (ρ x),dat (ρ y)with|some a,some b=>.opt (.opt (jmr a b)) []|_,_=>.no)
   |_=>.no)
  |.value f=>(match ρ f with
   |.fn g caps=>(match C.sig g with
    |some _=>if C.both g && (!C.sl g && (!(C.stf g || C.srf g && jiV (c.args.toList.map ρ)) && !jkO C (c.args.toList.map ρ)))then(match zZ st 60 (qo C.D c.argTypes.toList (c.args.toList.map ρ)++caps)with|some (as,rds)=>.opt (.call g as (ye rds)) rds|none=>.no)else .no
    |none=>(match zZ st 60 (qo C.D c.argTypes.toList (c.args.toList.map ρ)++caps)with
     |some (as,rds)=>.opt (.call g as (ye rds)) rds
     |none=>.no))
   |.d a=>(match zZ st 60 (qo C.D c.argTypes.toList (c.args.toList.map ρ))with
    |some (as,rds)=>.opt (.callc a as (ye rds)) rds
    |none=>.no)
   |_=>.no)
  |_=>.no)
 |_=>.no
end
noncomputable section
inductive Node where
 |call (f:FuncId) (args:Xd)
 |callv (f:FuncId) (args:Xj) (objs:List Obj)
 |head (f:FuncId) (path:Xf) (fr:Xj) (objs:List Obj) (sh:Option Xf)
 |rhead (f:FuncId) (path:Xf) (fr:Xj) (objs:List Obj) (sh:Option Xf) (rem:Xc)
def fin(chk:Bool)(o:Out):Xl:=
 match o.2 with
 | []=>if chk && !kT o.1 then none else some o.1
 |_=>none
def DX.run(C:Cfg)(M:Node->Xe):DX->Xl
 |.opt x=>x
 |.call f args chk=>(M (.call f args)).bind (fin chk)
 |.callc fn args chk=>(match fn with
  |.fn f caps=>if C.pureF f then(M (.call f (args++caps))).bind (fin chk)else none
  |_=>none)
def Enters(P:Program)(f:FuncId):Prop:=∀(args:Array Value)(w:World),(callFunc f args).run P w = .ok (.enter f args) w
theorem yJ{P:Program}{f:FuncId}{fn:Func}{c:Code}(hf:P.funcs[f]? = some fn)(hn:(fn.name == "runtime.NumGoroutine")=false)(hb:fn.body=some c):Enters P f:=by
 intro args w;simp[callFunc,hf,hb];simpa using hn
def yd(X:Ctx)(P:Program)(f:FuncId)(args:Xd)(out:Out):Prop:=Enters P f/\
 ∀(w:World)(O:Nat->Prop)(vs:Xh),X.J w->(∀b,X.N b->O b)->(∀b,O b->b<w.heap.size)->jm w O args vs->
  Calls P f vs.toArray w λe w'=>∃v,e = .returned v/\Below w.heap.size w w'/\rel w' O out.1 v
def askAll(C:Cfg)(M:Node->Xe):List (FuncId×Xd)->Option (List Out)
 | []=>some []
 |(f,as)::l=>if C.pureF f then(M (.call f as)).bind λo=>(askAll C M l).bind λos=>some (o::os)else none
def extRun(C:Cfg)(M:Node->Xe)(x:ExtV)(args:Xj)(objs:List Abs.Obj):Xe:=
 (x.ask args objs).bind λqs=>(askAll C M qs).bind λouts=>x.ans args objs outs
def jgG(X:Ctx)(P:Program)(qs:List (FuncId×Xd))(outs:List Out):Prop:=outs.length=qs.length/\ ∀(i:Nat)(q:FuncId×Xd)(o:Out),qs[i]? = some q->outs[i]? = some o->yd X P q.1 q.2 o
def yD(X:Ctx)(C:Cfg)(M:Node->Xe):Prop:=∀f args out,C.pureF f=true->M (.call f args)=some out->yd X C.P f args out
theorem jdW{X:Ctx}{C:Cfg}{M:Node->Xe}(hM:yD X C M):∀{qs:List (FuncId×Xd)}{outs:List Out},askAll C M qs=some outs->jgG X C.P qs outs
 | [],outs,h=>by simp only[askAll,Option.some.injEq]at h;subst h;exact⟨rfl,λi q o h=>by simp at h⟩
 |(f,as)::l,outs,h=>by
  simp only[askAll]at h;split at h
  .rename_i hp;obtain⟨o,h1,h2⟩:=Option.bind_eq_some_iff.1 h;obtain⟨os,h3,h4⟩:=Option.bind_eq_some_iff.1 h2;cases h4;obtain⟨g1,g2⟩:=jdW hM h3;refine⟨by simp[g1],λi q o' hq ho=>?_⟩;cases i with
   |zero=>simp at hq ho;subst hq ho;exact hM f as o hp h1
   |succ i=>exact g2 i q o' (by simpa using hq) (by simpa using ho)
  .cases h
section
variable{P:Program}{X:Ctx}{o:Oper}{ρ:Operand->V}
theorem jB.same{v:V}{rds:Xm}(h:∀(w:World)(O0:Nat->Prop)(m:jG)(st:jg)(ev:Operand->Value),Sto X w O0 m st->(∀r∈rds,kr st r)->(∀x∈o.op.operands,relV w (Ow O0 m st) m (ρ x) (ev x))->
  ∃u,(execOp ev o).run P w = .ok (.value u) w/\relV w (Ow O0 m st) m v u):jB P X o ρ ⟨v,rds,[]⟩:=by
 intro w O0 m st ev hs hg hr _hc;obtain⟨u,h1,h2⟩:=h w O0 m st ev hs hg hr;rw[h1];exact⟨m,Chg.refl _ _ _,hs,h2⟩
theorem jB.sameC{v:V}{rds:Xm}(h:∀(w:World)(O0:Nat->Prop)(m:jG)(st:jg)(ev:Operand->Value),Sto X w O0 m st->(∀r∈rds,kr st r)->(∀x∈o.op.operands,relV w (Ow O0 m st) m (ρ x) (ev x))->(∀v,ev (.const v)=v)->
  ∃u,(execOp ev o).run P w = .ok (.value u) w/\relV w (Ow O0 m st) m v u):jB P X o ρ ⟨v,rds,[]⟩:=by
 intro w O0 m st ev hs hg hr hc;obtain⟨u,h1,h2⟩:=h w O0 m st ev hs hg hr hc;rw[h1];exact⟨m,Chg.refl _ _ _,hs,h2⟩
theorem jB.data{a:A}{rds:Xm}(h:∀(w:World)(O0:Nat->Prop)(m:jG)(st:jg)(ev:Operand->Value),Sto X w O0 m st->(∀r∈rds,kr st r)->(∀x∈o.op.operands,relV w (Ow O0 m st) m (ρ x) (ev x))->
  ∃u,(execOp ev o).run P w = .ok (.value u) w/\rel w (Ow O0 m st) a u):jB P X o ρ ⟨.d a,rds,[]⟩:=
 jB.same λw O0 m st ev hs hg hr=>by simpa only[relV]using h w O0 m st ev hs hg hr
theorem jD{w:World}{O:Nat->Prop}{m:jG}{v:V}{a:A}{u:Value}(h:dat v=some a)(hr:relV w O m v u):rel w O a u:=by
 cases v<;>simp only[dat,Option.some.injEq,reduceCtorEq]at h
 .subst h;simp only[relV]at hr;obtain⟨a,rfl⟩:=hr;simp only[rel];exact⟨a,0,rfl,by simp,by omega,Or.inl trivial⟩
 .subst h;simpa only[relV]using hr
theorem run_move{x:Operand}{ev:Operand->Value}(ho:o.op = .move x\/o.op = .assign x)(w:World):(execOp ev o).run P w = .ok (.value (ev x)) w:=by
 rcases ho with ho|ho<;>simp only[execOp,ho,Sem.run_pure]
theorem jpj{c a b:Operand}{ev:Operand->Value}(ho:o.op = .pick c a b){t:Bool}{w:World}(hc:ev c = .bool t):(execOp ev o).run P w = .ok (.value (if t then ev a else ev b)) w:=by
 simp only[execOp,ho,hc,asBool,Sem.run_bind,Sem.run_pure,Result.andThen_ok]
theorem run_load{t:TypeId}{a:Operand}{ev:Operand->Value}(ho:o.op = .load t a){b off:Nat}{w:World}{v:Value}(ha:ev a = .pointer (some ⟨b,off,none⟩))(h:(loadVar t ⟨b,off,none⟩).run P w = .ok v w):(execOp ev o).run P w = .ok (.value v) w:=by
 simp only[execOp,ho,Instr.loadAt,ha,Instr.sureAddr,Sem.run_bind,Sem.run_pure,Result.andThen_ok,h]
theorem jaG{st:jg}{id:Nat} :∀{cs:Xj}{off:Nat},(∀r∈Kh id off cs,kr st r)-> ∀j v,cs[j]? = some v-> ∃bs,st id = .box bs/\bs[off+j]? = some v
 | [],_,_,j,v,h=>by simp at h
 |c::cs,off,hg,j,v,h=>by
  cases j with
  |zero=>simp at h;subst h;exact hg (.cell id off c) (by simp[Kh])
  |succ j=>
   simp at h;have:=jaG (id:=id) (off:=off+1) (λr hr=>hg r (by simp only[Kh,List.mem_cons];exact Or.inr hr)) j v h;rwa[show off+1+j=off+(j+1) by omega]at this
theorem jaz{st:jg}{id:Nat}{bs:Xj}(hb:st id = .box bs):∀{cs:Xj}{off:Nat},(∀j v,cs[j]? = some v->bs[off+j]? = some v)-> ∀r∈Kh id off cs,kr st r
 | [],_,_,r,h=>by cases h
 |c::cs,off,hc,r,h=>by
  simp only[Kh,List.mem_cons]at h;rcases h with rfl|h
  .exact ⟨bs,hb,by simpa using hc 0 c (by simp)⟩
  .refine jaz hb (λj v hj=>?_) r h;have:=hc (j+1) v (by simpa using hj);rwa[show off+(j+1)=off+1+j by omega]at this
theorem Q6{w:World}{O0:Nat->Prop}{m:jG}{st:jg}(hs:Sto X w O0 m st){id b c n:Nat}{cs:Xj}(hb:st id = .box cs)(hm:m id=some (.blk b c n)) :
  ∃vs,jb w (Ow O0 m st) m cs vs/\Reads w b 0 vs:=by
 have ho:=hs.obj id;rw[hb]at ho;obtain⟨hd,g1,g2⟩:=ho;rw[hm]at g1;cases g1;obtain⟨cc,T,g3,g4,g5⟩:=g2;exact⟨cc.toList,g5,Reads.block g3⟩
theorem jmH{w:World}{O0:Nat->Prop}{m:jG}{st:jg}(hs:Sto X w O0 m st){id b c n k:Nat}{xs:Xc}(hb:st id = .row k xs)(hm:m id=some (.blk b c n)){i:Nat}{cs:Xd}(hi:xs[i]? = some cs) :
  cs.length=k/\ ∃vs,jm w (Ow O0 m st) cs vs/\Reads w b (i*k) vs:=by
 have ho:=hs.obj id;rw[hb]at ho;obtain⟨hd,g1,g2⟩:=ho;rw[hm]at g1;cases g1;obtain⟨_,_,_,q3,cc,T,q4,q5,q7,q6⟩:=g2;have hr:=zS (off:=0) q3 q6 ((Reads.block q4).take _) q7;obtain⟨h1,h2⟩:=JB hr hi;obtain⟨vs,h3,h4,_⟩:=zK h2;exact⟨h1,vs,h3,by simpa using h4⟩
theorem jfD{C:Cfg}(hD:zl C.P C.D){t:TypeId}{x:Operand}(ho:o.op = .load t x){st:jg} :
  (∀v rds,yL C t (ρ x) st = .val v rds->jB C.P X o ρ ⟨v,rds,[]⟩/\ ∀r∈rds,kr st r)/\
  (∀y rds a,yL C t (ρ x) st = .opt (.opt y) rds->y=some a->jB C.P X o ρ ⟨.d a,rds,[]⟩/\ ∀r∈rds,kr st r):=by
 have hmem:x∈o.op.operands:=by simp[ho,Op.operands]
 constructor
 .intro v rds h;unfold yL at h;split at h
  .cases h
  .rename_i i hi;split at h
   .split at h
    .cases h
    .split at h<;>cases h
   .rename_i id off hx;split at h
    .rename_i cs hst;split at h
     .rename_i hp;split at h
      .rename_i v' hv;cases h;refine⟨jB.same λw O0 m st' ev hs hg hr=>?_,λr hr=>by simp at hr;subst hr;exact⟨cs,hst,hv⟩⟩;have hx':=hr x hmem;rw[hx]at hx';simp only[relV]at hx';obtain⟨b,c,n,h1,h2⟩:=hx';obtain⟨cs',g1,g2⟩:=hg _ (List.mem_singleton.2 rfl);obtain⟨vs,g3,g4⟩:=Q6 hs g1 h1;obtain⟨u,g5,g6⟩:=yT g3 g2;have hlt:=(List.getElem?_eq_some_iff.1 g5).1;have hk:i.kind.known=true:=by cases hi:i.kind<;>simp_all [TK.known,TK.plain]
       obtain⟨z,q1,q2⟩:=run_loadCells (P:=C.P) (hD _ _ hi) hk (g4.drop off) (by rw[(hD _ _ hi).one hp];simp;omega)
       rcases q2 with⟨_,q2⟩|⟨q2,_⟩
       .have e:z=u:=by rw[List.getElem?_drop,Nat.add_zero,g5]at q2;cases q2;rfl
        subst e;exact⟨z,run_load ho (by simpa using h2) (by simpa using q1),g6⟩
       .rw [hp]at q2;cases q2
      .cases h
     .rename_i hp;split at h
      .rename_i hk;simp only[Bool.and_eq_true,Nat.ble_eq]at hk;cases h;refine⟨jB.same λw O0 m st' ev hs hg hr=>?_,jaz hst λj v hj=>by
        rw[List.getElem?_take]at hj;split at hj
        .rwa [List.getElem?_drop]at hj
        .cases hj⟩
       have hx':=hr x hmem;rw[hx]at hx';simp only[relV]at hx';obtain⟨b,c,n,h1,h2⟩:=hx';have hlen:((cs.drop off).take i.size).length=i.size:=by simp;omega
       by_cases h0:i.size=0
       .have hz:(loadVar t ⟨b,off,none⟩).run C.P w = .ok (.agg #[]) w:=by
         obtain⟨z,q1,q2⟩:=run_loadCells (P:=C.P) (w:=w) (b:=b) (off:=off) (hD _ _ hi) hk.1 (vs:=[]) (λj v h=>by simp at h) (by simp[h0]);rcases q2 with⟨q2,_⟩|⟨_,q2⟩
         .exact absurd q2 hp
         .rw [q2]at q1;simpa using q1
        refine⟨_,run_load ho h2 hz,?_⟩;simp only[relV,h0,List.take_zero];exact⟨[],rfl,by simp[jb]⟩
       obtain⟨bs,g1,g2⟩:∃bs,st' id = .box bs/\ ∀j v,((cs.drop off).take i.size)[j]? = some v->bs[off+j]? = some v:=by
        have hc:=jaG hg;obtain⟨bs,g1,_⟩:=hc 0 _ (List.getElem?_eq_getElem (by omega));refine⟨bs,g1,λj v hj=>?_⟩;obtain⟨bs',g3,g4⟩:=hc j v hj;rw[g1]at g3;cases g3;exact g4
       obtain⟨vs,g3,g4⟩:=Q6 hs g1 h1;have hbl:off+i.size<=bs.length:=by
        have:=g2 (i.size-1) _ (List.getElem?_eq_getElem (by omega));have:=(List.getElem?_eq_some_iff.1 this).1;omega
       have hvl:=jZ g3;obtain⟨z,q1,q2⟩:=run_loadCells (P:=C.P) (hD _ _ hi) hk.1 (g4.drop off) (by simp;omega);rcases q2 with⟨q2,_⟩|⟨_,rfl⟩
       .exact absurd q2 hp
       .refine ⟨_,run_load ho h2 (by simpa using q1),?_⟩;simp only[relV];refine⟨_,rfl,?_⟩;have e:(cs.drop off).take i.size=(bs.drop off).take i.size:=by
         apply List.ext_getElem?
         intro j;by_cases hj:j<i.size
         .obtain ⟨v,hv⟩:∃v,((cs.drop off).take i.size)[j]? = some v:=⟨_,List.getElem?_eq_getElem (by omega)⟩;rw[hv,List.getElem?_take,if_pos hj,List.getElem?_drop];exact(g2 j v hv).symm
         .rw [List.getElem?_eq_none (by omega),List.getElem?_eq_none (by simp;omega)]
        rw[e];exact Jj _ (Ji _ g3)
      .cases h
    .cases h
   .split at h
    .split at h
     .split at h
      .cases h
      .split at h<;>cases h
     .cases h
    .cases h
   .cases h
 .intro y rds a h hy;subst hy;unfold yL at h;split at h
  .cases h
  .rename_i i hi;split at h
   .rename_i p hx;split at h
    .rename_i hp;simp only[DR.opt.injEq,DX.opt.injEq]at h;obtain⟨h,rfl⟩:=h;refine⟨jB.data λw O0 m st' ev hs hg hr=>?_,by simp⟩;have hx':=hr x hmem;rw[hx]at hx';simp only[relV]at hx';exact jmK ho (hD _ _ hi) hp hx' h
    .rename_i hp;split at h
     .rename_i hk;simp only[DR.opt.injEq,DX.opt.injEq]at h;obtain⟨h,rfl⟩:=h;refine⟨jB.data λw O0 m st' ev hs hg hr=>?_,by simp⟩;have hx':=hr x hmem;rw[hx]at hx';simp only[relV]at hx';exact jmJ ho (hD _ _ hi) hk (by simpa using hp) hx' h
     .cases h
   .split at h
    .split at h
     .split at h<;>cases h
     .split at h<;>cases h
    .cases h
   .rename_i id ix k j hx;split at h
    .rename_i k' xs hst;split at h
     .rename_i hkk;simp only[Bool.and_eq_true,Nat.ble_eq]at hkk;obtain⟨hk',hjk⟩:=hkk;have hk':=Nat.eq_of_beq_eq_true hk';subst hk';simp only[jpc]at h;have key:∀(cs:Xd),xs[ix]? = some cs->(∀r ∈ [Rd.elem id ix k' (xs.getD ix [])],kr st r)/\
        ∀(w:World)(O0:Nat->Prop)(m:jG)(st':jg)(ev:Operand->Value),Sto X w O0 m st'->(∀r ∈ [Rd.elem id ix k' (xs.getD ix [])],kr st' r)->(∀x∈o.op.operands,relV w (Ow O0 m st') m (ρ x) (ev x))->
         cs.length=k'/\ ∃b vs,ev x = .pointer (some ⟨b,ix*k'+j,none⟩)/\jm w (Ow O0 m st') cs vs/\Reads w b (ix*k') vs:=by
       intro cs hcs;have hgd:xs.getD ix []=cs:=by rw[List.getD_eq_getElem?_getD,hcs];rfl
       rw[hgd];refine⟨λr hr=>by simp at hr;subst hr;exact⟨xs,hst,hcs⟩,λw O0 m st' ev hs hg hr=>?_⟩;have hx':=hr x hmem;rw[hx]at hx';simp only[relV]at hx';obtain⟨hd0,b,h0,h1,h2⟩:=hx';obtain⟨xs',g1,g2⟩:=hg _ (List.mem_singleton.2 rfl);obtain⟨c,n,h1⟩:=jin hs g1 h0 h1;obtain⟨g3,vs,g4,g5⟩:=jmH hs g1 h1 g2;exact⟨g3,b,vs,h2,g4,g5⟩
      split at h
      .rename_i hp;simp only[DR.opt.injEq,DX.opt.injEq]at h;obtain⟨h,rfl⟩:=h;unfold jsa at h;rw[Option.bind_eq_some_iff]at h;obtain⟨cs,hcs,hca⟩:=h;obtain⟨k1,k2⟩:=key cs hcs;refine⟨jB.data λw O0 m st' ev hs hg hr=>?_,k1⟩;obtain⟨g3,b,vs,h2,g4,g5⟩:=k2 w O0 m st' ev hs hg hr;obtain⟨u,g6,g7⟩:=Zm g4 hca;have hlt:=(List.getElem?_eq_some_iff.1 g6).1;have hk:i.kind.known=true:=by cases hi:i.kind<;>simp_all [TK.known,TK.plain]
       obtain⟨z,q1,q2⟩:=run_loadCells (P:=C.P) (hD _ _ hi) hk (g5.drop j) (by rw[(hD _ _ hi).one hp];simp;omega)
       rcases q2 with⟨_,q2⟩|⟨q2,_⟩
       .have e:z=u:=by rw[List.getElem?_drop,Nat.add_zero,g6]at q2;cases q2;rfl
        subst e;exact⟨z,run_load ho h2 q1,g7⟩
       .rw [hp]at q2;cases q2
      .rename_i hp;split at h
       .rename_i hk;simp only[DR.opt.injEq,DX.opt.injEq]at h;obtain⟨h,rfl⟩:=h;unfold jr9 at h;rw[Option.map_eq_some_iff]at h;obtain⟨cs,hcs,rfl⟩:=h;obtain⟨k1,k2⟩:=key cs hcs;refine⟨jB.data λw O0 m st' ev hs hg hr=>?_,k1⟩;obtain⟨g3,b,vs,h2,g4,g5⟩:=k2 w O0 m st' ev hs hg hr;have hvl:=jy g4;obtain⟨z,q1,q2⟩:=run_loadCells (P:=C.P) (hD _ _ hi) hk (g5.drop j) (by simp;omega);rcases q2 with⟨q2,_⟩|⟨_,rfl⟩
        .exact absurd q2 hp
        .refine ⟨_,run_load ho h2 q1,?_⟩;simp only[rel];exact⟨_,rfl,yk _ (qN _ g4)⟩
       .cases h
     .cases h
    .cases h
   .cases h
end
end
open Go Go.RowKit Go.MapKept
noncomputable section
theorem Zd{α:Type}(l:List α)(p:Nat)(v:α)(vs:List α)(h:p+1+vs.length<=l.length) :
  (l.set p v).take (p+1)++vs++(l.set p v).drop (p+1+vs.length)=l.take p++(v::vs)++l.drop (p+(vs.length+1)):=by
 have h1:(l.set p v).take (p+1)=l.take p++[v]:=by
  rw[List.take_succ_eq_append_getElem (by simp;omega)]
  simp[List.take_set_of_le]
 have h2:(l.set p v).drop (p+1+vs.length)=l.drop (p+(vs.length+1)):=by
  rw[List.drop_set_of_lt (by omega)];congr 1;omega
 rw[h1,h2];simp
theorem zG{off:Nat} :∀(l:Xh)(k:Nat)(cells:Array Value),off+k+l.length<=cells.size->
  ((l.zipIdx k).foldl (λ(cs:Array Value)(p:Value×Nat)=>cs.setIfInBounds (off+p.2) p.1) cells).toList=cells.toList.take (off+k)++l++cells.toList.drop (off+k+l.length)
 | [],k,cells,_=>by simp
 |v::l,k,cells,h=>by
  simp only[List.zipIdx_cons,List.foldl_cons];have ih:=zG (off:=off) l (k+1) (cells.setIfInBounds (off+k) v) (by simp at h⊢;omega);rw[ih,Array.toList_setIfInBounds,<-Nat.add_assoc];exact Zd cells.toList (off+k) v l (by simp at h⊢;omega)
theorem cells_one{v:Value}(h:v.oneCell'=true):v.cells = #[v]:=by
 cases v<;>first|rfl|(simp[Value.oneCell']at h)
section
variable{w:World}{O:Nat->Prop}{m:jG}
theorem JC{a:A}{v:Value}(h:rel w O a v)(hk:kj a=true):v.oneCell'=true:=by
 cases a<;>simp only[kj,Bool.false_eq_true]at hk<;>simp only[rel]at h
 case val x=>subst h;exact hk
 case sl=>obtain⟨a,cap,rfl,_⟩:=h;rfl
 case elt=>obtain⟨b,o,rfl,_⟩:=h;rfl
 case fn=>obtain⟨vs,rfl,_⟩:=h;rfl
theorem jjR{plain:Bool}{n:Nat}{a:A}{v:Value}(h:rel w O a v){ds:Xd}(hc:ji2 plain n a=some ds):jm w O ds v.cells.toList/\(plain=true->v.oneCell'=true/\v.cells = #[v])/\(plain=false->ds.length=n):=by
 unfold ji2 at hc;split at hc
 .rename_i hp;split at hc
  .rename_i hk;cases hc;have h1:=JC h hk;have h2:=cells_one h1;refine⟨?_,λ_=>⟨h1,h2⟩,λh=>by rw[hp]at h;cases h⟩;rw[h2];simp only[jm];exact⟨_,[],rfl,h,rfl⟩
  .cases hc
 .rename_i hp;split at hc
  .split at hc
   .rename_i hl;cases hc;simp only[rel]at h;obtain⟨vs,rfl,h2⟩:=h;exact⟨by simpa[Value.cells]using h2,λh=>absurd h hp,λ_=>hl⟩
   .cases hc
  .cases hc
theorem jd1{sz:Nat->Option (Nat×TI)}(hone:∀q off j,sz q=some (off,j)->j.kind.plain=true->j.size=1):∀(parts:List (Nat×A))(vals:List (Nat×Value))(cs:Xd)(cells:Array Value)(r:A),jm w O cs cells.toList->
  parts.map Prod.fst=vals.map Prod.fst->jm w O (parts.map Prod.snd) (vals.map Prod.snd)->KX sz cs parts=some r->
  ∃cells',Instr.fill (λq=>(sz q).map λx=>(x.1,x.2.size)) cells vals=some cells'/\rel w O r (.agg cells')
 | [],vals,cs,cells,r,h,h1,_,hp=>by
  simp only[List.map_nil]at h1;have hv:vals=[]:=by simpa using h1.symm
  subst hv;simp only[KX,Option.some.injEq]at hp;subst hp;refine⟨cells,rfl,?_⟩;simp only[rel];exact⟨cells.toList,by simp,h⟩
 |p::parts,vals,cs,cells,r,h,h1,h2,hp=>by
  obtain⟨q,a⟩:=p;cases vals with
  |nil=>simp at h1
  |cons v vals=>
   obtain⟨q',u⟩:=v;simp only[List.map_cons,List.cons.injEq]at h1;obtain⟨rfl,h1⟩:=h1;simp only[List.map_cons,jm,List.cons.injEq]at h2;obtain⟨u',rr,⟨rfl,rfl⟩,g1,g2⟩:=h2;simp only[KX]at hp;cases hs:sz q with
   |none=>simp[hs]at hp
   |some on=>
    obtain⟨off,j⟩:=on;simp only[hs]at hp;rw[Option.bind_eq_some_iff]at hp;obtain⟨ds,hc,hp⟩:=hp;split at hp
    .rename_i hb;obtain⟨k1,k2,k3⟩:=jjR g1 hc;have k4:=jy k1;have k5:=jy h;simp only[Array.length_toList]at k4 k5;have hsz:u.cells.size=j.size:=by
      cases hpl:j.kind.plain with
      |true=>rw[(k2 hpl).2,hone q off j hs hpl];rfl
      |false=>rw[k4,k3 hpl]
     simp only[Instr.fill,hs,Option.map_some];rw[if_neg (by simp;omega)];refine jd1 hone parts vals (over cs off ds) _ r ?_ h1 g2 hp;have hz:(u.cells.zipIdx.foldl (λ(cs:Array Value)(p:Value×Nat)=>cs.setIfInBounds (off+p.2) p.1) cells).toList=over cells.toList off u.cells.toList:=by
      have:=zG (off:=off) u.cells.toList 0 cells (by simp;omega)
      rw[<-Array.foldl_toList,Array.toList_zipIdx];simpa[over]using this
     show jm w O (over cs off ds) (u.cells.zipIdx.foldl (λ(cs:Array Value)(p:Value×Nat)=>cs.setIfInBounds (off+p.2) p.1) cells).toList;rw[hz];exact ZO h k1
    .cases hp
end
section
variable{P:Program}{X:Ctx}{o:Oper}{ρ:Operand->V}{C:Cfg}
theorem jc2{w:World}{O:Nat->Prop}{m:jG} :∀vs:Xh,jb w O m (vs.map jhM) vs
 | []=>by simp[jb]
 |v::vs=>by simp only[List.map_cons,jb];exact⟨v,vs,rfl,jig v,jc2 vs⟩
theorem kQ{w:World}{O:Nat->Prop}{m:jG}(t:Nat)(i:TI):jb w O m (zeroV C t i) i.zero.cells.toList:=YK (jc2 _)
theorem zR{w:World}{O:Nat->Prop}{m:jG} :∀{cs:Xj}{as:Xd}{vs:Xh},K1 cs=some as->jb w O m cs vs->jm w O as vs
 | [],as,vs,h,hr=>by simp only[K1,Option.some.injEq]at h;subst h;simpa[jb,jm]using hr
 |c::cs,as,vs,h,hr=>by
  simp only[K1]at h;split at h
  .rename_i a l ha hl;cases h;simp only[jb]at hr;obtain⟨v,r,rfl,h1,h2⟩:=hr;simp only[jm];exact⟨v,r,rfl,jD ha h1,zR hl h2⟩
  .cases h
theorem jbM{w:World}{O:Nat->Prop}{m:jG} :∀{ps:List (Nat×V)}{as:List (Nat×A)}{vs:Xh},Q2 ps=some as->jb w O m (ps.map Prod.snd) vs->jm w O (as.map Prod.snd) vs/\as.map Prod.fst=ps.map Prod.fst
 | [],as,vs,h,hr=>by simp only[Q2,Option.some.injEq]at h;subst h;simpa[jb,jm]using hr
 |(i,c)::cs,as,vs,h,hr=>by
  simp only[Q2]at h;split at h
  .rename_i a l ha hl;cases h;simp only[List.map_cons,jb]at hr;obtain⟨v,r,rfl,h1,h2⟩:=hr;obtain⟨h3,h4⟩:=jbM hl h2;simp only[List.map_cons,jm,h4];exact⟨⟨v,r,rfl,jD ha h1,h3⟩,trivial⟩
  .cases h
theorem Zh{w:World}{O:Nat->Prop}{m:jG}{fs:Xk} :∀{ps:List (Nat×V)}{vs:Xh},jb w O m (ps.map Prod.snd) vs->jb w O m ((y7 C fs ps).map Prod.snd) vs/\(y7 C fs ps).map Prod.fst=ps.map Prod.fst
 | [],vs,hr=>by simpa[y7]using hr
 |(i,c)::cs,vs,hr=>by
  simp only[List.map_cons,jb]at hr;obtain⟨v,r,rfl,h1,h2⟩:=hr;obtain⟨h3,h4⟩:=Zh (fs:=fs) h2;simp only[y7,List.map_cons,jb];cases fs[i]? with
  |none=>exact⟨⟨v,r,rfl,h1,h3⟩,by simp[h4]⟩
  |some q=>exact⟨⟨v,r,rfl,zk h1,h3⟩,by simp[h4]⟩
theorem run_places{D:Nat->Option TI}(hD:zl P D){w:World} :∀(l:List Field),(∀f∈l,∃j,D f.type=some j)->
  (l.mapM (λ(f:Field)=>(do pure (f.offset,<-sizeOf f.type):Sem (Nat×Nat)))).run P w = .ok (l.map λf=>(f.offset,((D f.type).map (·.size)).getD 0)) w
 | [],_=>by simp
 |f::l,h=>by
  obtain⟨j,hj⟩:=h f (by simp);have ih:=run_places hD l (λg hg=>h g (by simp[hg])) (w:=w);have hs:=(hD _ _ hj).run_sizeOf w;simp only[List.mapM_cons,Sem.run_bind,hs,Result.andThen_ok,Sem.run_pure,ih,List.map_cons,hj,Option.map_some,Option.getD_some]
theorem run_build(hD:zl C.P C.D){t:TypeId}{ps:Array (Nat×Operand)}(ho:o.op = .build t ps){i:TI}{fs:Xk}(hi:C.D t=some i)(hk:i.kind = .struct fs)(hfs:Jv C fs=true){w:World}{ev:Operand->Value}{cells':Array Value}
  (hf:Instr.fill (λq=>(zg C t q).map λx=>(x.1,x.2.size)) i.zero.cells (ps.toList.map λp=>(p.1,ev p.2))=some cells'):(execOp ev o).run C.P w = .ok (.value (.agg cells')) w:=by
 have hok:=hD t i hi;have hd:=hok.desc;rw[hk]at hd;obtain⟨g,h1,h2⟩:=hd;have hall:∀f∈g.toList,∃j,C.D f.type=some j/\j.kind.known=true:=by
  intro f hf;have hm:(f.offset,f.type)∈fs:=by rw[<-h2];exact List.mem_map.2 ⟨f,hf,rfl⟩
  have:=List.all_eq_true.1 hfs _ hm;simp only at this;split at this
  .rename_i j hj;exact⟨j,hj,this⟩
  .cases this
 have hpl:=run_places hD (w:=w) g.toList λf hf=>(hall f hf).imp λj h=>h.1;have hmap:(g.mapM (λ(f:Field)=>(do pure (f.offset,<-sizeOf f.type):Sem (Nat×Nat)))).run C.P w = .ok (g.toList.map λf=>(f.offset,((C.D f.type).map (·.size)).getD 0)).toArray w:=by
  rw[Array.mapM_eq_mapM_toList];simp only[Sem.run_map,hpl,Result.andThen_ok]
 have hsz:(λq=>((g.toList.map λf=>(f.offset,((C.D f.type).map (·.size)).getD 0)).toArray)[q]?)=λq=>(zg C t q).map λx=>(x.1,x.2.size):=by
  funext q;unfold zg;simp only[hi,hk,<-h2,List.getElem?_toArray,List.getElem?_map];cases hq:g.toList[q]? with
  |none=>simp
  |some f=>
   obtain⟨j,hj,hjk⟩:=hall f (List.mem_of_getElem? hq);simp[hj,hjk]
 have hparts:(ps.map λ(p:Nat×Operand)=>(p.1,ev p.2)).toList=ps.toList.map λp=>(p.1,ev p.2):=by simp
 have hfill:Instr.fill (λq=>((g.toList.map λf=>(f.offset,((C.D f.type).map (·.size)).getD 0)).toArray)[q]?) i.zero.cells (ps.map λ(p:Nat×Operand)=>(p.1,ev p.2)).toList=some cells':=by
  rw[hsz,hparts];exact hf
 have hrun:(Instr.build t (ps.map λ(p:Nat×Operand)=>(p.1,ev p.2))).run C.P w = .ok (.agg cells') w:=by
  simp only[Instr.build,Sem.run_bind,hok.run_zero w,Result.andThen_ok,run_underlying h1,hmap,hfill,Sem.run_pure]
 simp only[execOp,ho];show((do pure (.value (<-Instr.build t (ps.map λ(p:Nat×Operand)=>(p.1,ev p.2)))):Sem Next)).run C.P w=_;simp only[Sem.run_bind,hrun,Result.andThen_ok,Sem.run_pure]
theorem k9{w:World}{O:Nat->Prop}{m:jG}{ev:Operand->Value} :∀l:List Operand,(∀x∈l,relV w O m (ρ x) (ev x))->jb w O m (l.map ρ) (l.map ev)
 | [],_=>by simp[jb]
 |x::l,h=>by simp only[List.map_cons,jb];exact⟨ev x,_,rfl,h x (by simp),k9 l λy hy=>h y (by simp[hy])⟩
theorem Kk(hD:zl C.P C.D){s f off:Nat}{j:TI}(h:zg C s f=some (off,j)):∃i fs t,C.D s=some i/\i.kind = .struct fs/\fs[f]? = some (off,t)/\C.D t=some j/\j.kind.known=true/\(TK.struct fs).desc C.P s:=by
 unfold zg at h;split at h
 .rename_i i hi;split at h
  .rename_i fs hk;split at h
   .rename_i o' t hf;split at h
    .rename_i j' hj;split at h
     .rename_i hkn;cases h;have hd:=(hD _ _ hi).desc;rw[hk]at hd;exact⟨i,fs,t,hi,hk,hf,hj,hkn,hd⟩
     .cases h
    .cases h
   .cases h
  .cases h
 .cases h
theorem zn{ev:Operand->Value}{f:Operand}{xs:Array Operand}{ts:Array TypeId}(ho:o.op = .call { callee:= .value f,args:=xs,argTypes:=ts }){g:FuncId}{us:Xh}
  (hf:ev f = .func (.func g) #[] us.toArray) (he:Enters P g) (w:World):(execOp ev o).run P w = .ok (.enter g (xs.toList.map ev++us).toArray) w:=by
 have:(xs.toList.map ev++us).toArray=xs.map ev++us.toArray:=by
  apply Array.ext';simp
 rw[this];simp[execOp,ho,resolve,Deferred.ofValue,hf,invoke,he _ w]
theorem jni{w:World}{O0:Nat->Prop}{m:jG}{st:jg}(hs:Sto X w O0 m st){rds:Xm}(hg:∀r∈rds,kr st r):∀b,X.N b->Oc O0 m st rds b:=λb hb=>by
 have h0:=hs.jn b hb;refine⟨Or.inl h0,λ⟨id,o,hd,h1,h2,h3,h4⟩=>?_⟩;have:st id=o:=hg _ h1;exact(hs.blk id hd b (by rw[this];exact h2) h3 h4).2 h0
theorem jrv{w:World}{O0:Nat->Prop}{m:jG}{st:jg}(hs:Sto X w O0 m st){rds:Xm} :∀b,Oc O0 m st rds b->b<w.heap.size:=λb hb=>by
 rcases hb.1 with h|⟨id,hd,h1,h2,h3⟩
 .exact hs.old b h
 .exact (hs.blk id hd b h1 h2 h3).1
theorem jB.call{f:Operand}{xs:Array Operand}{ts:Array TypeId}(ho:o.op = .call { callee:= .value f,args:=xs,argTypes:=ts }){g:FuncId}{as:Xd}{out:Out}{rds:Xm}(hp:yd X P g as out)
  (hargs:∀(w:World)(O0:Nat->Prop)(m:jG)(st:jg)(ev:Operand->Value),Sto X w O0 m st->(∀r∈rds,kr st r)->(∀x∈o.op.operands,relV w (Ow O0 m st) m (ρ x) (ev x))->
   ∃us:Xh,ev f = .func (.func g) #[] us.toArray/\jm w (Oc O0 m st rds) as (xs.toList.map ev++us))
  {a:A} (hfin:fin (ye rds) out=some a):jB P X o ρ ⟨.d a,rds,[]⟩:=by
 intro w O0 m st ev hs hg hr _hc;obtain⟨us,h1,h2⟩:=hargs w O0 m st ev hs hg hr;rw[zn ho h1 hp.1 w];refine⟨rfl,(hp.2 w (Oc O0 m st rds) _ hs.j (jni hs hg) (jrv hs) h2).mono ?_⟩;rintro e w' ⟨v,rfl,hb,hv⟩;refine⟨v,rfl,m,Chg.below hb,hs.below hb,?_⟩;simp only[relV];unfold fin at hfin;split at hfin;rotate_left
 .cases hfin
 split at hfin
 .cases hfin
 .rename_i hc;cases hfin;cases ha:ye rds with
  |false=>
   refine jU (MonoW.sub λb hb=>?_) _ _ hv;exact⟨hb,jkt ha b⟩
  |true=>
   rw[ha]at hc;simp only[Bool.true_and,Bool.not_eq_true',Bool.not_eq_false]at hc;exact Zn _ _ (by simpa using hc) hv
theorem jbl:∀{n:Nat}{st:jg}{cs:Xj}{as:Xd}{rds:Xm},zZ st n cs=some (as,rds)->as.length=cs.length
 |_,_,[],_,_,h=>by simp only[zZ,Option.some.injEq,Prod.mk.injEq]at h;obtain⟨rfl,rfl⟩:=h;rfl
 |0,_,_::_,_,_,h=>by simp[zZ]at h
 |n+1,st,c::cs,as,rds,h=>by
  simp only[zZ]at h;split at h
  .split at h
   .rename_i h2;cases h;simp[jbl h2]
   .cases h
  .cases h
def jfS:Option IntKind->TypeDesc
 |none=>.string
 |some k=>.int k
theorem jee{P:Program}{t:Nat}{k:TK}{ks:Option IntKind}(h:jqw k=some ks)(hd:k.desc P t):P.underlying t=some (jfS ks):=by
 cases k<;>simp only[jqw,Option.some.injEq,reduceCtorEq]at h<;>subst h<;>exact hd
theorem jhE{w:World}{O:Nat->Prop}{ks:Option IntKind}{k:A}{u:Value}(h:JY ks k=true)(hr:rel w O k u):IsKey (jfS ks) u/\k = .val u:=by
 unfold JY at h;split at h
 .simp only[rel]at hr;subst hr;exact⟨trivial,rfl⟩
 .simp only[rel]at hr;subst hr;simp only[decide_eq_true_eq]at h;exact⟨h,rfl⟩
 .cases h
theorem jb2{ks:Option IntKind}{a b:Value}{r:Bool}(h:eqK ks (.val a) (.val b)=some r):Instr.sameNow (jfS ks) a b=some r/\(r=true->a=b):=by
 unfold eqK at h;split at h
 .rename_i e1 e2;cases e1;cases e2;simp only[Option.some.injEq]at h;subst h;have key:∀x y:ByteArray,(x == y)=decide (bs x=bs y):=λx y=>by
   cases hb:(x == y)with
   |true=>rw[(bytes_beq x y).1 hb];simp
   |false=>
    symm;rw[decide_eq_false_iff_not];intro e;have:=(bytes_beq x y).2 (jiZ e);rw[hb]at this;cases this
  refine⟨by simp only[Instr.sameNow,jfS,key],λh=>?_⟩;simp only[decide_eq_true_eq]at h;rw[jiZ h]
 .rename_i e1 e2;cases e1;cases e2;split at h
  .rename_i hk;subst hk;simp only[Option.some.injEq]at h;subst h;refine⟨?_,λh=>?_⟩
   .simp only[Instr.sameNow,jfS,if_true];rfl
   .simp only[decide_eq_true_eq]at h;rw[h]
  .cases h
 .cases h
theorem jkG{ks:Option IntKind}{k a:A}{r:Bool}(h:eqK ks k a=some r):(∃u,k = .val u)/\ ∃v,a = .val v:=by
 unfold eqK at h;split at h
 .exact ⟨⟨_,rfl⟩,_,rfl⟩
 .exact ⟨⟨_,rfl⟩,_,rfl⟩
 .cases h
theorem jeA{w:World}{O:Nat->Prop} :∀{xs:Xc}{es:List MapEntry},jT w O xs es-> ∀e∈es,∃x∈xs,jm w O x [e.key,e.val]
 | [],es,hr,e,he=>by simp only[jT]at hr;subst hr;cases he
 |x::xs,es,hr,e,he=>by
  simp only[jT]at hr;obtain⟨e0,p,q,rfl,h2,h3⟩:=hr;rcases List.mem_append.1 he with h|h
  .obtain ⟨y,h4,h5⟩:=jeA h3 e (List.mem_append.2 (Or.inl h));exact⟨y,List.mem_cons_of_mem _ h4,h5⟩
  .rcases List.mem_cons.1 h with rfl|h
   .exact ⟨x,List.mem_cons_self,h2⟩
   .obtain ⟨y,h4,h5⟩:=jeA h3 e (List.mem_append.2 (Or.inr h));exact⟨y,List.mem_cons_of_mem _ h4,h5⟩
theorem jgn{w:World}{O:Nat->Prop}{k v:A}{e:MapEntry}(h:jm w O [k,v] [e.key,e.val]):rel w O k e.key/\rel w O v e.val:=by
 simp only[jm]at h;obtain⟨k1,r1,e1,g1,v1,r2,e2,g2,e3⟩:=h;cases e1;cases e2;exact⟨g1,g2⟩
theorem jkV{w:World}{O:Nat->Prop}{k v:A}{e:MapEntry}(h1:rel w O k e.key)(h2:rel w O v e.val):jm w O [k,v] [e.key,e.val]:=by
 simp only[jm];exact⟨_,_,rfl,h1,_,_,rfl,h2,rfl⟩
theorem jcC{w:World}{O:Nat->Prop}{ks:Option IntKind}{u:Value} :∀{xs:Xc}{es:List MapEntry}{i:Nat},jT w O xs es->Yi ks (.val u) xs i=some none-> ∀e∈es,eqK ks (.val u) (.val e.key)=some false
 | [],es,i,hr,h,e,he=>by simp only[jT]at hr;subst hr;cases he
 |x::xs,es,i,hr,h,e,he=>by
  simp only[jT]at hr;obtain⟨e0,p,q,rfl,h2,h3⟩:=hr;unfold Yi at h;split at h
  .rename_i e1;cases e1
  .rename_i k' v xs0 _ e1;cases e1;obtain⟨g1,g2⟩:=jgn h2;split at h
   .cases h
   .rename_i hq;obtain⟨_,kv,rfl⟩:=jkG hq;simp only[rel]at g1;have ih:=jcC h3 h;rcases List.mem_append.1 he with h4|h4
    .exact ih e (List.mem_append.2 (Or.inl h4))
    .rcases List.mem_cons.1 h4 with rfl|h4
     .rw [g1];exact hq
     .exact ih e (List.mem_append.2 (Or.inr h4))
   .cases h
  .cases h
theorem jcD{w:World}{O:Nat->Prop}{ks:Option IntKind}{u:Value} :∀{xs:Xc}{es:List MapEntry}{i j:Nat}{a:A},jT w O xs es->Yi ks (.val u) xs i=some (some (j,a))->
  ∃n p e q,j=i+n/\es=p++e::q/\eqK ks (.val u) (.val e.key)=some true/\rel w O a e.val/\ ∀w' O',MonoW w O w' O'-> ∀(e':MapEntry)(k' v':A),rel w' O' k' e'.key->rel w' O' v' e'.val->jT w' O' (xs.set n [k',v']) (p++e'::q)
 | [],es,i,j,a,hr,h=>by simp[Yi]at h
 |x::xs,es,i,j,a,hr,h=>by
  simp only[jT]at hr;obtain⟨e0,p,q,rfl,h2,h3⟩:=hr;unfold Yi at h;split at h
  .rename_i e1;cases e1
  .rename_i k' v xs0 _ e1;cases e1;obtain⟨g1,g2⟩:=jgn h2;split at h
   .rename_i hq;obtain⟨_,kv,rfl⟩:=jkG hq;simp only[rel]at g1;simp only[Option.some.injEq,Prod.mk.injEq]at h;obtain⟨rfl,rfl⟩:=h;refine⟨0,p,e0,q,rfl,rfl,by rw[g1];exact hq,g2,λw' O' hmo e' k' v' r1 r2=>?_⟩;simp only[List.set_cons_zero,jT];exact⟨e',p,q,rfl,jkV r1 r2,zt hmo _ _ h3⟩
   .rename_i hq;obtain⟨n,p1,e1,q1,rfl,h5,h6,h7,h8⟩:=jcD h3 h;have hsp:∃p2 q2,p++e0::q=p2++e1::q2/\ ∀e':MapEntry,∃p3 q3,p2++e'::q2=p3++e0::q3/\p3++q3=p1++e'::q1:=by
     rcases List.append_eq_append_iff.1 h5 with⟨a',rfl,ha⟩|⟨c',rfl,hc⟩
     .exact ⟨p++e0::a',q1,by rw[ha];simp,λe'=>⟨p,a'++e'::q1,by simp,by simp⟩⟩
     .cases c' with
      |nil=>
       rw[List.nil_append]at hc;exact⟨p1++[e0],q1,by rw[<-hc];simp,λe'=>⟨p1,e'::q1,by simp,by simp⟩⟩
      |cons c0 c'=>
       simp only[List.cons_append,List.cons.injEq]at hc;obtain⟨rfl,hc⟩:=hc;exact⟨p1,c'++e0::q,by simp,λe'=>⟨p1++e'::c',q,by simp,by rw[hc];simp⟩⟩
    obtain⟨p2,q2,h9,h10⟩:=hsp;refine⟨n+1,p2,e1,q2,by omega,h9,h6,h7,λw' O' hmo e' k' v' r1 r2=>?_⟩;obtain⟨p3,q3,h11,h12⟩:=h10 e';simp only[List.set_cons_succ,jT];exact⟨e0,p3,q3,h11,jF hmo _ _ h2,by rw[h12];exact h8 w' O' hmo e' k' v' r1 r2⟩
   .cases h
  .cases h
theorem jlO{ks:Option IntKind}{u k:Value}(h:JY ks (.val u)=true)(hk:y0 k=some ks):∃r,eqK ks (.val u) (.val k)=some r:=by
 unfold JY at h;split at h
 .rename_i e1;cases e1;unfold y0 at hk;split at hk
  .exact ⟨_,rfl⟩
  .cases hk
  .cases hk
 .rename_i k1 e1;cases e1;simp only[decide_eq_true_eq]at h;subst h;unfold y0 at hk;split at hk
  .cases hk
  .simp only[Option.some.injEq]at hk;subst hk;simp only[eqK,if_true];exact⟨_,rfl⟩
  .cases hk
 .cases h
theorem jb3{ks:Option IntKind}{u k:Value}{r:Bool}(h:JY ks (.val u)=true)(hk:eqK ks (.val u) (.val k)=some r):y0 k=some ks/\y0 u=some ks:=by
 unfold eqK at hk;split at hk
 .rename_i e1 e2;cases e1;cases e2;exact⟨rfl,rfl⟩
 .rename_i e1 e2;cases e1;cases e2;split at hk
  .rename_i e3;subst e3;simp only[JY,decide_eq_true_eq]at h;subst h;exact⟨rfl,rfl⟩
  .cases hk
 .cases hk
theorem jhc{ks:Option IntKind}{u:Value}(h:JY ks (.val u)=true):eqK ks (.val u) (.val u)=some true:=by
 unfold JY at h;split at h
 .rename_i e1;cases e1;simp[eqK]
 .rename_i e1;cases e1;simp only[decide_eq_true_eq]at h;subst h;simp[eqK]
 .cases h
theorem jjm{ks:Option IntKind}{u:Value}(h:JY ks (.val u)=true):y0 u=some ks:=(jb3 h (jhc h)).1
theorem Qc{kd:TypeDesc}{u:Value} :∀{es:List MapEntry}{i:Nat},(∀e∈es,Instr.sameNow kd u e.key=some false)->Instr.findNow kd u es i=some none
 | [],_,_=>rfl
 |e::es,i,h=>by
  simp only[Instr.findNow,h e List.mem_cons_self];exact Qc λx hx=>h x (List.mem_cons_of_mem _ hx)
theorem Yb{kd:TypeDesc}{u:Value}{e:MapEntry}{q:List MapEntry}(he:Instr.sameNow kd u e.key=some true):∀{p:List MapEntry}{i:Nat},(∀e∈p,Instr.sameNow kd u e.key=some false)->Instr.findNow kd u (p++e::q) i=some (some (i+p.length,e.val))
 | [],i,_=>by simp[Instr.findNow,he]
 |x::p,i,h=>by
  simp only[List.cons_append,Instr.findNow,h x List.mem_cons_self,List.length_cons];rw[Yb he λy hy=>h y (List.mem_cons_of_mem _ hy)];congr 3;omega
theorem jhT{w:World}{O:Nat->Prop}{ks:Option IntKind}{u:Value}{xs:Xc}{es:List MapEntry}{clock i:Nat}{r:Option (Nat×A)}(hok:JY ks (.val u)=true)(hm:MapFine es clock)(hr:jT w O xs es)(h:Yi ks (.val u) xs i=some r) :
  (r=none/\Instr.findNow (jfS ks) u es i=some none/\(∀e∈es,y0 e.key=some ks)/\u ∉ es.map (·.key))\/
  ∃n a p e q,r=some (i+n,a)/\Instr.findNow (jfS ks) u es i=some (some (i+p.length,e.val))/\es=p++e::q/\e.key=u/\rel w O a e.val/\ ∀w' O',MonoW w O w' O'-> ∀(e':MapEntry)(k' v':A),rel w' O' k' e'.key->rel w' O' v' e'.val->jT w' O' (xs.set n [k',v']) (p++e'::q):=by
 cases r with
 |none=>
  have h1:=jcC hr h;refine Or.inl ⟨rfl,Qc λe he=>(jb2 (h1 e he)).1,λe he=>(jb3 hok (h1 e he)).1,λhu=>?_⟩;obtain⟨e,he,hk⟩:=List.mem_map.1 hu;have:=h1 e he;simp only[hk]at this;rw[jhc hok]at this;cases this
 |some ja=>
  obtain⟨j,a⟩:=ja;obtain⟨n,p,e,q,rfl,rfl,h2,h3,h4⟩:=jcD hr h;obtain⟨h5,h6⟩:=jb2 h2;have h6:=h6 rfl;refine Or.inr ⟨n,a,p,e,q,rfl,Yb h5 λx hx=>?_,rfl,h6.symm,h3,h4⟩;obtain⟨ks',hs⟩:=hm.sort;have hks:ks'=ks:=by
   have h7:=hs e (by simp);rw[(jb3 hok h2).1]at h7;exact(Option.some.inj h7).symm
  subst hks;obtain⟨r,hr'⟩:=jlO hok (hs x (by simp[hx]));obtain⟨h8,h9⟩:=jb2 hr';cases r with
  |false=>exact h8
  |true=>
   have hn:=hm.keys;rw[List.map_append,List.map_cons]at hn;have:=(List.nodup_append.1 hn).2.2 x.key (List.mem_map.2 ⟨x,hx,rfl⟩) e.key List.mem_cons_self;exact absurd ((h9 rfl).symm.trans h6) this
def jru(w:World)(O:Nat->Prop)(xs:Xc)(u:Value):Prop:=(xs=[]/\u = .map none)\/ ∃b es clock,u = .map (some b)/\w.heap[b]? = some (.map es clock)/\MapFine es.toList clock/\jT w O xs es.toList
theorem jk3{w:World}{O:Nat->Prop}{a:A}{xs:Xc}{u:Value}(h:jju a=some xs)(hr:rel w O a u):jru w O xs u:=by
 unfold jju at h;split at h
 .cases h;simp only[rel]at hr;rcases hr with hr|⟨b,es,c,h1,_,_,h2,h3⟩
  .exact Or.inl hr
  .exact Or.inr ⟨b,es,c,h1,h2,h3⟩
 .cases h;simp only[rel]at hr;exact Or.inl ⟨rfl,hr⟩
 .cases h
theorem jtB{C:Cfg}{w:World}{O:Nat->Prop}{t:Nat}{i:TI}(hi:TI.ok C.P t i)(hk:zOk i=true){z:Xd}(h:K1 (zeroV C t i)=some z):rel w O (zA i.kind.plain z) i.zero:=by
 have hz:=zR (w:=w) (O:=O) (m:=λ_=>none) h (kQ t i);unfold zA;unfold zOk at hk;cases hp:i.kind.plain with
 |true=>
  simp only[if_true];have h1:=hi.one hp;have h2:=hi.zsize;have hl:=jy hz;rw[Array.length_toList,h2,h1]at hl
  match z,hz,hl with
  | [a],hz,_=>
   simp only[jm]at hz;obtain⟨v,r,e,g,e0⟩:=hz;subst e0;simp only[List.headD];have:i.zero.cells = #[v]:=by apply Array.ext';simpa using e
   have hz0:i.zero=v:=by
    cases hi0:i.zero with
    |agg cs=>rw[hi0,hp]at hk;cases hk
    |_=>rw[hi0]at this;simpa[Value.cells]using this
   rw[hz0];exact g
 |false=>
  simp only[Bool.false_eq_true,if_false];rw[hp]at hk;split at hk
  .rename_i cs e;rw[e]at hz⊢;simp only[rel];exact⟨cs.toList,rfl,hz⟩
  .cases hk
theorem jir{C:Cfg}{w:World}{O:Nat->Prop}{ev:Operand->Value}{t kt et:TypeId}{x k:Operand}{c:Bool}{o:Oper}(ho:o.op = .lookup t x k c)(ht:C.P.underlying t=some (.map kt et)){ks:Option IntKind}(hkt:C.P.underlying kt=some (jfS ks)){ei:TI}(he:TI.ok C.P et ei)
  (hkn:zOk ei=true) {z:Xd} (hz:K1 (zeroV C et ei)=some z) {xs:Xc} (hm:jru w O xs (ev x)) {ka:A} (hka:rel w O ka (ev k)) (hok:JY ks ka=true) {r:Option (Nat×A)} (hf:Yi ks ka xs 0=some r) :
  ∃u,(execOp ev o).run C.P w = .ok (.value u) w/\rel w O (jr3 c ei.kind.plain z r) u:=by
 obtain⟨hik,rfl⟩:=jhE hok hka;have hzr:=jtB (w:=w) (O:=O) he hkn hz;have fin:∀(es:Array MapEntry)(clock:Nat),MapFine es.toList clock->jT w O xs es.toList->(r=none/\(Instr.findKey kt (ev k) es.toList).run C.P w = .ok none w)\/ ∃n a m u,r=some (n,a)/\rel w O a u/\(Instr.findKey kt (ev k) es.toList).run C.P w = .ok (some (m,u)) w:=by
  intro es clock hmf hes;rcases jhT hok hmf hes hf with⟨h1,h2,_⟩|⟨n,a,p,e,q,h1,h2,_,_,h5,_⟩
  .exact Or.inl ⟨h1,run_findKey hkt h2⟩
  .exact Or.inr ⟨_,_,_,_,h1,h5,run_findKey hkt h2⟩
 have last:∀(v:A)(b:Bool)(u:Value),rel w O v u->rel w O (jk1 c v b) (if c then .tuple #[u,.bool b]else u):=by
  intro v b u hr;unfold jk1;cases c with
  |false=>exact hr
  |true=>
   simp only[if_true,rel];exact⟨[u,.bool b],rfl,by simp only[jm];exact⟨_,_,rfl,hr,_,_,rfl,rfl,rfl⟩⟩
 have done:∀v,(Instr.lookup t (ev x) (ev k) c).run C.P w = .ok v w->(execOp ev o).run C.P w = .ok (.value v) w:=by
  intro v hrun;simp only[execOp,ho];show((do pure (.value (<-Instr.lookup t (ev x) (ev k) c)):Sem Next)).run C.P w=_;simp only[Sem.run_bind,hrun,Result.andThen_ok,Sem.run_pure]
 rcases hm with⟨rfl,hx⟩|⟨b,es,clock,hx,hb,hmf,hes⟩
 .rcases fin #[] 0 (MapFine.nil 0) (by simp[jT])with⟨rfl,h2⟩|⟨n,a,m,u,rfl,h1,h2⟩
  .refine ⟨_,done _ ?_,last _ _ _ hzr⟩;unfold Instr.lookup;rw[hx];simp only[Sem.run_bind,run_underlying ht,Result.andThen_ok,Sem.run_pure,run_checkKey hkt hik,h2,he.run_zero w]
  .refine ⟨_,done _ ?_,last _ _ _ h1⟩;unfold Instr.lookup;rw[hx];simp only[Sem.run_bind,run_underlying ht,Result.andThen_ok,Sem.run_pure,run_checkKey hkt hik,h2]
 .rcases fin es clock hmf hes with⟨rfl,h2⟩|⟨n,a,m,u,rfl,h1,h2⟩
  .refine ⟨_,done _ ?_,last _ _ _ hzr⟩;unfold Instr.lookup;rw[hx];simp only[Sem.run_bind,run_underlying ht,Result.andThen_ok,Sem.run_pure,MapKept.run_getObj_map hb,run_checkKey hkt hik,h2,he.run_zero w]
  .refine ⟨_,done _ ?_,last _ _ _ h1⟩;unfold Instr.lookup;rw[hx];simp only[Sem.run_bind,run_underlying ht,Result.andThen_ok,Sem.run_pure,MapKept.run_getObj_map hb,run_checkKey hkt hik,h2]
theorem jow{X:Ctx}{w:World}{O0:Nat->Prop}{m:jG}{st:jg}(hs:Sto X w O0 m st){id:Nat}{xs:Xc}(hf:st id = .map xs){u:Value}(hr:relV w (Ow O0 m st) m (.row id) u) :
  ∃b es clock,m id=some (.mp b)/\u = .map (some b)/\w.heap[b]? = some (.map es clock)/\MapFine es.toList clock/\jT w (Ow O0 m st) xs es.toList:=by
 simp only[relV]at hr;obtain⟨hd,h1,h2⟩:=hr;have ho:=hs.obj id;rw[hf]at ho;obtain⟨hd',g1,g2⟩:=ho;rw[h1]at g1;cases g1;cases hd with
 |mp b=>
  obtain⟨es,c,g3,g5,g4⟩:=g2;simp only[hdr]at h2;exact⟨b,es,c,h1,h2,g3,g5,g4⟩
 |_=>exact g2.elim
def yn(P:Program)(X:Ctx)(C:Cfg)(M:Node->Xe)(o:Oper)(ρ:Operand->V)(st:jg):DR->Prop
 |.no=>True
 |.val v rds=>jB P X o ρ ⟨v,rds,[]⟩/\ ∀r∈rds,kr st r
 |.opt x rds=>∀a,x.run C M=some a->jB P X o ρ ⟨.d a,rds,[]⟩/\ ∀r∈rds,kr st r
theorem yn.opt1{M:Node->Xe}{st:jg}{y:Xl}(h:∀a,y=some a->jB P X o ρ ⟨.d a,[],[]⟩):yn P X C M o ρ st (.opt (.opt y) []):=
 λa ha=>⟨h a ha,by simp⟩
end
end
end Go.Proofs.YteoaojbmnibpcaaGreatDoor.Abs
