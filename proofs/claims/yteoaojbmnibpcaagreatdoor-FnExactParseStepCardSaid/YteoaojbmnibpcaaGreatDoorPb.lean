/- Pb -/
import Derived.Test.YteoaojbmnibpcaaGreatDoorPa
import Derived.Lib.SplitLaws
namespace Go.Proofs.YteoaojbmnibpcaaGreatDoor
open Go Go.RowKit Go.Proofs.YteoaojbmnibpcaaGreatDoor.Abs
set_option linter.unusedSimpArgs false
set_option linter.unusedVariables false
def jH(c:UInt8):Bool:=kV c || (upc c || decide ((c.toNat:Int)=95))
mutual
def rdT:Nat->Xb->Option (T×Xb)
 |0,_=>none
 |n+1,s=>if s.takeWhile jH=[]then none else
  match s.dropWhile jH with
  | []=>some (.mk (s.takeWhile jH) [],[])
  |c::q=>if c=40 then(rdA n q).map λp=>(.mk (s.takeWhile jH) p.1,p.2)else some (.mk (s.takeWhile jH) [],c::q)
def rdA:Nat->Xb->Option (Xg×Xb)
 |0,_=>none
 |n+1,s=>match rdT n s with
  |none=>none
  |some (_,[])=>none
  |some (u,c::q)=>if c=44 then(rdA n q).map λp=>(u::p.1,p.2)else if c=41 then some ([u],q)else none
end
theorem Zt(s:Xb):s.takeWhile jH++s.dropWhile jH=s:=List.takeWhile_append_dropWhile
theorem jrm{s:Xb} :¬s.takeWhile jH=[61]:=λe=>by
 have h:(61:UInt8)∈s.takeWhile jH:=by rw[e];simp
 have:=List.all_eq_true.1 (List.all_takeWhile (l:=s) (p:=jH)) _ h;revert this;decide
theorem yM{n:Xb}{us:Xg}(h:¬n=[61]):jq (.mk n us)=if us=[]then n else n++[40]++Lib.join (us.map jq) [44]++[41]:=by
 rw[ZE];unfold cmb;show(if n=[61]then _ else _)=_;rw[if_neg h];show(if us.map jq=[]then _ else _)=_;cases us with
 |nil=>rfl
 |cons u r=>rw[if_neg (by simp),if_neg (by simp)];rfl
theorem QB:∀n,(∀s t r,rdT n s=some (t,r)->s=jq t++r/\tsz t+r.length<=s.length/\r.length<s.length)/\(∀s us r,rdA n s=some (us,r)->us≠ []/\s=Lib.join (us.map jq) [44]++[41]++r/\us.length+ya us+r.length<=s.length)
 |0=>⟨λs t r h=>(by rw[rdT]at h;cases h),λs t r h=>(by rw[rdA]at h;cases h)⟩
 |n+1=>by
  obtain⟨ih1,ih2⟩:=QB n;refine⟨λs t r h=>?_,λs us r h=>?_⟩
  .rw [rdT]at h;have e:=Zt s;have h61:=jrm (s:=s);generalize s.takeWhile jH=w at *;generalize s.dropWhile jH=d at *;have el:s.length=w.length+d.length:=by rw[<-e,List.length_append]
   split at h
   .cases h
   rename_i hw;have hwl:0<w.length:=by cases w with|nil=>exact absurd rfl hw|cons=>simp
   cases d with
   |nil=>
    cases h;rw[yM h61,if_pos rfl,jar];refine⟨e.symm,?_,?_⟩<;>simp only[List.length_nil,ya]at * <;>omega
   |cons c q=>
    simp only at h;split at h
    .rename_i hc;obtain⟨p,h1,h2⟩:=Option.map_eq_some_iff.1 h;cases h2;obtain⟨k1,k2,k3⟩:=ih2 q p.1 p.2 h1;rw[yM h61,if_neg k1,jar];simp only[List.length_cons]at el;refine⟨?_,by omega,by omega⟩;rw[<-e,hc,k2];simp only[List.append_assoc,List.cons_append,List.nil_append]
    .cases h;rw[yM h61,if_pos rfl,jar];refine⟨e.symm,?_,?_⟩<;>simp only[List.length_nil,List.length_cons,ya]at * <;>omega
  .rw [rdA]at h;cases h1:rdT n s with
   |none=>rw[h1]at h;cases h
   |some p=>
    obtain⟨u,d⟩:=p;rw[h1]at h;obtain⟨k1,k2,k3⟩:=ih1 s u d h1;cases d with
    |nil=>cases h
    |cons c q=>
     simp only at h;simp only[List.length_cons]at k2 k3;split at h
     .rename_i hc;obtain⟨p,h2,h3⟩:=Option.map_eq_some_iff.1 h;cases h3;obtain⟨us,r⟩:=p;obtain⟨j1,j2,j3⟩:=ih2 q us r h2;refine⟨List.cons_ne_nil _ _,?_,?_⟩
      .cases us with
       |nil=>exact absurd rfl j1
       |cons v vs=>
        rw[k1,hc,j2];simp only[List.map_cons,Lib.join_cons,Lib.joinTail,List.flatten_cons,List.append_assoc,List.cons_append,List.nil_append]
      .simp only[List.length_cons,ya];omega
     .split at h
      .rename_i hc;cases h;refine⟨List.cons_ne_nil _ _,?_,?_⟩
       .rw [k1,hc,List.map_cons,List.map_nil,Lib.join_one];simp
       .simp only[List.length_cons,List.length_nil,ya];omega
      .cases h
def jlt:Xb->Prop
 | []=>True
 |c::_=>jH c=false/\ ¬c=40
theorem jlx{w r:Xb}(hw:∀c∈w,jH c=true)(hr:r=[]\/ ∃c q,r=c::q/\jH c=false):(w++r).takeWhile jH=w/\(w++r).dropWhile jH=r:=by
 have h1:r.takeWhile jH=[]/\r.dropWhile jH=r:=by
  rcases hr with rfl|⟨c,q,rfl,hc⟩
  .exact ⟨rfl,rfl⟩
  .exact ⟨by rw[List.takeWhile_cons_of_neg (by rw[hc];decide)],by rw[List.dropWhile_cons_of_neg (by rw[hc];decide)]⟩
 exact⟨by rw[List.takeWhile_append_of_pos hw,h1.1,List.append_nil],by rw[List.dropWhile_append_of_pos hw,h1.2]⟩
theorem jde{c:UInt8}(h:kV c=true):jH c=true:=by unfold jH;rw[h];rfl
theorem jpu{c:UInt8}(h:jdn c=true):jH c=true:=by
 unfold jdn at h;unfold jH;rw[Bool.or_eq_true]at h;rcases h with h|h
 .rw [h];rfl
 .rw [h,Bool.or_true,Bool.or_true]
theorem jgb{t:T}(h:yb t=true):t.name≠ []/\(∀c∈t.name,jH c=true)/\t.name.length<=6:=by
 rw[yP]at h;cases hv:jI t.name with
 |true=>
  generalize t.name=n at *;cases n with
  |nil=>cases hv
  |cons c r=>
   unfold jI at hv;rw[Bool.and_eq_true,Bool.and_eq_true,decide_eq_true_eq]at hv;refine⟨List.cons_ne_nil _ _,λx hx=>?_,by have:=hv.2.2;simp only[List.length_cons];omega⟩;rcases List.mem_cons.1 hx with rfl|hx
   .unfold jH;rw[hv.1];simp
   .exact jde (List.all_eq_true.1 hv.2.1 x hx)
 |false=>
  rw[hv,if_neg Bool.false_ne_true,Bool.and_eq_true]at h;have hs:=h.1;generalize t.name=n at *;cases n with
  |nil=>cases hs
  |cons c r=>
   unfold yX at hs;rw[Bool.and_eq_true,Bool.and_eq_true,Bool.and_eq_true,decide_eq_true_eq]at hs;refine⟨List.cons_ne_nil _ _,λx hx=>?_,by have:=hs.2.2.1;simp only[List.length_cons];omega⟩;rcases List.mem_cons.1 hx with rfl|hx
   .exact jde (by unfold kV;rw[hs.1];rfl)
   .exact jpu (List.all_eq_true.1 hs.2.1 x hx)
theorem joJ{t:T}(h:yb t=true):¬t.name=[61]:=λe=>by
 have:=(jgb h).2.1 61 (by rw[e];simp)
 revert this;decide
theorem jk6{n:Xb}{us:Xg}(h:yb (.mk n us)=true):n≠ []/\(∀c∈n,jH c=true)/\ ¬n=[61]/\ ∀u∈us,yb u=true:=by
 obtain⟨h1,h2,_⟩:=jgb h;exact⟨h1,h2,joJ h,λu hu=>qe h u hu⟩
theorem jle:∀n,(∀t r,yb t=true->jlt r->2*(jq t++r).length+1<=n->rdT n (jq t++r)=some (t,r))/\
  (∀us r,us≠ []->(∀u∈us,yb u=true)->2*(Lib.join (us.map jq) [44]++[41]++r).length+2<=n->rdA n (Lib.join (us.map jq) [44]++[41]++r)=some (us,r))
 |0=>⟨λt r _ _ h=>by omega,λus r _ _ h=>by omega⟩
 |n+1=>by
  obtain⟨ih1,ih2⟩:=jle n;refine⟨λt r hk hr hn=>?_,λus r hu hk hn=>?_⟩
  .obtain ⟨w,us⟩:=t;obtain⟨k1,k2,k3,k4⟩:=jk6 hk;rw[yM k3]at hn⊢;rw[rdT];cases us with
   |nil=>
    rw[if_pos rfl]at hn⊢;obtain⟨e1,e2⟩:=jlx k2 (r:=r) (by cases r with|nil=>exact Or.inl rfl|cons c q=>exact Or.inr ⟨c,q,rfl,hr.1⟩);rw[e1,e2,if_neg k1];cases r with
    |nil=>rfl
    |cons c q=>simp only;rw[if_neg hr.2]
   |cons u us=>
    have hc:¬(u::us=[]):=List.cons_ne_nil _ _;rw[if_neg hc]at hn⊢;have es:w++[40]++Lib.join ((u::us).map jq) [44]++[41]++r=w++(40::(Lib.join ((u::us).map jq) [44]++[41]++r)):=by simp only[List.append_assoc,List.cons_append,List.nil_append]
    obtain⟨e1,e2⟩:=jlx k2 (r:=40::(Lib.join ((u::us).map jq) [44]++[41]++r)) (Or.inr ⟨40,_,rfl,by decide⟩);have hl:0<w.length:=by cases w with|nil=>exact absurd rfl k1|cons=>simp
    rw[es]at hn⊢;rw[List.length_append,List.length_cons]at hn;rw[e1,e2,if_neg k1];simp only;rw[if_pos trivial,ih2 (u::us) r (by simp) k4 (by omega)];rfl
  .cases us with
   |nil=>exact absurd rfl hu
   |cons u us=>
    rw[rdA];cases us with
    |nil=>
     have es:Lib.join ([u].map jq) [44]++[41]++r=jq u++41::r:=by rw[List.map_cons,List.map_nil,Lib.join_one];simp
     rw[es]at hn⊢;rw[ih1 u (41::r) (hk u (by simp)) ⟨by decide,by decide⟩ (by omega)];simp only;rw[if_neg (by decide),if_pos trivial]
    |cons v vs=>
     have es:Lib.join ((u::v::vs).map jq) [44]++[41]++r=jq u++44::(Lib.join ((v::vs).map jq) [44]++[41]++r):=by
      simp only[List.map_cons,Lib.join_cons,Lib.joinTail,List.flatten_cons,List.append_assoc,List.cons_append,List.nil_append]
     rw[es]at hn⊢;rw[ih1 u (44::(Lib.join ((v::vs).map jq) [44]++[41]++r)) (hk u (by simp)) ⟨by decide,by decide⟩ (by omega)];simp only;rw[List.length_append,List.length_cons]at hn;rw[if_pos trivial,ih2 (v::vs) r (by simp) (λx hx=>hk x (by simp[hx])) (by omega)];rfl
theorem jgl:∀n,(∀s,2*s.length+1<=n->rdT (n+1) s=rdT n s)/\(∀s,2*s.length+2<=n->rdA (n+1) s=rdA n s)
 |0=>⟨λs h=>by omega,λs h=>by omega⟩
 |n+1=>by
  obtain⟨ih1,ih2⟩:=jgl n;refine⟨λs h=>?_,λs h=>?_⟩
  .rw [rdT,rdT];have e:=Zt s;generalize s.takeWhile jH=w at *;generalize s.dropWhile jH=d at *;have el:s.length=w.length+d.length:=by rw[<-e,List.length_append]
   by_cases hw:w=[]
   .rw [if_pos hw,if_pos hw]
   .have hl:0<w.length:=by cases w with|nil=>exact absurd rfl hw|cons=>simp
    rw[if_neg hw,if_neg hw];cases d with
    |nil=>rfl
    |cons c q=>
     simp only[List.length_cons]at el⊢;rw[ih2 q (by omega)]
  .rw [rdA,rdA,ih1 s (by omega)];cases h1:rdT n s with
   |none=>rfl
   |some p=>
    obtain⟨u,d⟩:=p;have:=((QB n).1 s u d h1).2.2;cases d with
    |nil=>rfl
    |cons c q=>
     simp only[List.length_cons]at this⊢;rw[ih2 q (by omega)]
def rd(s:Xb):Option (T×Xb):=rdT (2*s.length+1) s
def ra(s:Xb):Option (Xg×Xb):=rdA (2*s.length+2) s
theorem juQ{n:Nat}{s:Xb}(h:2*s.length+1<=n):rdT n s=rd s:=by
 induction n with
 |zero=>omega
 |succ n ih=>
  by_cases e:n+1=2*s.length+1
  .rw [e];rfl
  .rw [(jgl n).1 s (by omega),ih (by omega)]
theorem jsb{n:Nat}{s:Xb}(h:2*s.length+2<=n):rdA n s=ra s:=by
 induction n with
 |zero=>omega
 |succ n ih=>
  by_cases e:n+1=2*s.length+2
  .rw [e];rfl
  .rw [(jgl n).2 s (by omega),ih (by omega)]
theorem jse(s:Xb):rd s=if s.takeWhile jH=[]then none else
  match s.dropWhile jH with
  | []=>some (.mk (s.takeWhile jH) [],[])
  |c::q=>if c=40 then(ra q).map λp=>(.mk (s.takeWhile jH) p.1,p.2)else some (.mk (s.takeWhile jH) [],c::q):=by
 unfold rd;rw[rdT];have e:=Zt s;generalize s.takeWhile jH=w at *;generalize s.dropWhile jH=d at *;have el:s.length=w.length+d.length:=by rw[<-e,List.length_append]
 by_cases hw:w=[]
 .rw [if_pos hw,if_pos hw]
 .have hl:0<w.length:=by cases w with|nil=>exact absurd rfl hw|cons=>simp
  rw[if_neg hw,if_neg hw];cases d with
  |nil=>rfl
  |cons c q=>
   simp only[List.length_cons]at el⊢;rw[jsb (n:=2*s.length) (by omega)]
theorem jsc(s:Xb):ra s=match rd s with
  |none=>none
  |some (_,[])=>none
  |some (u,c::q)=>if c=44 then(ra q).map λp=>(u::p.1,p.2)else if c=41 then some ([u],q)else none:=by
 unfold ra;rw[rdA,juQ (Nat.le_refl _)];cases h1:rd s with
 |none=>rfl
 |some p=>
  obtain⟨u,d⟩:=p;have:=((QB _).1 s u d h1).2.2;cases d with
  |nil=>rfl
  |cons c q=>
   simp only[List.length_cons]at this⊢;rw[jsb (n:=2*s.length+1) (by omega)];rfl
theorem Zl{s:Xb}{t:T}{r:Xb}(h:rd s=some (t,r)):s=jq t++r/\tsz t+r.length<=s.length/\r.length<s.length:=(QB _).1 s t r h
theorem jcX{t:T}{r:Xb}(h:yb t=true)(hr:jlt r):rd (jq t++r)=some (t,r):=(jle _).1 t r h hr (Nat.le_refl _)
theorem qZ:∀{s sub:Xb}{i:Nat},Lib.index s sub=i-> ∃x y,s=x++sub++y/\x.length=i
 | [],sub,i,h=>by
  unfold Lib.index at h;cases sub with
  |nil=>exact⟨[],[],rfl,by have h:(0:Int)=i:=h;simp only[List.length_nil];omega⟩
  |cons a t=>simp at h
 |b::l,sub,i,h=>by
  unfold Lib.index at h;split at h
  .rename_i hp;obtain⟨y,hy⟩:=List.isPrefixOf_iff_prefix.1 hp;exact⟨[],y,by rw[List.nil_append,hy],by simp;omega⟩
  .split at h
   .omega
   .have:=Lib.index_ge l sub;obtain⟨x,y,e,el⟩:=qZ (s:=l) (sub:=sub) (i:=i-1) (by rename_i hne;rw[beq_iff_eq]at hne;omega);rename_i hne;rw[beq_iff_eq]at hne;exact⟨b::x,y,by rw[e];rfl,by simp only[List.length_cons];omega⟩
theorem jd5{x y sub:Xb}{c:UInt8}{t:Xb}(hs:sub=c::t)(hx:¬c∈x):Lib.index (x++sub++y) sub=x.length:=by
 refine Lib.index_first (by simp) ?_ λj hj=>?_
 .unfold Lib.occAt;rw[List.append_assoc,List.drop_left];exact List.isPrefixOf_iff_prefix.2 ⟨y,rfl⟩
 .cases h:Lib.occAt (x++sub++y) sub j with
  |false=>rfl
  |true=>
   have:=Lib.occAt_head hs h;rw[List.append_assoc,List.getElem?_append_left hj]at this;exact absurd (List.mem_of_getElem? this) hx
theorem jd6{s sub:Xb}{c:UInt8}(hc:c∈sub)(hs:¬c∈s):Lib.index s sub = -1:=by
 refine Lib.index_none λj _=>?_;cases h:Lib.occAt s sub j with
 |false=>rfl
 |true=>
  unfold Lib.occAt at h;obtain⟨y,hy⟩:=List.isPrefixOf_iff_prefix.1 h;exact absurd (List.mem_of_mem_drop (by rw[<-hy];exact List.mem_append_left _ hc)) hs
def ptc(c:UInt8):Bool:=jH c || (c == 40 || (c == 41 || c == 44))
theorem K9{xs:Xa}{sep:Xb}{c:UInt8}(h:c∈Lib.join xs sep):c∈sep\/ ∃x∈xs,c∈x:=by
 cases xs with
 |nil=>rw[Lib.join_nil]at h;cases h
 |cons x r=>
  rw[Lib.join_cons,List.mem_append]at h;rcases h with h|h
  .exact Or.inr ⟨x,by simp,h⟩
  .unfold Lib.joinTail at h;rw[List.mem_flatten]at h;obtain⟨z,hz,hc⟩:=h;obtain⟨u,hu,rfl⟩:=List.mem_map.1 hz;rcases List.mem_append.1 hc with hc|hc
   .exact Or.inl hc
   .exact Or.inr ⟨u,List.mem_cons_of_mem _ hu,hc⟩
theorem jfI:∀t:T,yb t=true-> ∀c∈jq t,ptc c=true:=by
 refine T.ind λt ih hk c hc=>?_;obtain⟨w,us⟩:=t;obtain⟨k1,k2,k3,k4⟩:=jk6 hk;have hw:∀c∈w,ptc c=true:=λc hc=>by unfold ptc;rw[k2 c hc];rfl
 rw[yM k3]at hc;split at hc
 .exact hw c hc
 .rw [List.mem_append,List.mem_append,List.mem_append]at hc;rcases hc with((hc|hc)|hc)|hc
  .exact hw c hc
  .rw [List.mem_singleton.1 hc];rfl
  .rcases K9 hc with hc|⟨x,hx,hc⟩
   .rw [List.mem_singleton.1 hc];rfl
   .obtain ⟨u,hu,rfl⟩:=List.mem_map.1 hx;exact ih u hu (k4 u hu) c hc
  .rw [List.mem_singleton.1 hc];rfl
theorem yY{t:T}(hk:yb t=true){c:UInt8}(hc:ptc c=false):¬c∈jq t:=λh=>by
 rw[jfI t hk c h]at hc;cases hc
theorem jcc:∀t:T,yb t=true->(jq t).length+1<=8*nodes t:=by
 refine T.ind λt ih hk=>?_;obtain⟨w,us⟩:=t;obtain⟨k1,k2,k3,k4⟩:=jk6 hk;have hl:=(jgb hk).2.2;have hl:w.length<=6:=hl;rw[yM k3,j5];show _<=8*(1+jE us);split
 .omega
 .have:∀us:Xg,(∀u∈us,(jq u).length+1<=8*nodes u)->((us.map jq).map λx=>x.length+1).sum<=8*jE us:=by
   intro us;induction us with
   |nil=>intro _;simp
   |cons u us ih=>
    intro h;have h1:=h u (by simp);have h2:=ih λv hv=>h v (by simp[hv]);simp only[List.map_cons,List.sum_cons,jE];omega
  have h1:=this us λu hu=>ih u hu (k4 u hu);have h2:=ZI [44] 1 (Nat.le_refl _) (us.map jq);have h3:(Lib.join (us.map jq) [44]).length+1<=((us.map jq).map λx=>x.length+1).sum:=by
   cases us with
   |nil=>rename_i h;exact absurd rfl h
   |cons u us=>
    have:=Lib.join_length (jq u) (us.map jq) [44];rw[List.map_cons,this];have:∀l:Xa,Lib.lens l+l.length=(l.map λx=>x.length+1).sum:=by
     intro l;induction l with
     |nil=>rfl
     |cons x l ih=>
      unfold Lib.lens at ih⊢;simp only[List.map_cons,List.sum_cons,List.length_cons]at *;omega
    have:=this (jq u::us.map jq);simp only[List.length_cons,List.length_nil]at *;omega
  simp only[List.length_append,List.length_cons,List.length_nil];omega
def whole(s:Xb):Option T:=match rd s with
 |some (t,[])=>if kC t then some t else none
 |_=>none
theorem yG{t:T}(h:kC t=true):yb t=true:=by
 unfold kC at h;rw[Bool.and_eq_true]at h;exact h.2
theorem JF{s:Xb}{t:T}(h:whole s=some t):s=jq t/\kC t=true:=by
 unfold whole at h;split at h
 .rename_i u hu;split at h
  .cases h;have:=(Zl hu).1;rw[List.append_nil]at this;exact⟨this,by assumption⟩
  .cases h
 .cases h
theorem KF{t:T}(h:kC t=true):whole (jq t)=some t:=by
 have:=jcX (r:=[]) (yG h) trivial;rw[List.append_nil]at this;unfold whole;rw[this];simp only;rw[if_pos h]
def eqT(a b:T):T:= .mk [61] [a,b]
def jaa(s sign:Xb):Option T:=if Lib.index s sign<0 then none else
 match whole (s.take (Lib.index s sign).toNat),whole (s.drop ((Lib.index s sign).toNat+sign.length))with
 |some a,some b=>if jO (eqT a b)then some (eqT a b)else none
 |_,_=>none
def Y3(s:Xb):Option T:=match jaa s [32,61,32]with
 |some t=>some t
 |none=>match whole s with
  |some t=>if jO t then some t else none
  |none=>none
def zp(s:Xb):Option Lt:=match jaa s [32,33,61,32]with
 |some t=>some (false,t)
 |none=>if s.head? = some 126 then
   match whole (s.drop 1)with
   |some t=>if jO t then some (false,t)else none
   |none=>none
  else(Y3 s).map λt=>(true,t)
theorem jb4{s sign:Xb}{t:T}(h:jaa s sign=some t):∃a b,t=eqT a b/\s=jq a++sign++jq b/\jO t=true:=by
 unfold jaa at h;split at h
 .cases h
 rename_i hi;obtain⟨x,y,e,el⟩:=qZ (s:=s) (sub:=sign) (i:=(Lib.index s sign).toNat) (by omega);rw[<-el]at h;have e1:s.take x.length=x:=by rw[e,List.append_assoc,List.take_left]
 have e2:s.drop (x.length+sign.length)=y:=by rw[e,<-List.length_append,List.drop_left]
 rw[e1,e2]at h;split at h
 .rename_i a b ha hb;split at h
  .cases h;rename_i hat;exact⟨a,b,rfl,by rw[<-(JF ha).1,<-(JF hb).1];exact e,hat⟩
  .cases h
 .cases h
theorem Qg(a b:T):jq (eqT a b)=jq a++[32,61,32]++jq b:=by
 rw[ZE];rfl
theorem qX(a b:T):jJ (false,eqT a b)=jq a++[32,33,61,32]++jq b:=rfl
theorem qY{t:T}(h:¬t.name=[61]):jJ (false,t)=126::jq t:=by
 unfold jJ;rw[if_neg Bool.false_ne_true,if_neg h];rfl
theorem YB{s:Xb}{l:Lt}(h:zp s=some l):jJ l=s/\jO l.2=true:=by
 unfold zp at h;split at h
 .rename_i t ht;cases h;obtain⟨a,b,rfl,e,ha⟩:=jb4 ht;exact⟨by rw[qX,e],ha⟩
 .split at h
  .rename_i hs;split at h
   .rename_i t ht;split at h
    .rename_i hat;cases h;obtain⟨e,hv⟩:=JF ht;refine⟨?_,hat⟩;rw[qY (joJ (yG hv)),<-e];cases s with
     |nil=>cases hs
     |cons c r=>cases hs;rfl
    .cases h
   .cases h
  .obtain ⟨t,h1,rfl⟩:=Option.map_eq_some_iff.1 h;unfold Y3 at h1;split at h1
   .rename_i u hu;cases h1;obtain⟨a,b,rfl,e,ha⟩:=jb4 hu;exact⟨by show jq (eqT a b)=s;rw[Qg,e],ha⟩
   .split at h1
    .rename_i u hu;split at h1
     .rename_i hat;cases h1;exact⟨(JF hu).1.symm,hat⟩
     .cases h1
    .cases h1
theorem qU{t:T}(h:jO t=true):(∃a b,t=eqT a b/\kC a=true/\kC b=true/\nodes t<=30)\/(¬t.name=[61]/\kC t=true):=by
 unfold jO at h;by_cases he:t.name=[61]
 .rw [if_pos he]at h;unfold jfC kB at h;rw[Bool.and_eq_true,Bool.and_eq_true,Bool.and_eq_true,Bool.and_eq_true,decide_eq_true_eq,decide_eq_true_eq,decide_eq_true_eq]at h;obtain⟨h1,⟨h2,h3⟩,h4,h5⟩:=h;obtain⟨n,us⟩:=t
  match us,h1 with
  | [a,b],_=>
   cases he;rw[j5]at h2;rw[jbY]at h3;simp only[T.args,jE,Z4]at h2 h3;have p1:=jag a;have p2:=jag b;refine Or.inl ⟨a,b,rfl,?_,?_,by rw[j5];simp only[T.args,jE];omega⟩
   .unfold kC kB;rw[decide_eq_true (show nodes a<=30 by omega),decide_eq_true (show dep a<=8 by omega)];exact h4
   .unfold kC kB;rw[decide_eq_true (show nodes b<=30 by omega),decide_eq_true (show dep b<=8 by omega)];exact h5
 .rw [if_neg he,Bool.and_eq_true]at h;exact Or.inr ⟨he,h.2⟩
theorem jdZ{a b:T}{sign t:Xb}(hs:sign=32::t)(ha:kC a=true)(hb:kC b=true)(h:jO (eqT a b)=true):jaa (jq a++sign++jq b) sign=some (eqT a b):=by
 unfold jaa;rw[jd5 hs (yY (yG ha) (by decide)),if_neg (by omega),Int.toNat_natCast];have e1:(jq a++sign++jq b).take (jq a).length=jq a:=by rw[List.append_assoc,List.take_left]
 have e2:(jq a++sign++jq b).drop ((jq a).length+sign.length)=jq b:=by rw[<-List.length_append,List.drop_left]
 rw[e1,e2,KF ha,KF hb];simp only;rw[if_pos h]
theorem Qa{s sign:Xb}{c:UInt8}(hc:c∈sign)(hs:¬c∈s):jaa s sign=none:=by
 unfold jaa;rw[jd6 hc hs,if_pos (by decide)]
theorem jhp{s:Xb}{c:UInt8}(hs:¬c∈s):¬s.head? = some c:=λh=>hs (List.mem_of_mem_head? h)
theorem jem{l:Lt}(h:jO l.2=true):zp (jJ l)=some l:=by
 obtain⟨p,t⟩:=l;have h:jO t=true:=h;rcases qU h with⟨a,b,rfl,ha,hb,_⟩|⟨hn,hv⟩
 .cases p with
  |false=>
   rw[qX];unfold zp;rw[jdZ rfl ha hb h]
  |true=>
   show zp (jq (eqT a b))=_;have m:∀c,ptc c=false-> ¬c ∈ [32,61,32]-> ¬c∈jq a++[32,61,32]++jq b:=λc hc h1 h2=>by
    rw[List.mem_append,List.mem_append]at h2;rcases h2 with(h2|h2)|h2
    .exact yY (yG ha) hc h2
    .exact h1 h2
    .exact yY (yG hb) hc h2
   rw[Qg];unfold zp Y3;rw[Qa (c:=33) (by decide) (m 33 (by decide) (by decide))];simp only;rw[if_neg (jhp (m 126 (by decide) (by decide))),jdZ rfl ha hb h];rfl
 .have hk:=yG hv;cases p with
  |false=>
   rw[qY hn];unfold zp;have h33:¬(33:UInt8)∈126::jq t:=λh=>by
    rcases List.mem_cons.1 h with h|h
    .revert h;decide
    .exact yY hk (by decide) h
   rw[Qa (c:=33) (by decide) h33];simp only;rw[if_pos (show(126::jq t).head? = some 126 from rfl),List.drop_one,List.tail_cons,KF hv];simp only;rw[if_pos h]
  |true=>
   show zp (jq t)=_;unfold zp Y3;rw[Qa (c:=33) (by decide) (yY hk (by decide))];simp only;rw[if_neg (jhp (yY hk (by decide))),Qa (c:=61) (by decide) (yY hk (by decide)),KF hv];simp only;rw[if_pos h];rfl
def rdE(s:Xb):Option T:=match rd s with
 |some (t,[])=>some t
 |_=>none
def jdX(s:Xb):Option T:=match rd s with
 |none=>none
 |some (t,r)=>if[32,61,32].isPrefixOf r then(rdE (r.drop 3)).map λu=>eqT t u else if r=[]then some t else none
def jaf(s:Xb):Option Lt:=if[126].isPrefixOf s then(jdX (s.drop 1)).map λt=>(false,t)else
 match rd s with
 |none=>none
 |some (t,r)=>if[32,33,61,32].isPrefixOf r then(rdE (r.drop 4)).map λu=>(false,eqT t u)else
  if[32,61,32].isPrefixOf r then(rdE (r.drop 3)).map λu=>(true,eqT t u)else if r=[]then some (true,t)else none
def Jq(s:Xb):Option Lt:=match jaf s with
 |some l=>if jO l.2 && decide (jJ l=s)then some l else none
 |none=>none
theorem jic{t:T}(h:yb t=true):rdE (jq t)=some t:=by
 have:=jcX (r:=[]) h trivial;rw[List.append_nil]at this;unfold rdE;rw[this]
theorem jl3{l:Lt}(h:jO l.2=true):jaf (jJ l)=some l:=by
 obtain⟨p,t⟩:=l;have h:jO t=true:=h;have st:∀{c:UInt8}{s r:Xb},¬c∈s->s≠ []-> [c].isPrefixOf (s++r)=false:=λ{c s r} hc hs=>by
  cases s with
  |nil=>exact absurd rfl hs
  |cons d s=>
   have:¬c=d:=λe=>hc (by rw[e];simp)
   simp[List.isPrefixOf,this]
 have ne:∀{t:T},yb t=true->jq t≠ []:=λ{t} hk=>by
  obtain⟨w,us⟩:=t;obtain⟨k1,_,k3,_⟩:=jk6 hk;rw[yM k3];split
  .exact k1
  .simp
 rcases qU h with⟨a,b,rfl,ha,hb,_⟩|⟨hn,hv⟩
 .have ka:=yG ha;have kb:=yG hb;cases p with
  |false=>
   rw[qX];unfold jaf;rw[List.append_assoc,st (yY ka (by decide)) (ne ka),if_neg Bool.false_ne_true,jcX ka (r:=[32,33,61,32]++jq b) (show jlt (32::_) from⟨by decide,by decide⟩)];show(rdE (jq b)).map _=_;rw[jic kb];rfl
  |true=>
   show jaf (jq (eqT a b))=_;rw[Qg];unfold jaf;rw[List.append_assoc,st (yY ka (by decide)) (ne ka),if_neg Bool.false_ne_true,jcX ka (r:=[32,61,32]++jq b) (show jlt (32::_) from⟨by decide,by decide⟩)];show(rdE (jq b)).map _=_;rw[jic kb];rfl
 .have hk:=yG hv;have e0:=jcX (r:=[]) hk trivial;rw[List.append_nil]at e0;cases p with
  |false=>
   rw[qY hn];unfold jaf jdX;rw[if_pos (show[126].isPrefixOf (126::jq t)=true from rfl),List.drop_one,List.tail_cons,e0];rfl
  |true=>
   show jaf (jq t)=_;unfold jaf;have:=st (r:=[]) (yY hk (c:=126) (by decide)) (ne hk);rw[List.append_nil]at this;rw[this,if_neg Bool.false_ne_true,e0];rfl
theorem jhN(s:Xb):Jq s=zp s:=by
 cases h:zp s with
 |some l=>
  obtain⟨h1,h2⟩:=YB h;unfold Jq;rw[<-h1,jl3 h2];simp only;rw[if_pos (by rw[h2];simp)]
 |none=>
  unfold Jq;split
  .rename_i l hl;split
   .rename_i hc;rw[Bool.and_eq_true,decide_eq_true_eq]at hc;have:=jem hc.1;rw[hc.2,h]at this;cases this
   .rfl
  .rfl
def Jt(f:Xb->Option Lt):Xa->Option kW
 | []=>some []
 |x::r=>match f x with
  |none=>none
  |some l=>(Jt f r).map λc=>l::c
def ku:Xb:=[32,124,32]
def jfF:Xb:=[36,102,97,108,115,101]
def clF(f:Xb->Option Lt)(s:Xb):Option kW:=if s=jfF then some []else
 match Jt f (Lib.split s ku)with
 |some c=>if ko c then some c else none
 |none=>none
theorem jkB(s:Xb):clF Jq s=clF zp s:=by rw[show Jq=zp from funext jhN]
theorem Jl{s:Xb}(h:Lib.index s ku = -1):Lib.split s ku=[s]:=by
 unfold Lib.split;rw[Lib.count_miss h];rfl
theorem J7{s:Xb}{i:Nat}(h:Lib.index s ku=i):Lib.split s ku=s.take i::Lib.split (s.drop (i+3)) ku:=by
 unfold Lib.split;rw[Lib.count_hit (show ku≠ [] from List.cons_ne_nil _ _) h,Nat.add_comm,Lib.splitK,h,if_neg (by simp)];rfl
theorem Yx(x y:Xb)(r:Xa)(sep:Xb):Lib.join (x::y::r) sep=x++sep++Lib.join (y::r) sep:=by
 rw[Lib.join_cons,Lib.join_cons];simp only[Lib.joinTail,List.map_cons,List.flatten_cons,List.append_assoc]
theorem jiy(s:Xb):Lib.split s ku≠ []:=by
 unfold Lib.split;cases Lib.count s ku with
 |zero=>exact List.cons_ne_nil _ _
 |succ k=>unfold Lib.splitK;split<;>exact List.cons_ne_nil _ _
theorem jcn:∀(n:Nat)(s:Xb),s.length<=n->Lib.join (Lib.split s ku) ku=s
 |n,s,hn=>by
  rcases Int.lt_or_le (Lib.index s ku) 0 with h|h
  .have:=Lib.index_ge s ku;rw[Jl (by omega),Lib.join_one]
  .obtain ⟨i,hi⟩:∃i:Nat,Lib.index s ku=i:=⟨(Lib.index s ku).toNat,by omega⟩;obtain⟨x,y,e,el⟩:=qZ hi;have hl:s.length=i+3+y.length:=by rw[e,List.length_append,List.length_append,el];rfl
   have e1:s.take i=x:=by rw[e,<-el,List.append_assoc,List.take_left]
   have e2:s.drop (i+3)=y:=by
    have:i+3=(x++ku).length:=by rw[List.length_append,el];rfl
    rw[e,this,List.drop_left]
   rw[J7 hi,e1,e2];cases n with
   |zero=>omega
   |succ n=>
    have ih:=jcn n y (by omega);have hne:=jiy y;cases hsp:Lib.split y ku with
    |nil=>exact absurd hsp hne
    |cons z r=>rw[Yx,<-hsp,ih,e]
theorem jdi:∀xs:Xa,xs≠ []->(∀x∈xs,¬(124:UInt8)∈x)->Lib.split (Lib.join xs ku) ku=xs
 | [],h,_=>absurd rfl h
 | [x],_,h=>by
  rw[Lib.join_one,Jl (jd6 (c:=124) (by decide) (h x (by simp)))]
 |x::y::r,_,h=>by
  have hx:=h x (by simp);have hi:Lib.index (x++ku++Lib.join (y::r) ku) ku=(x.length:Nat):=by
   refine Lib.index_first (by simp) ?_ λj hj=>?_
   .unfold Lib.occAt;rw[List.append_assoc,List.drop_left];exact List.isPrefixOf_iff_prefix.2 ⟨_,rfl⟩
   .cases ho:Lib.occAt (x++ku++Lib.join (y::r) ku) ku j with
    |false=>rfl
    |true=>
     have:=Lib.occAt_second rfl ho;by_cases hj2:j+1<x.length
     .rw [List.append_assoc,List.getElem?_append_left hj2]at this;exact absurd (List.mem_of_getElem? this) hx
     .have e:j+1=x.length:=by omega
      rw[e,List.append_assoc,List.getElem?_append_right (Nat.le_refl _),Nat.sub_self]at this;revert this;simp[ku]
  have ih:=jdi (y::r) (by simp) λz hz=>h z (by simp at hz⊢;exact Or.inr hz)
  rw[Yx,J7 hi];have e1:(x++ku++Lib.join (y::r) ku).take x.length=x:=by rw[List.append_assoc,List.take_left]
  have e2:(x++ku++Lib.join (y::r) ku).drop (x.length+3)=Lib.join (y::r) ku:=by
   have:x.length+3=(x++ku).length:=by rw[List.length_append];rfl
   rw[this,List.drop_left]
  rw[e1,e2,ih]
theorem jaA:∀{xs:Xa}{c:kW},Jt zp xs=some c->c.map jJ=xs/\c.all (λl=>jO l.2)=true
 | [],c,h=>by cases h;exact⟨rfl,rfl⟩
 |x::r,c,h=>by
  unfold Jt at h;split at h
  .cases h
  .rename_i l hl;obtain⟨d,h1,rfl⟩:=Option.map_eq_some_iff.1 h;obtain⟨k1,k2⟩:=jaA h1;obtain⟨j1,j2⟩:=YB hl;exact⟨by rw[List.map_cons,j1,k1],by rw[List.all_cons,j2,k2];rfl⟩
theorem jbN:∀c:kW,c.all (λl=>jO l.2)=true->Jt zp (c.map jJ)=some c
 | [],_=>rfl
 |l::c,h=>by
  rw[List.all_cons,Bool.and_eq_true]at h;rw[List.map_cons,Jt,jem h.1];simp only;rw[jbN c h.2];rfl
theorem je4{c:kW}(h:ko c=true):c.all (λl=>jO l.2)=true/\c.length<=8:=by
 unfold ko at h;rw[Bool.and_eq_true,Bool.and_eq_true,decide_eq_true_eq]at h;exact⟨h.1,h.2.2⟩
theorem jqE{l:Lt}(h:jO l.2=true){c:UInt8}(hc:c∈jJ l):ptc c=true\/c=32\/c=33\/c=61\/c=126:=by
 obtain⟨p,t⟩:=l;have h:jO t=true:=h;rcases qU h with⟨a,b,rfl,ha,hb,_⟩|⟨hn,hv⟩
 .have k1:=jfI a (yG ha) c;have k2:=jfI b (yG hb) c;cases p with
  |false=>
   rw[qX]at hc;simp only[List.mem_append,List.mem_cons,List.not_mem_nil,or_false]at hc;rcases hc with(hc|hc)|hc
   .exact Or.inl (k1 hc)
   .rcases hc with h|h|h|h<;>simp[h]
   .exact Or.inl (k2 hc)
  |true=>
   have hc:c∈jq (eqT a b):=hc;rw[Qg]at hc;simp only[List.mem_append,List.mem_cons,List.not_mem_nil,or_false]at hc;rcases hc with(hc|hc)|hc
   .exact Or.inl (k1 hc)
   .rcases hc with h|h|h<;>simp[h]
   .exact Or.inl (k2 hc)
 .have k:=jfI t (yG hv) c;cases p with
  |false=>
   rw[qY hn]at hc;rcases List.mem_cons.1 hc with h|h
   .simp [h]
   .exact Or.inl (k h)
  |true=>exact Or.inl (k hc)
theorem jk0{l:Lt}(h:jO l.2=true){c:UInt8}(h0:ptc c=false)(h1:¬c=32/\ ¬c=33/\ ¬c=61/\ ¬c=126):¬c∈jJ l:=λhc=>by
 rcases jqE h hc with h|h|h|h|h
 .rw [h]at h0;cases h0
 .exact h1.1 h
 .exact h1.2.1 h
 .exact h1.2.2.1 h
 .exact h1.2.2.2 h
theorem jot{l:Lt}(h:jO l.2=true):(jJ l).length<=240:=by
 obtain⟨p,t⟩:=l;have h:jO t=true:=h;rcases qU h with⟨a,b,rfl,ha,hb,hz⟩|⟨hn,hv⟩
 .have k1:=jcc a (yG ha);have k2:=jcc b (yG hb);rw[j5]at hz;have hz:1+(nodes a+(nodes b+0))<=30:=hz;cases p with
  |false=>rw[qX];simp only[List.length_append,List.length_cons,List.length_nil];omega
  |true=>
   show(jq (eqT a b)).length<=240;rw[Qg];simp only[List.length_append,List.length_cons,List.length_nil];omega
 .have k:=jcc t (yG hv);have hz:nodes t<=30:=by
   unfold kC kB at hv;rw[Bool.and_eq_true,Bool.and_eq_true,decide_eq_true_eq]at hv;exact hv.1.1
  cases p with
  |false=>rw[qY hn,List.length_cons];omega
  |true=>show(jq t).length<=240;omega
theorem jp4{c:kW}(h:ko c=true):(fmtC c).length<=3000:=by
 obtain⟨h1,h2⟩:=je4 h;unfold fmtC;split
 .decide
 .have:=ZI [32,124,32] 3 (Nat.le_refl _) (c.map jJ);have h3:∀d:kW,d.all (λl=>jO l.2)=true->((d.map jJ).map λx=>x.length+3).sum<=243*d.length:=by
   intro d;induction d with
   |nil=>intro _;simp
   |cons l d ih=>
    intro h;rw[List.all_cons,Bool.and_eq_true]at h;have k1:=ih h.2;have k2:=jot h.1;simp only[List.map_cons,List.sum_cons,List.length_cons];omega
  have:=h3 c h1;omega
theorem jlN{s:Xb}{c:kW}(h:clF zp s=some c):ko c=true/\fmtC c=s:=by
 unfold clF at h;split at h
 .rename_i e;cases h;exact⟨by decide,by rw[e];rfl⟩
 .split at h
  .rename_i d hd;split at h
   .rename_i hv;cases h;obtain⟨k1,k2⟩:=jaA hd;refine⟨hv,?_⟩;have hj:=jcn s.length s (Nat.le_refl _);rw[<-k1]at hj;unfold fmtC;rw[if_neg (λe=>by rw[e]at k1;exact jiy s k1.symm)];exact hj
   .cases h
  .cases h
theorem jg4{c:kW}(h:ko c=true):clF zp (fmtC c)=some c:=by
 obtain⟨h1,h2⟩:=je4 h;have hm:∀l∈c,jO l.2=true:=λl hl=>List.all_eq_true.1 h1 l hl;by_cases h0:c=[]
 .subst h0;unfold clF;rw[if_pos (by rfl)]
 .have e:fmtC c=Lib.join (c.map jJ) ku:=by unfold fmtC;rw[if_neg h0];rfl
  have hne:¬fmtC c=jfF:=λe2=>by
   have m:(36:UInt8)∈fmtC c:=by rw[e2];decide
   rw[e]at m;rcases K9 m with m|⟨x,hx,m⟩
   .revert m;decide
   .obtain ⟨l,hl,rfl⟩:=List.mem_map.1 hx;exact jk0 (hm l hl) (by decide) (by decide) m
  unfold clF;rw[if_neg hne,e,jdi (c.map jJ) (by simpa using h0) (λx hx=>by
   obtain⟨l,hl,rfl⟩:=List.mem_map.1 hx;exact jk0 (hm l hl) (by decide) (by decide)),jbN c h1]
  simp only;rw[if_pos h]
open Go Go.RowKit Go.ChangeShapes Go.Deep Go.Proofs.YteoaojbmnibpcaaGreatDoor.Abs
section
variable{P:Program}{t:Nat}{H:Type}{enc:TypeId×Value->H}{w:World}{base:Nat}{spare:Nat->Bool}{held:Bool}{fuel:Nat}{cs:Xh}{x:DataW H×List MemPlace}
end
abbrev clc(c:kW):Xd:=[.sl 3 (c.map kA)]
structure Stp where
 rule:Int
 par:Xi
 whr:Xi
 cls:kW
abbrev stc(s:Stp):Xd:=[vi s.rule,ints s.par,ints s.whr,.sl 3 (s.cls.map kA)]
abbrev stm(s:Stp):A:= .agg [vi s.rule,ints s.par,ints s.whr,.sl 3 (s.cls.map kA)]
structure Prf where
 ax:List kW
 st:List Stp
abbrev cls(l:List kW):A:= .sl 1 (l.map clc)
abbrev jri(l:List Stp):A:= .sl 4 (l.map stc)
abbrev prc(p:Prf):Xd:=[cls p.ax,jri p.st]
abbrev prm(p:Prf):A:= .agg [cls p.ax,jri p.st]
structure Sch where
 prf:Prf
 act:Xi
 pas:Xi
 lost:Bool
abbrev scc(s:Sch):Xd:=[cls s.prf.ax,jri s.prf.st,ints s.act,ints s.pas,vb s.lost]
abbrev scm(s:Sch):A:= .agg [cls s.prf.ax,jri s.prf.st,ints s.act,ints s.pas,vb s.lost]
def iwf(l:Xi):Prop:=(∀x∈l,I64 x)/\l.length<=9223372036854775807
def cwf(c:kW):Prop:=(∀l∈c,twf l.2)/\c.length<=9223372036854775807
def swf(s:Stp):Prop:=I64 s.rule/\iwf s.par/\iwf s.whr/\cwf s.cls
def pwf(p:Prf):Prop:=((∀c∈p.ax,cwf c)/\p.ax.length<=9223372036854775807)/\((∀s∈p.st,swf s)/\p.st.length<=9223372036854775807)
def jxz(s:Sch):Prop:=pwf s.prf/\iwf s.act/\iwf s.pas
set_option maxHeartbeats 1000000
theorem ZN(l:Lt):zX 3 (.elt (kA l) 0)=some (ltm l):=rfl
def lsz:kW->Nat
 | []=>0
 |l::c=>tsz l.2+lsz c
def csz(c:kW):Nat:=c.length+lsz c
def jua:List kW->Nat
 | []=>0
 |c::l=>csz c+jua l
def ssz(s:Stp):Nat:=s.par.length+s.whr.length+csz s.cls
def ju4:List Stp->Nat
 | []=>0
 |s::l=>ssz s+ju4 l
def psz(p:Prf):Nat:=(p.ax.length+jua p.ax)+(p.st.length+ju4 p.st)
def jxy(s:Sch):Nat:=psz s.prf+s.act.length+s.pas.length
theorem jsO(l:Lt)(hw:twf l.2):G 110 [ltm l,ltm l]=some (vb true,[]):=by
 have e1:=jqh l.2 hw;rw[jwc];cases l.1<;>simp only[jo,e1]
theorem jqf(l:List Lt)(hl:l.length<=9223372036854775807)(ih:∀t∈l,G 110 [ltm t,ltm t]=some (vb true,[])):G 72 [.sl 3 (l.map kA),.sl 3 (l.map kA)]=some (vb true,[]):=by
 have key:=(upto (P:=λi=>jkp (.sl 3 (l.map kA)) (.sl 3 (l.map kA)) (vi i)=some (vb true,[])) (n:=l.length) ?_ ?_ 0 (Nat.zero_le _))
 .rw [g72];simp only[Int.natCast_zero]at key;simp only[jo,key]
 .rw [jrV];simp only[jo]
 .intro i hi ih';have h5:=jx hi hl;have e1:=ih l[i] (List.getElem_mem _);rw[jrV];simp only[jo,hi,Int.ofNat_lt,jc hi,ZN,e1,h5,ih']
theorem jsN(c:kW)(hw:cwf c):G 41 [cm c,cm c]=some (vb true,[]):=by
 have e1:=jqf c hw.2 λl hl=>jsO l (hw.1 l hl);rw[g41];simp only[jo,e1]
theorem jqg(s:Stp)(hw:swf s):G 15 [stm s,stm s]=some (vb true,[]):=by
 have e1:=jkH s.par hw.2.1.2;have e2:=jkH s.whr hw.2.2.1.2;have e3:=jsN s.cls hw.2.2.2;rw[g15];simp only[jo,e1,e2,e3]
theorem jb7(c:Bool)(l:Xb):fin c (sv l,[])=some (sv l):=by cases c<;>rfl
theorem qh(b:Bool){x y:Xb}(h:x.length+y.length<=9223372036854775807):jw .add b (sv x) (sv y)=some (sv (x++y)):=by rw[ZL,if_pos h]
theorem ldS(x:Xb):zI (.elt (cs x) 0)=some (sv x):=rfl
theorem ldI(n:Int):zI (.elt (ci n) 0)=some (vi n):=rfl
theorem jh4{n:Nat}(h:n<=4194304):zq n 16=true:=by
 unfold zq;exact decide_eq_true ⟨by omega,by omega⟩
theorem jbO(f:Xb)(l:Xa):J4 (l.map cs) [[sv f]]=(l++[f]).map cs:=by rw[List.map_append];rfl
theorem jps:∀d:Nat,d<10->jX (sv [48,49,50,51,52,53,54,55,56,57]) (some (vi (d:Nat))) (some (vi ((d+1:Nat):Int)))=some (sv [UInt8.ofNat (48+d)])
 |0,_=>rfl|1,_=>rfl|2,_=>rfl|3,_=>rfl|4,_=>rfl|5,_=>rfl|6,_=>rfl|7,_=>rfl|8,_=>rfl|9,_=>rfl
theorem jjp:∀n:Nat,n<=1000000->G 47 [vi (n:Nat)]=some (sv (Lib.decDigits n),[]):=by
 intro n;induction n using Nat.strongRecOn with
 |ind n ih=>
  intro hn;have h0:¬((n:Nat):Int)<0:=by omega
  rw[g47];by_cases h:n<10
  .have h1:((n:Nat):Int)<10:=by omega
   have h2:ck ((n:Int)+1)=some (vi ((n+1:Nat):Int)):=zo (by omega) (by omega);have h3:=jps n h;rw[K2 h];simp only[jo,h0,h1,h2,h3]
  .have h1:¬((n:Nat):Int)<10:=by omega
   have hq:jw .quo false (vi (n:Nat)) (vi 10)=some (vi ((n / 10:Nat):Int)):=by
    show ck (((n:Nat):Int).tdiv 10)=_;rw[Int.tdiv_eq_ediv_of_nonneg (by omega)];exact zo (by omega) (by omega)
   have hr:jw .rem false (vi (n:Nat)) (vi 10)=some (vi ((n % 10:Nat):Int)):=by
    show some (vi (((n:Nat):Int).tmod 10))=_;rw[Int.tmod_eq_emod_of_nonneg (by omega)];rfl
   have h2:ck (((n % 10:Nat):Int)+1)=some (vi ((n % 10+1:Nat):Int)):=zo (by omega) (by omega);have h3:=jps (n % 10) (by omega);have h4:=ih (n / 10) (by omega) (by omega);have hl:(Lib.decDigits (n / 10)).length + [UInt8.ofNat (48+n % 10)].length<=9223372036854775807:=by
    have:=(qA 6 (n / 10) (by omega)).2;simp only[List.length_cons,List.length_nil];omega
   have h5:=ZL false (Lib.decDigits (n / 10)) [UInt8.ofNat (48+n % 10)];rw[if_pos hl]at h5;rw[jbZ h];simp only[jo,h0,h1,hq,hr,h2,h3,h4,h5]
theorem juv(n:Nat)(hn:n<=1000000):G 107 [vi (n:Nat)]=some (sv (Lib.decDigits n),[]):=by
 have:K.ext 107=some jkS:=rfl;rw[jgJ this];show(if -9223372036854775808<=((n:Nat):Int)/\((n:Nat):Int)<=9223372036854775807 then some (sv (Lib.itoa (n:Nat)),[])else none)=_;rw[if_pos (by omega)];unfold Lib.itoa;rw[if_neg (by omega),Int.toNat_natCast]
theorem jiC:∀l:Xa,Abs.strs (l.map cs)=some (l.map λx=>(⟨⟨x⟩⟩:ByteArray))
 | []=>rfl
 |x::l=>by
  show(Abs.strs (l.map cs)).map _=_;rw[jiC l];rfl
theorem jcl(l:Xa)(sep:Xb)(h1:l.length<=100000000)(h2:(Lib.join l sep).length<=100000000):G 51 [.sl 1 (l.map cs),sv sep]=some (sv (Lib.join l sep),[]):=by
 have:K.ext 51=some jkT:=rfl;rw[jgJ this];have hm:(l.map λx=>(⟨⟨x⟩⟩:ByteArray)).map (·.data.toList)=l:=by rw[List.map_map];exact(List.map_congr_left λx _=>rfl).trans (List.map_id l)
 show(if 1=1 then(Abs.strs (l.map cs)).bind _ else none)=_;rw[if_pos rfl,jiC,Option.bind_some,hm,if_pos ⟨by rw[List.length_map];omega,by show(Lib.join l sep).length<=_;omega⟩]
theorem jk7{t:T}(h:yb t=true):¬t.name=[61]:=λe=>by
 rw[yP,e,show jI [61]=false from by decide,if_neg Bool.false_ne_true,show yX [61]=false from by decide,Bool.false_and]at h;cases h
def pre(n:Xb)(xs:Xa)(i:Nat):Xb:=if i=0 then n else n++[40]++Lib.join (xs.take i) [44]
theorem jo9(n:Xb)(xs:Xa)(i:Nat)(h:i<xs.length):pre n xs (i+1)=(if i=0 then n++[40]else pre n xs i++[44])++xs[i]:=by
 unfold pre;rw[if_neg (by omega),jd9 [44] xs i h];by_cases h0:i=0
 .rw [if_pos h0,if_pos h0]
 .rw [if_neg h0,if_neg h0,if_neg h0];simp only[List.append_assoc]
theorem jiG(f:Xb->Nat)(xs:Xa)(i:Nat):((xs.take i).map f).sum<=(xs.map f).sum:=by
 have:(xs.map f).sum=((xs.take i).map f).sum+((xs.drop i).map f).sum:=by
  rw[<-List.sum_append,<-List.map_append,List.take_append_drop]
 omega
theorem jlb(n:Xb)(xs:Xa)(i:Nat):(pre n xs i).length<=n.length+1+(xs.map λx=>x.length+1).sum:=by
 unfold pre;split
 .omega
 .have h1:=ZI [44] 1 (Nat.le_refl _) (xs.take i);have h2:=jiG (λx=>x.length+1) xs i;simp only[List.length_append,List.length_cons,List.length_nil];omega
theorem jkJ(us:Xg):((us.map jq).map λx=>x.length+1).sum<=6*us.length+6*ya us:=jcd us λu _=>qb u
theorem jfJ{t:T}(h:¬t.name=[61]):jq t=if t.args.length=0 then t.name else pre t.name (t.args.map jq) t.args.length++[41]:=by
 rw[ZE];unfold cmb pre;rw[if_neg h];cases ht:t.args with
 |nil=>rfl
 |cons u us=>
  rw[if_neg (by simp),if_neg (by simp),if_neg (by simp),List.take_of_length_le (by simp)]
theorem J0:∀t:T,yb t=true->tsz t<=1048576->G 99 [tm t]=some (sv (jq t),[]):=by
 refine T.ind λt ih hk hz=>?_;have hne:=jk7 hk;have hs:=jkJ t.args;rw[zB]at hz;have key:=upto (n:=t.args.length) (P:=λi=>jdR (sv (pre t.name (t.args.map jq) i)) (vi (i:Nat)) (sv t.name) (zh t.args)=some (sv (jq t),[])) ?_ ?_ 0 (Nat.zero_le _)
 .simp only[Int.natCast_zero]at key;have key:jdR (sv t.name) (vi 0) (sv t.name) (zh t.args)=some (sv (jq t),[]):=key;rw[g99];simp only[jo,hne,key]
 .have nlt:¬((t.args.length:Nat):Int)<((t.args.length:Nat):Int):=by omega
  rw[jr1,jfJ hne];by_cases h0:t.args.length=0
  .rw [h0];have hg:¬(0:Int)<((0:Nat):Int):=by decide
   simp only[jo,nlt,h0,hg];rfl
  .have hg:(0:Int)<((t.args.length:Nat):Int):=by omega
   have hl:=jlb t.name (t.args.map jq) t.args.length;have a1:=qh false (x:=pre t.name (t.args.map jq) t.args.length) (y:=[41]) (by simp only[List.length_cons,List.length_nil];omega);rw[if_neg h0];simp only[jo,nlt,hg,a1]
 .intro i hi ihi;have hlt:(i:Int)<((t.args.length:Nat):Int):=by omega
  have h5:=jx hi (by show t.args.length<=9223372036854775807;omega)
  have hm:=List.getElem_mem hi;have e:=ih _ hm (qe hk _ hm) (by have:=y8 hm;omega);have x1:ji 2 (zh t.args) (vi (i:Nat))=some (.elt (jl t.args[i]) 0):=jc hi;have hp:=jo9 t.name (t.args.map jq) i (by rw[List.length_map];exact hi);have hl:=jlb t.name (t.args.map jq) i;have hl2:=qb t.args[i];have hl3:=y8 hm;rw[List.getElem_map]at hp;rw[hp]at ihi;generalize t.args[i]=u at e x1 ihi hl2 hl3;rw[jr1];by_cases h0:i=0
  .subst h0;have a1:=qh false (x:=pre t.name (t.args.map jq) 0) (y:=[40]) (by simp only[List.length_cons,List.length_nil];omega);have a2:=qh false (x:=pre t.name (t.args.map jq) 0++[40]) (y:=jq u) (by simp only[List.length_append,List.length_cons,List.length_nil];omega);rw[if_pos rfl]at ihi;have ihi:jdR (sv (pre t.name (t.args.map jq) 0++[40]++jq u)) (vi ((0+1:Nat):Int)) (sv t.name) (zh t.args)=some (sv (jq t),[]):=ihi;generalize pre t.name (t.args.map jq) 0=X at *;have z0:((0:Nat):Int)=0:=rfl;rw[z0]at hlt x1 h5⊢;simp only[jo,hlt,a1,x1,js,e,a2,h5,ihi]
  .have h0':¬(i:Int)=0:=by omega
   have a1:=qh false (x:=pre t.name (t.args.map jq) i) (y:=[44]) (by simp only[List.length_cons,List.length_nil];omega)
   have a2:=qh false (x:=pre t.name (t.args.map jq) i++[44]) (y:=jq u) (by simp only[List.length_append,List.length_cons,List.length_nil];omega)
   rw[if_neg h0]at ihi;generalize pre t.name (t.args.map jq) i=X at *;simp only[jo,hlt,h0',a1,x1,js,e,a2,h5,ihi]
theorem z7:∀t:T,yb t=true->tsz t<=1048576->G 83 [tm t]=some (sv (jq t),[]):=by
 refine T.ind λt ih hk hz=>?_;have hne:=jk7 hk;have hs:=jkJ t.args;have hfl:=qb t;rw[zB]at hz;have e0:=z8 t;rw[decide_eq_false hne]at e0;have key:=upto (n:=t.args.length) (P:=λi=>¬t.args.length=0->jkr (zh t.args) (vi (t.args.length:Nat)) (vi (i:Nat)) (sv t.name) (zh t.args) (((t.args.take i).map jq).map cs)=some (sv (jq t),[])) ?_ ?_ 0 (Nat.zero_le _)
 .simp only[Int.natCast_zero,List.take_zero,List.map_nil]at key;rw[g83];by_cases h0:t.args.length=0
  .have h0':((t.args.length:Nat):Int)=0:=by omega
   rw[jfJ hne,if_pos h0];simp only[jo,e0,h0']
  .have h0':¬((t.args.length:Nat):Int)=0:=by omega
   simp only[jo,e0,h0',key h0]
 .intro h0;have nlt:¬((t.args.length:Nat):Int)<((t.args.length:Nat):Int):=by omega
  have hj:=ZI [44] 1 (Nat.le_refl _) (t.args.map jq);have j1:=jcl (t.args.map jq) [44] (by rw[List.length_map];omega) (by omega);have a1:=qh false (x:=t.name) (y:=[40]) (by simp only[List.length_cons,List.length_nil];omega);have a2:=qh false (x:=t.name++[40]) (y:=Lib.join (t.args.map jq) [44]) (by simp only[List.length_append,List.length_cons,List.length_nil];omega);have a3:=qh false (x:=t.name++[40]++Lib.join (t.args.map jq) [44]) (y:=[41]) (by simp only[List.length_append,List.length_cons,List.length_nil];omega);have hf:jq t=t.name++[40]++Lib.join (t.args.map jq) [44]++[41]:=by
   rw[jfJ hne,if_neg h0];unfold pre;rw[if_neg h0,List.take_of_length_le (by simp)]
  rw[hf,List.take_length,jrX];generalize t.args.map jq=xs at *;simp only[jo,nlt,a1,j1,jb7,a2,a3]
 .intro i hi ihi h0;have hlt:(i:Int)<((t.args.length:Nat):Int):=by omega
  have h5:=jx hi (by show t.args.length<=9223372036854775807;omega)
  have hm:=List.getElem_mem hi;have e:=ih _ hm (qe hk _ hm) (by have:=y8 hm;omega);have x1:ji 2 (zh t.args) (vi (i:Nat))=some (.elt (jl t.args[i]) 0):=jc hi;have f1:zq ((((t.args.take i).map jq).map cs).length+1) 16=true:=jh4 (by rw[List.length_map,List.length_map,List.length_take];omega);have ihi:=ihi h0;rw[List.take_succ_eq_append_getElem hi,List.map_append,List.map_cons,List.map_nil,<-jbO]at ihi;generalize t.args[i]=u at e x1 ihi;generalize ((t.args.take i).map jq).map cs=R at *;rw[jrX];simp only[jo,hlt,x1,js,e,f1,h5,ihi]
theorem jqm{t:T}(hn:t.name=[61])(hl:t.args.length=2):jq t=jq (yo t)++[32,61,32]++jq (ql t):=by
 rw[ZE,KU hl];unfold cmb;rw[if_pos hn];rfl
theorem JV{t:T}(h:Bx t)(hn:nodes t<=30):tsz t<=300:=by have:=h.tsz;omega
theorem jgV{t:T}(hl:t.args.length=2)(hz:tsz t<=300):tsz (yo t)<=300/\tsz (ql t)<=300:=by
 rw[zB,KU hl]at hz;simp only[ya]at hz;omega
theorem jjg{t:T}(hb:Bx t)(hz:tsz t<=300):G 99 [tm t]=some (sv (jq t),[])/\G 83 [tm t]=some (sv (jq t),[]):=by
 rcases hb with⟨hn,hl,hk⟩|⟨hs,hk⟩
 .obtain ⟨z0,z1⟩:=jgV hl hz;have k0:yb (yo t)=true:=hk _ (by rw[KU hl];simp);have k1:yb (ql t)=true:=hk _ (by rw[KU hl];simp);have s0:=J0 _ k0 (by omega);have s1:=J0 _ k1 (by omega);have i0:=z7 _ k0 (by omega);have i1:=z7 _ k1 (by omega);have l0:=qb (yo t);have l1:=qb (ql t);have a1:=qh false (x:=jq (yo t)) (y:=[32,61,32]) (by simp only[List.length_cons,List.length_nil];omega);have a2:=qh false (x:=jq (yo t)++[32,61,32]) (y:=jq (ql t)) (by simp only[List.length_append,List.length_cons,List.length_nil];omega);have x0:ji 2 (zh t.args) (vi 0)=some (.elt (jl (yo t)) 0):=by rw[KU hl];exact jc (xs:=[yo t,ql t]) (i:=0) (by simp)
  have x1:ji 2 (zh t.args) (vi 1)=some (.elt (jl (ql t)) 0):=by rw[KU hl];exact jc (xs:=[yo t,ql t]) (i:=1) (by simp)
  have e0:=z8 t;rw[decide_eq_true hn]at e0;rw[jqm hn hl];refine⟨?_,?_⟩
  .rw [g99];simp only[jo,hn,x0,x1,js,s0,s1,a1,a2]
  .rw [g83];simp only[jo,e0,x0,x1,js,i0,i1,a1,a2]
 .exact ⟨J0 t hk (by omega),z7 t hk (by omega)⟩
theorem ZC{l:Lt}(hb:Bx l.2)(hz:tsz l.2<=300):G 57 [ltm l]=some (sv (jJ l),[])/\G 50 [ltm l]=some (sv (jJ l),[])/\(jJ l).length<=4000/\jJ l≠ []:=by
 obtain⟨s,t⟩:=l;have hb:Bx t:=hb;have hz:tsz t<=300:=hz;obtain⟨e1,e2⟩:=jjg hb hz;have hl:=qb t;have e0:=z8 t;have hnn:jq t≠ []:=by
  rw[ZE];unfold cmb;rcases hb with⟨hn,_,_⟩|⟨hs,hk⟩
  .rw [if_pos hn];simp
  .have hne:t.name≠ []:=λe=>by rw[e]at hs;revert hs;decide
   rw[if_neg (jk7 hk)];split
   .exact hne
   .simp
 unfold jJ;cases s with
 |true=>
  refine⟨?_,?_,by show(jq t).length<=4000;omega,hnn⟩
  .rw [g57];simp only[jo,e1]
  .rw [g50];simp only[jo,e2]
 |false=>
  by_cases hn:t.name=[61]
  .obtain ⟨hla,hk⟩:t.args.length=2/\ ∀u∈t.args,yb u=true:=by
    rcases hb with h|h
    .exact h.2
    .exact absurd hn (jk7 h.2)
   obtain⟨z0,z1⟩:=jgV hla hz;have k0:yb (yo t)=true:=hk _ (by rw[KU hla];simp);have k1:yb (ql t)=true:=hk _ (by rw[KU hla];simp);have s0:=J0 _ k0 (by omega);have s1:=J0 _ k1 (by omega);have i0:=z7 _ k0 (by omega);have i1:=z7 _ k1 (by omega);have l0:=qb (yo t);have l1:=qb (ql t);have a1:=qh false (x:=jq (yo t)) (y:=[32,33,61,32]) (by simp only[List.length_cons,List.length_nil];omega);have a2:=qh false (x:=jq (yo t)++[32,33,61,32]) (y:=jq (ql t)) (by simp only[List.length_append,List.length_cons,List.length_nil];omega);have x0:ji 2 (zh t.args) (vi 0)=some (.elt (jl (yo t)) 0):=by rw[KU hla];exact jc (xs:=[yo t,ql t]) (i:=0) (by simp)
   have x1:ji 2 (zh t.args) (vi 1)=some (.elt (jl (ql t)) 0):=by rw[KU hla];exact jc (xs:=[yo t,ql t]) (i:=1) (by simp)
   rw[decide_eq_true hn]at e0;have hf:(if(false,t).1=true then jq t else if(false,t).2.name=[61]then jq (yo (false,t).2)++[32,33,61,32]++jq (ql (false,t).2)else[126]++jq (false,t).2)=jq (yo t)++[32,33,61,32]++jq (ql t):=by
    rw[if_neg Bool.false_ne_true];exact if_pos hn
   rw[hf];refine⟨?_,?_,by simp only[List.length_append,List.length_cons,List.length_nil];omega,by simp⟩
   .rw [g57];simp only[jo,hn,x0,x1,js,s0,s1,a1,a2]
   .rw [g50];simp only[jo,e0,x0,x1,js,i0,i1,a1,a2]
  .have a1:=qh false (x:=[126]) (y:=jq t) (by simp only[List.length_cons,List.length_nil];omega)
   rw[decide_eq_false hn]at e0;have hf:(if(false,t).1=true then jq t else if(false,t).2.name=[61]then jq (yo (false,t).2)++[32,33,61,32]++jq (ql (false,t).2)else[126]++jq (false,t).2)=[126]++jq t:=by
    rw[if_neg Bool.false_ne_true];exact if_neg hn
   rw[hf];refine⟨?_,?_,by simp only[List.length_append,List.length_cons,List.length_nil];omega,by simp⟩
   .rw [g57];simp only[jo,hn,e1,a1]
   .rw [g50];simp only[jo,e0,e2,a1]
def Zi(sep:Xb)(xs:Xa)(i:Nat):Xb:=Lib.join (xs.take i) sep
theorem jey(sep:Xb)(xs:Xa)(i:Nat)(h:i<xs.length):Zi sep xs (i+1)=(if i=0 then Zi sep xs i else Zi sep xs i++sep)++xs[i]:=by
 unfold Zi;rw[jd9 sep xs i h];by_cases h0:i=0
 .subst h0;simp[Lib.join_nil]
 .rw [if_neg h0,if_neg h0]
theorem Zj(sep:Xb)(c k:Nat)(hs:sep.length<=c)(xs:Xa)(hx:∀x∈xs,x.length<=k)(i:Nat):(Zi sep xs i).length<=(k+c)*xs.length:=by
 have h1:=ZI sep c hs (xs.take i);have h2:=jiG (λx=>x.length+c) xs i;have h3:∀xs:Xa,(∀x∈xs,x.length<=k)->(xs.map λx=>x.length+c).sum<=(k+c)*xs.length:=by
  intro xs;induction xs with
  |nil=>intro _;simp
  |cons x xs ih=>
   intro h;have a:=h x (by simp);have b:=ih λy hy=>h y (by simp[hy]);rw[List.map_cons,List.sum_cons,List.length_cons,Nat.mul_succ];omega
 have:=h3 xs hx;unfold Zi;omega
theorem jhK{c:kW}(hc:CN c):G 25 [cm c]=some (sv (fmtC c),[]):=by
 have h8:=hc.1;have ok:∀l∈c,_:=λl hl=>ZC (hc.2 l hl).1 (JV (hc.2 l hl).1 (hc.2 l hl).2);have hpl:=λi=>Zj [32,124,32] 3 4000 (by decide) (c.map jJ) (λx hx=>by obtain⟨l,hl,rfl⟩:=List.mem_map.1 hx;exact(ok l hl).2.2.1) i;rw[List.length_map]at hpl;have key:=upto (n:=c.length) (P:=λi=>jbJ (sv (Zi [32,124,32] (c.map jJ) i)) (vi (i:Nat)) (.sl 3 (c.map kA))=some (sv (fmtC c),[])) ?_ ?_ 0 (Nat.zero_le _)
 .simp only[Int.natCast_zero]at key;have key:jbJ (sv []) (vi 0) (.sl 3 (c.map kA))=some (sv (fmtC c),[]):=key;rw[g25];simp only[jo,key]
 .have nlt:¬((c.length:Nat):Int)<((c.length:Nat):Int):=by omega
  rw[jrO];unfold Zi fmtC;rw[List.take_of_length_le (by simp)];by_cases h0:c=[]
  .subst h0;rw[if_pos rfl];simp only[jo,Lib.join_nil,List.map_nil]
  .have hne:Lib.join (c.map jJ) [32,124,32]≠ []:=jfP (by simpa using h0) λx hx=>by obtain⟨l,hl,rfl⟩:=List.mem_map.1 hx;exact(ok l hl).2.2.2
   rw[if_neg h0];generalize Lib.join (c.map jJ) [32,124,32]=X at *;simp only[jo,nlt,hne]
 .intro i hi ihi;have hlt:(i:Int)<((c.length:Nat):Int):=by omega
  have h5:=jx hi (by show c.length<=9223372036854775807;omega)
  have hm:=List.getElem_mem hi;obtain⟨e,_,hl2,_⟩:=ok _ hm;have x1:ji 3 (.sl 3 (c.map kA)) (vi (i:Nat))=some (.elt (kA c[i]) 0):=jc hi;have hp:=jey [32,124,32] (c.map jJ) i (by rw[List.length_map];exact hi);have hl:=hpl i;rw[List.getElem_map]at hp;rw[hp]at ihi;generalize c[i]=u at e x1 ihi hl2;rw[jrO];by_cases h0:i=0
  .subst h0;rw[if_pos rfl]at ihi;generalize Zi [32,124,32] (c.map jJ) 0=X at *;have a2:=qh false (x:=X) (y:=jJ u) (by omega);have ihi:jbJ (sv (X++jJ u)) (vi ((0+1:Nat):Int)) (.sl 3 (c.map kA))=some (sv (fmtC c),[]):=ihi;have z0:((0:Nat):Int)=0:=rfl;rw[z0]at hlt x1 h5⊢;simp only[jo,hlt,x1,ZN,e,a2,h5,ihi]
  .have h0':(0:Int)<(i:Int):=by omega
   rw[if_neg h0]at ihi;generalize Zi [32,124,32] (c.map jJ) i=X at *;have a1:=qh false (x:=X) (y:=[32,124,32]) (by simp only[List.length_cons,List.length_nil];omega);have a2:=qh false (x:=X++[32,124,32]) (y:=jJ u) (by simp only[List.length_append,List.length_cons,List.length_nil];omega);simp only[jo,hlt,h0',a1,x1,ZN,e,a2,h5,ihi]
theorem jbc{c:kW}(hc:CN c):G 20 [cm c]=some (sv (fmtC c),[]):=by
 have h8:=hc.1;have ok:∀l∈c,_:=λl hl=>ZC (hc.2 l hl).1 (JV (hc.2 l hl).1 (hc.2 l hl).2);have hpl:=Zj [32,124,32] 3 4000 (by decide) (c.map jJ) (λx hx=>by obtain⟨l,hl,rfl⟩:=List.mem_map.1 hx;exact(ok l hl).2.2.1) c.length;rw[List.length_map]at hpl;unfold Zi at hpl;rw[List.take_of_length_le (by simp)]at hpl;have key:=upto (n:=c.length) (P:=λi=>jkh (.sl 3 (c.map kA)) (vi (c.length:Nat)) (vi (i:Nat)) (((c.take i).map jJ).map cs)=some (sv (Lib.join (c.map jJ) [32,124,32]),[])) ?_ ?_ 0 (Nat.zero_le _)
 .simp only[Int.natCast_zero,List.take_zero,List.map_nil]at key;rw[g20];unfold fmtC;by_cases h0:c=[]
  .subst h0;rw[if_pos rfl];simp only[jo,List.map_nil,Int.natCast_zero]
  .have h0':¬((c.length:Nat):Int)=0:=λe=>h0 (List.eq_nil_of_length_eq_zero (by omega));rw[if_neg h0];simp only[jo,h0',key]
 .have nlt:¬((c.length:Nat):Int)<((c.length:Nat):Int):=by omega
  have j1:=jcl (c.map jJ) [32,124,32] (by rw[List.length_map];omega) (by omega)
  rw[List.take_length,jrM];generalize c.map jJ=xs at *;simp only[jo,nlt,j1,jb7]
 .intro i hi ihi;have hlt:(i:Int)<((c.length:Nat):Int):=by omega
  have h5:=jx hi (by show c.length<=9223372036854775807;omega)
  have hm:=List.getElem_mem hi;obtain⟨_,e,_,_⟩:=ok _ hm;have x1:ji 3 (.sl 3 (c.map kA)) (vi (i:Nat))=some (.elt (kA c[i]) 0):=jc hi;have f1:zq ((((c.take i).map jJ).map cs).length+1) 16=true:=jh4 (by rw[List.length_map,List.length_map,List.length_take];omega);rw[List.take_succ_eq_append_getElem hi,List.map_append,List.map_cons,List.map_nil,<-jbO]at ihi;generalize c[i]=u at e x1 ihi;generalize ((c.take i).map jJ).map cs=R at *;have e:G 50 [.agg [vb u.1,sv u.2.name,zh u.2.args]]=some (sv (jJ u),[]):=e;rw[jrM];simp only[jo,hlt,x1,ZN,e,f1,h5,ihi]
def listed(l:Xi):Bool:=l.all (ym 0 99) && decide (l.length<=12)
theorem Km{x:Int}(h:ym 0 99 x=true):∃n:Nat,x=(n:Nat)/\n<=99:=by
 unfold ym at h;rw[Bool.and_eq_true,decide_eq_true_eq,decide_eq_true_eq]at h;exact⟨x.toNat,by omega,by omega⟩
theorem Yg(l:Xi)(hl:l.length<=1048576):G 65 [ints l]=some (vb (listed l),[]):=by
 have key:=upto (n:=l.length) (P:=λi=>jkn (ints l) (vi (i:Nat))=some (vb ((l.drop i).all (ym 0 99) && decide (l.length<=12)),[])) ?_ ?_ 0 (Nat.zero_le _)
 .simp only[Int.natCast_zero,List.drop_zero]at key;rw[g65];exact key
 .have nlt:¬((l.length:Nat):Int)<((l.length:Nat):Int):=by omega
  have e:decide (((l.length:Nat):Int)<=12)=decide (l.length<=12):=by congr 1;exact propext (by omega)
  rw[jrS,List.drop_length,List.all_nil,Bool.true_and,<-e];simp only[jo,nlt]
 .intro i hi ihi;have hlt:(i:Int)<((l.length:Nat):Int):=by omega
  have h5:=jx hi (by show l.length<=9223372036854775807;omega)
  have x1:ji 1 (ints l) (vi (i:Nat))=some (.elt (ci l[i]) 0):=jc hi;have e:=qF l[i] 0 99;rw[jC hi,List.all_cons,jrS];generalize l[i]=x at *;cases h:ym 0 99 x<;>rw[h]at e
  .rw [Bool.false_and,Bool.false_and];simp only[jo,hlt,x1,ldI,e]
  .rw [Bool.true_and];simp only[jo,hlt,x1,ldI,e,h5,ihi]
theorem jfN(x:Int):G 109 [vi x]=some (vb (!ym 0 99 x),[]):=by
 have e:=qR x 0 99;rw[jwb];simp only[jo,e]
theorem jaO(l:Xi)(hl:l.length<=1048576):G 70 [ints l]=some (vb (listed l),[]):=by
 have key:=upto (n:=l.length) (P:=λi=>∃k:Int,jfk (ints l) (.fn 109 []) (vi (l.length:Nat)) (vi (i:Nat))=some (vi k,[])/\decide (0<=k)=!(l.drop i).all (ym 0 99)) ?_ ?_ 0 (Nat.zero_le _)
 .simp only[Int.natCast_zero,List.drop_zero]at key;obtain⟨k,k1,k2⟩:=key;have e2:G 147 [ints l,.fn 109 []]=some (vi k,[]):=by
   rw[jwr];simp only[jo,k1]
  have e3:G 108 [ints l,.fn 109 []]=some (vb (!l.all (ym 0 99)),[]):=by
   rw[jwa];simp only[jo,e2,k2]
  unfold listed;rw[g70];by_cases h:((l.length:Nat):Int)<=12
  .rw [decide_eq_true (p:=l.length<=12) (by omega),Bool.and_true];generalize l.all (ym 0 99)=b at *;have okn:kj (ints l)=true:=rfl;cases b<;>simp only[jo,h,e3]
  .rw [decide_eq_false (p:=l.length<=12) (by omega),Bool.and_false];simp only[jo,h]
 .refine ⟨-1,?_,?_⟩
  .rw [jol];simp only[jo]
  .rw [List.drop_length];rfl
 .intro i hi ⟨k,ih1,ih2⟩;have hlt:(i:Int)<((l.length:Nat):Int):=by omega
  have h5:=jx hi (by show l.length<=9223372036854775807;omega)
  have x1:ji 1 (ints l) (vi (i:Nat))=some (.elt (ci l[i]) 0):=jc hi;have e:=jfN l[i];have hp:K.pureF 109=true:=rfl;have cc:DX.run K (MM K) (.callc (.fn 109 []) [vi l[i]] false)=some (vb (!ym 0 99 l[i])):=by
   rw[KZ hp,List.append_nil,e];rfl
  rw[jol,jC hi,List.all_cons];generalize l[i]=x at *;cases hb:ym 0 99 x<;>rw[hb]at cc
  .refine ⟨(i:Nat),?_,?_⟩
   .simp only[jo,hlt,x1,ldI,cc]
   .rw [decide_eq_true (by omega)];rfl
  .refine ⟨k,?_,?_⟩
   .simp only[jo,hlt,x1,ldI,cc,h5,ih1]
   .rw [ih2,Bool.true_and]
abbrev dg(n:Int):Xb:=Lib.decDigits n.toNat
theorem ji7{x:Int}(h:ym 0 99 x=true):(dg x).length<=7:=by
 obtain⟨n,rfl,hn⟩:=Km h;show(Lib.decDigits (((n:Nat):Int).toNat)).length<=7;rw[Int.toNat_natCast];exact(qA 6 n (by omega)).2
theorem jrC(x:Int):dg x≠ []:=by
 show Lib.decDigits _≠ [];rw[Lib.decDigits];split<;>simp
theorem kZ{l:Xi}(h:listed l=true):l.length<=12/\ ∀x∈l,ym 0 99 x=true:=by
 unfold listed at h;rw[Bool.and_eq_true,decide_eq_true_eq,List.all_eq_true]at h;exact⟨h.2,h.1⟩
theorem joE{x:Int}(h:ym 0 99 x=true):G 47 [vi x]=some (sv (dg x),[])/\G 107 [vi x]=some (sv (dg x),[]):=by
 obtain⟨n,rfl,hn⟩:=Km h;show _=some (sv (Lib.decDigits (((n:Nat):Int).toNat)),[])/\_=some (sv (Lib.decDigits (((n:Nat):Int).toNat)),[]);rw[Int.toNat_natCast];exact⟨jjp n (by omega),juv n (by omega)⟩
theorem jhj{l:Xi}(h:listed l=true):(Lib.join (l.map dg) [44]).length<=96:=by
 obtain⟨h1,h2⟩:=kZ h;have:=Zj [44] 1 7 (by decide) (l.map dg) (λx hx=>by obtain⟨y,hy,rfl⟩:=List.mem_map.1 hx;exact ji7 (h2 y hy)) l.length;unfold Zi at this;rw[List.take_of_length_le (by simp),List.length_map]at this;omega
theorem jcu{l:Xi}(h:listed l=true):G 66 [ints l]=some (sv (kR l),[]):=by
 obtain⟨h1,h2⟩:=kZ h;have hpl:=λi=>Zj [44] 1 7 (by decide) (l.map dg) (λx hx=>by obtain⟨y,hy,rfl⟩:=List.mem_map.1 hx;exact ji7 (h2 y hy)) i;rw[List.length_map]at hpl;have key:=upto (n:=l.length) (P:=λi=>jbK (ints l) (sv (Zi [44] (l.map dg) i)) (vi (i:Nat))=some (sv (kR l),[])) ?_ ?_ 0 (Nat.zero_le _)
 .simp only[Int.natCast_zero]at key;have key:jbK (ints l) (sv []) (vi 0)=some (sv (kR l),[]):=key;rw[g66];simp only[jo,key]
 .have nlt:¬((l.length:Nat):Int)<((l.length:Nat):Int):=by omega
  rw[jrT];unfold Zi kR;rw[List.take_of_length_le (by simp)];by_cases h0:l=[]
  .subst h0;rw[if_pos rfl];simp only[jo,Lib.join_nil,List.map_nil]
  .have hne:Lib.join (l.map dg) [44]≠ []:=jfP (by simpa using h0) λx hx=>by obtain⟨y,hy,rfl⟩:=List.mem_map.1 hx;exact jrC y
   rw[if_neg h0];show _=some (sv (Lib.join (l.map dg) [44]),[]);generalize Lib.join (l.map dg) [44]=X at *;simp only[jo,nlt,hne]
 .intro i hi ihi;have hlt:(i:Int)<((l.length:Nat):Int):=by omega
  have h5:=jx hi (by show l.length<=9223372036854775807;omega)
  have hm:=List.getElem_mem hi;have e:=(joE (h2 _ hm)).1;have hl2:=ji7 (h2 _ hm);have x1:ji 1 (ints l) (vi (i:Nat))=some (.elt (ci l[i]) 0):=jc hi;have hp:=jey [44] (l.map dg) i (by rw[List.length_map];exact hi);have hl:=hpl i;rw[List.getElem_map]at hp;rw[hp]at ihi;generalize l[i]=u at e x1 ihi hl2;generalize dg u=D at *;rw[jrT];by_cases h0:i=0
  .subst h0;rw[if_pos rfl]at ihi;generalize Zi [44] (l.map dg) 0=X at *;have a2:=qh false (x:=X) (y:=D) (by omega);have ihi:jbK (ints l) (sv (X++D)) (vi ((0+1:Nat):Int))=some (sv (kR l),[]):=ihi;have z0:((0:Nat):Int)=0:=rfl;rw[z0]at hlt x1 h5⊢;simp only[jo,hlt,x1,ldI,e,a2,h5,ihi]
  .have h0':(0:Int)<(i:Int):=by omega
   rw[if_neg h0]at ihi;generalize Zi [44] (l.map dg) i=X at *;have a1:=qh false (x:=X) (y:=[44]) (by simp only[List.length_cons,List.length_nil];omega);have a2:=qh false (x:=X++[44]) (y:=D) (by simp only[List.length_append,List.length_cons,List.length_nil];omega);simp only[jo,hlt,h0',a1,x1,ldI,e,a2,h5,ihi]
theorem Zf{l:Xi}(h:listed l=true):G 71 [ints l]=some (sv (kR l),[]):=by
 obtain⟨h1,h2⟩:=kZ h;have hpl:=jhj h;have key:=upto (n:=l.length) (P:=λi=>jko (ints l) (vi (l.length:Nat)) (vi (i:Nat)) (((l.take i).map dg).map cs)=some (sv (Lib.join (l.map dg) [44]),[])) ?_ ?_ 0 (Nat.zero_le _)
 .simp only[Int.natCast_zero,List.take_zero,List.map_nil]at key;rw[g71];unfold kR;by_cases h0:l=[]
  .subst h0;rw[if_pos rfl];simp only[jo,List.map_nil,Int.natCast_zero]
  .have h0':¬((l.length:Nat):Int)=0:=λe=>h0 (List.eq_nil_of_length_eq_zero (by omega));rw[if_neg h0];simp only[jo,h0',key]
 .have nlt:¬((l.length:Nat):Int)<((l.length:Nat):Int):=by omega
  have j1:=jcl (l.map dg) [44] (by rw[List.length_map];omega) (by omega)
  rw[List.take_length,jrU];generalize l.map dg=xs at *;simp only[jo,nlt,j1,jb7]
 .intro i hi ihi;have hlt:(i:Int)<((l.length:Nat):Int):=by omega
  have h5:=jx hi (by show l.length<=9223372036854775807;omega)
  have hm:=List.getElem_mem hi;have e:=(joE (h2 _ hm)).2;have x1:ji 1 (ints l) (vi (i:Nat))=some (.elt (ci l[i]) 0):=jc hi;have f1:zq ((((l.take i).map dg).map cs).length+1) 16=true:=jh4 (by rw[List.length_map,List.length_map,List.length_take];omega);rw[List.take_succ_eq_append_getElem hi,List.map_append,List.map_cons,List.map_nil,<-jbO]at ihi;generalize l[i]=u at e x1 ihi;generalize ((l.take i).map dg).map cs=R at *;generalize dg u=D at *;rw[jrU];simp only[jo,hlt,x1,ldI,e,f1,h5,ihi]
def RL:Xa:=[[],[105,110,112,117,116],[114,101,115,111,108,118,101],[102,97,99,116,111,114],[115,117,112,101,114,112,111,115,101],[114,101,102,108,101,120,105,118,101],[114,101,119,114,105,116,101]]
theorem QI:G 37 []=some (.sl 1 (RL.map cs),[]):=g37
theorem jaU:G 32 []=some (.sl 1 (RL.map cs),[]):=g32
theorem ZD{l:Xi}(h:listed l=true):(kR l).length<=96:=by
 have:=jhj h;unfold kR;split
 .decide
 .exact this
theorem jnW{c:kW}(hc:CN c):(fmtC c).length<=40000:=by
 have h8:=hc.1;have:=Zj [32,124,32] 3 4000 (by decide) (c.map jJ) (λx hx=>by obtain⟨l,hl,rfl⟩:=List.mem_map.1 hx;exact(ZC (hc.2 l hl).1 (JV (hc.2 l hl).1 (hc.2 l hl).2)).2.2.1) c.length;unfold Zi at this;rw[List.take_of_length_le (by simp),List.length_map]at this;unfold fmtC;split
 .decide
 .omega
def jN(s:Stp):Bool:=ym 1 6 s.rule && (listed s.par && (listed s.whr && ko s.cls))
def jio(r:Int):Xb:=RL.getD r.toNat []
def kD(s:Stp):Xb:=jio s.rule++[32]++kR s.par++[32,97,116,32]++kR s.whr++[58,32]++fmtC s.cls
theorem Yc(s:Stp)(hp:s.par.length<=1048576)(hw:s.whr.length<=1048576)(hc:s.cls.length<=1048576)(hz:∀l∈s.cls,Tz l.2):G 39 [stm s]=some (.tup [sv (if jN s=true then kD s else[]),vb (jN s)],[])/\G 34 [stm s]=some (.tup [sv (if jN s=true then kD s else[]),vb (jN s)],[]):=by
 have p1:=qR s.rule 1 6;have q1:=qF s.rule 1 6;have p2:=jaO s.par hp;have q2:=Yg s.par hp;have p3:=jaO s.whr hw;have q3:=Yg s.whr hw;have p4:=JX s.cls hc hz;have q4:=jek s.cls hc hz;cases h1:ym 1 6 s.rule<;>rw[h1]at p1 q1
 .have hv:jN s=false:=by unfold jN;rw[h1];rfl
  rw[hv,if_neg Bool.false_ne_true];refine⟨?_,?_⟩
  .rw [g39];simp only[jo,p1]
  .rw [g34];simp only[jo,q1]
 cases h2:listed s.par<;>rw[h2]at p2 q2
 .have hv:jN s=false:=by unfold jN;rw[h1,h2];rfl
  rw[hv,if_neg Bool.false_ne_true];refine⟨?_,?_⟩
  .rw [g39];simp only[jo,p1,p2]
  .rw [g34];simp only[jo,q1,q2]
 cases h3:listed s.whr<;>rw[h3]at p3 q3
 .have hv:jN s=false:=by unfold jN;rw[h1,h2,h3];rfl
  rw[hv,if_neg Bool.false_ne_true];refine⟨?_,?_⟩
  .rw [g39];simp only[jo,p1,p2,p3]
  .rw [g34];simp only[jo,q1,q2,q3]
 cases h4:ko s.cls<;>rw[h4]at p4 q4
 .have hv:jN s=false:=by unfold jN;rw[h1,h2,h3,h4];rfl
  rw[hv,if_neg Bool.false_ne_true];refine⟨?_,?_⟩
  .rw [g39];simp only[jo,p1,p2,p3,p4]
  .rw [g34];simp only[jo,q1,q2,q3,q4]
 have hcn:=(KE h4).1;obtain⟨k,hk,hk7⟩:∃k:Nat,s.rule=(k:Nat)/\k<RL.length:=by
  unfold ym at h1;rw[Bool.and_eq_true,decide_eq_true_eq,decide_eq_true_eq]at h1;exact⟨s.rule.toNat,by omega,by show s.rule.toNat<7;omega⟩
 have x1:ji 1 (.sl 1 (RL.map cs)) (vi s.rule)=some (.elt (cs RL[k]) 0):=by rw[hk];exact jc hk7
 have hv:jN s=true:=by unfold jN;rw[h1,h2,h3,h4];rfl
 have hx:kD s=RL[k]++[32]++kR s.par++[32,97,116,32]++kR s.whr++[58,32]++fmtC s.cls:=by
  have:jio s.rule=RL[k]:=by unfold jio;rw[hk,Int.toNat_natCast,List.getD_eq_getElem?_getD,List.getElem?_eq_getElem hk7];rfl
  unfold kD;rw[this]
 rw[hv,if_pos rfl,hx];have hr:RL[k].length<=9:=(show ∀w∈RL,w.length<=9 by decide) _ (List.getElem_mem hk7);have r1:=QI;have r2:=jaU;have n1:=Zf h2;have m1:=jcu h2;have n2:=Zf h3;have m2:=jcu h3;have c1:=jbc hcn;have d1:=jhK hcn;have ln1:=ZD h2;have ln2:=ZD h3;have lc:=jnW hcn;generalize RL[k]=R at *;generalize kR s.par=N1 at *;generalize kR s.whr=N2 at *;generalize fmtC s.cls=C at *;have a1:=qh false (x:=R) (y:=[32]) (by simp only[List.length_cons,List.length_nil];omega);have a2:=qh false (x:=R++[32]) (y:=N1) (by simp only[List.length_append,List.length_cons,List.length_nil];omega);have a3:=qh false (x:=R++[32]++N1) (y:=[32,97,116,32]) (by simp only[List.length_append,List.length_cons,List.length_nil];omega);have a4:=qh false (x:=R++[32]++N1++[32,97,116,32]) (y:=N2) (by simp only[List.length_append,List.length_cons,List.length_nil];omega);have a5:=qh false (x:=R++[32]++N1++[32,97,116,32]++N2) (y:=[58,32]) (by simp only[List.length_append,List.length_cons,List.length_nil];omega);have a6:=qh false (x:=R++[32]++N1++[32,97,116,32]++N2++[58,32]) (y:=C) (by simp only[List.length_append,List.length_cons,List.length_nil];omega);refine⟨?_,?_⟩
 .rw [g39];simp only[jo,p1,p2,p3,p4,r1,x1,ldS,a1,n1,a2,a3,n2,a4,a5,c1,a6]
 .rw [g34];simp only[jo,q1,q2,q3,q4,r2,x1,ldS,a1,m1,a2,a3,m2,a4,a5,d1,a6]
theorem jrf{s:Xb}{a b:Nat}(h1:a<=b)(h2:b<=s.length):jX (sv s) (some (vi a)) (some (vi b))=some (sv ((s.take b).drop a)):=by
 show(if _ then _ else _)=_;rw[if_pos ⟨by omega,by omega,by show(b:Int)<=((s.length:Nat):Int);omega⟩];rfl
theorem jre{s:Xb}{b:Nat}(h2:b<=s.length):jX (sv s) none (some (vi b))=some (sv (s.take b)):=by
 show(if _ then _ else _)=_;rw[if_pos ⟨by omega,by omega,by show(b:Int)<=((s.length:Nat):Int);omega⟩];rfl
theorem jjW{s:Xb}{a:Nat}(h1:a<=s.length):jX (sv s) (some (vi a)) none=some (sv (s.drop a)):=by
 show(if _ then _ else _)=_;rw[if_pos ⟨by omega,by show(a:Int)<=((s.length:Nat):Int);omega,Int.le_refl _⟩];show some (sv ((s.take s.length).drop a))=_;rw[List.take_length]
theorem drop_at{s q:Xb}{i:Nat}{c:UInt8}(h:s.drop i=c::q):i<s.length/\s.drop (i+1)=q/\jK (sv s) (vi (i:Nat))=some (vy (c.toNat:Int)):=by
 have hl:i<s.length:=by
  rcases Nat.lt_or_ge i s.length with h'|h'
  .exact h'
  .rw [List.drop_eq_nil_of_le h']at h;cases h
 rw[jC hl]at h;obtain⟨h1,h2⟩:=List.cons.inj h;exact⟨hl,h2,by rw[yQ hl,h1]⟩
theorem jdT{i:Nat}(k:Nat)(h:i+k<=9223372036854775807):jw .add false (vi (i:Nat)) (vi (k:Nat))=some (vi ((i+k:Nat):Int)):=by
 rw[Jf,zo (by omega) (by omega),Int.natCast_add]
theorem je1{c k:UInt8}(h:¬c=k):¬(c.toNat:Int)=(k.toNat:Int):=λe=>h (UInt8.toNat_inj.1 (Int.ofNat.inj e))
theorem jae(c:UInt8):G 165 [vy (c.toNat:Int)]=some (vb (jH c),[]):=by
 have e1:=YA c;unfold jH upc ym;rw[jwF];cases hsm:kV c<;>rw[hsm]at e1
 .by_cases h:65<=(c.toNat:Int)<;>by_cases h2:(c.toNat:Int)<=90<;>simp only[jo,e1,h,h2,Bool.true_and,Bool.false_and,Bool.and_false,Bool.true_or,Bool.false_or]
 .simp only[jo,e1,Bool.true_or]
def RdS(s:Xb)(a:Nat):Prop:=∃(t:T)(e:Int),G 139 [sv s,vi (a:Nat)]=some (.tup [tm t,vi e],[])/\((∃r,rd (s.drop a)=some (t,r)/\ ∃k:Nat,e=k/\k<=s.length/\s.drop k=r)\/(rd (s.drop a)=none/\e = -1))
def LpS(s:Xb)(a:Nat):Prop:=∀(w:Xb)(us:Xg),us.length<=a-> ∃(t:T)(e:Int),jfj (sv s) (vi (a:Nat)) (sv []) (sv w) [] (us.map jl)=some (.tup [tm t,vi e],[])/\
 ((∃vs r,ra (s.drop (a+1))=some (vs,r)/\t = .mk w (us++vs)/\ ∃k:Nat,e=k/\k<=s.length/\s.drop k=r)\/(ra (s.drop (a+1))=none/\e = -1))
theorem jfa{s:Xb}(hs:s.length<=1048576)(a:A):∀(w r:Xb)(i:Nat),s.drop i=w++r->(∀c∈w,jH c=true)->QY (sv s) a (vi (i:Nat)) (sv []) []=QY (sv s) a (vi ((i+w.length:Nat):Int)) (sv []) []
 | [],r,i,_,_=>rfl
 |c::w,r,i,h,hw=>by
  obtain⟨hl,h2,hx⟩:=drop_at (c:=c) (q:=w++r) h;have hlt:((i:Nat):Int)<((s.length:Nat):Int):=by omega
  have e1:=jae c;rw[hw c (by simp)]at e1;have h5:=jx hl (by omega);have ih:=jfa hs a w r (i+1) h2 (λx hx=>hw x (by simp[hx]));rw[show i+1+w.length=i+(c::w).length by rw[List.length_cons];omega]at ih;rw[jcs];simp only[jo,hlt,hx,e1,h5];exact ih
theorem jrw(us:Xg)(t:T):J4 (us.map jl) [[sv t.name,.sl 2 (t.args.map jl)]]=(us++[t]).map jl:=by
 rw[List.map_append,List.map_cons,List.map_nil,j7];rfl
theorem jid{s:Xb}(hs:s.length<=1048576){a:Nat}(ha:a<=s.length)(ih:∀k,a<k->k<s.length->LpS s k):RdS s a:=by
 have e:=Zt (s.drop a);have hw:∀c∈(s.drop a).takeWhile jH,jH c=true:=λc hc=>List.all_eq_true.1 List.all_takeWhile c hc;have hr:∀c q,(s.drop a).dropWhile jH=c::q->jH c=false:=λc q h=>by
  have:=List.head?_dropWhile_not (p:=jH) (l:=s.drop a);rw[h]at this;simpa using this
 have hrd:=jse (s.drop a);generalize (s.drop a).takeWhile jH=w at *;generalize (s.drop a).dropWhile jH=r at *;have hl:s.length=a+(w.length+r.length):=by
  have:=congrArg List.length e;rw[List.length_append,List.length_drop]at this;omega
 have h1:=jfa hs (vi (a:Nat)) w r a e.symm hw;have hk:s.drop (a+w.length)=r:=by rw[<-List.drop_drop,<-e,List.drop_left]
 have hsl:=jrf (s:=s) (a:=a) (b:=a+w.length) (by omega) (by omega);have hsw:(s.take (a+w.length)).drop a=w:=by
  rw[List.drop_take,<-e,show a+w.length-a=w.length by omega,List.take_left]
 rw[hsw]at hsl;have hg:G 139 [sv s,vi (a:Nat)]=QY (sv s) (vi (a:Nat)) (vi ((a+w.length:Nat):Int)) (sv []) []:=by rw[jwq,h1]
 unfold RdS;rw[hg,hrd];by_cases hw0:w=[]
 .rw [if_pos hw0];subst hw0;refine⟨.mk [] [],-1,?_,Or.inr ⟨rfl,rfl⟩⟩;show _=some (A.tup [A.agg [sv [],.sl 2 []],vi (-1)],[]);rw[jcs];simp only[List.length_nil,Nat.add_zero]at hsl hk⊢;cases r with
  |nil=>
   have nlt:¬((a:Nat):Int)<((s.length:Nat):Int):=by simp at hl;omega
   simp only[jo,nlt,hsl,List.map_nil]
  |cons c q=>
   obtain⟨k1,k2,k3⟩:=drop_at hk;have hlt:((a:Nat):Int)<((s.length:Nat):Int):=by omega
   have e1:=jae c;rw[hr c q rfl]at e1;simp only[jo,hlt,k3,e1,hsl,List.map_nil]
 .have hwl:0<w.length:=by cases w with|nil=>exact absurd rfl hw0|cons=>simp
  have hne:¬((a+w.length:Nat):Int)=((a:Nat):Int):=by omega
  rw[if_neg hw0];cases r with
  |nil=>
   have hle:a+w.length=s.length:=by simp at hl;omega
   have nlt:¬((a+w.length:Nat):Int)<((s.length:Nat):Int):=by omega
   refine⟨.mk w [],((a+w.length:Nat):Int),?_,Or.inl ⟨[],rfl,a+w.length,rfl,by omega,hk⟩⟩;show _=some (A.tup [A.agg [sv w,.sl 2 []],vi ((a+w.length:Nat):Int)],[]);rw[hle]at nlt hsl hne⊢;rw[jcs];simp only[jo,nlt,hsl,hne,List.map_nil]
  |cons c q=>
   obtain⟨k1,k2,k3⟩:=drop_at hk;have hlt:((a+w.length:Nat):Int)<((s.length:Nat):Int):=by omega
   have hns:¬((a+w.length:Nat):Int)=((s.length:Nat):Int):=by omega
   have e1:=jae c;rw[hr c q rfl]at e1;simp only;by_cases hc:c=40
   .rw [if_pos hc];have hc':(c.toNat:Int)=40:=by rw[hc];rfl
    obtain⟨t,e,g1,g2⟩:=ih (a+w.length) (by omega) k1 w [] (Nat.zero_le _);refine⟨t,e,?_,?_⟩
    .rw [hc']at e1 k3;rw[<-g1,jcs];rw[List.map_nil];generalize ((a+w.length:Nat):Int)=z at *;simp only[jo,hlt,k3,e1,hsl,hne,hns,List.map_nil]
    .rw [k2]at g2;rcases g2 with⟨vs,r,g3,g4,g5⟩|⟨g3,g4⟩
     .exact Or.inl ⟨r,by rw[g3,g4];rfl,g5⟩
     .exact Or.inr ⟨by rw[g3];rfl,g4⟩
   .rw [if_neg hc];have hc':¬(c.toNat:Int)=40:=je1 hc;refine⟨.mk w [],((a+w.length:Nat):Int),?_,Or.inl ⟨c::q,rfl,a+w.length,rfl,by omega,hk⟩⟩;show _=some (A.tup [A.agg [sv w,.sl 2 []],vi ((a+w.length:Nat):Int)],[]);rw[jcs];generalize ((a+w.length:Nat):Int)=z at *;simp only[jo,hlt,k3,e1,hsl,hne,hns,hc',List.map_nil]
theorem jou{s:Xb}(hs:s.length<=1048576){a:Nat}(ha:a<s.length)(h1:RdS s (a+1))(ih:∀k,a<k->k<s.length->LpS s k):LpS s a:=by
 intro w us hu;obtain⟨t,e,g1,g2⟩:=h1;have h5:=jx ha (by omega);have hra:=jsc (s.drop (a+1));rcases g2 with⟨r,g3,k,rfl,k1,k2⟩|⟨g3,rfl⟩
 .rw [g3]at hra;have hnn:¬((k:Nat):Int)<0:=by omega
  have hak:a+1<k:=by
   have:=(Zl g3).2.2;rw[<-k2,List.length_drop,List.length_drop]at this;omega
  cases r with
  |nil=>
   refine⟨.mk w us,-1,?_,Or.inr ⟨hra,rfl⟩⟩;obtain rfl:k=s.length:=by
    have:=congrArg List.length k2;rw[List.length_drop]at this;simp at this;omega
   show _=some (A.tup [A.agg [sv w,.sl 2 (us.map jl)],vi (-1)],[]);rw[jct];generalize us.map jl=R at *;simp only[jo,h5,g1,hnn]
  |cons c q=>
   obtain⟨j1,j2,j3⟩:=drop_at k2;have hks:¬((k:Nat):Int)=((s.length:Nat):Int):=by omega
   have hf:zq ((us.map jl).length+1) 40=true:=juH (by rw[List.length_map];omega)
   have happ:=jrw us t;simp only at hra;by_cases h44:c=44
   .rw [if_pos h44]at hra;have hc:(c.toNat:Int)=44:=by rw[h44];rfl
    obtain⟨t',e',m1,m2⟩:=ih k (by omega) j1 w (us++[t]) (by rw[List.length_append,List.length_singleton];omega)
    rw[<-happ]at m1;refine⟨t',e',?_,?_⟩
    .rw [hc]at j3;rw[<-m1,jct];generalize us.map jl=R at *;simp only[jo,h5,g1,hnn,hks,j3,hf,show ¬(44:Int)=41 by decide]
    .rw [j2]at m2;rcases m2 with⟨vs,r,m3,m4,m5⟩|⟨m3,m4⟩
     .exact Or.inl ⟨t::vs,r,by rw[hra,m3];rfl,by rw[m4,List.append_assoc];rfl,m5⟩
     .exact Or.inr ⟨by rw[hra,m3];rfl,m4⟩
   .rw [if_neg h44]at hra;have hc:¬(c.toNat:Int)=44:=je1 h44;by_cases h41:c=41
    .rw [if_pos h41]at hra;have hc':(c.toNat:Int)=41:=by rw[h41];rfl
     have h6:=jx j1 (by omega);refine⟨.mk w (us++[t]),((k+1:Nat):Int),?_,Or.inl ⟨[t],q,hra,rfl,k+1,rfl,by omega,j2⟩⟩;show _=some (A.tup [A.agg [sv w,.sl 2 ((us++[t]).map jl)],_],[]);rw[hc']at j3;rw[jct,<-happ];generalize us.map jl=R at *;simp only[jo,h5,g1,hnn,hks,j3,hf,h6,show ¬(41:Int)=44 by decide]
    .rw [if_neg h41]at hra;have hc':¬(c.toNat:Int)=41:=je1 h41;refine⟨.mk w us,-1,?_,Or.inr ⟨hra,rfl⟩⟩;show _=some (A.tup [A.agg [sv w,.sl 2 (us.map jl)],vi (-1)],[]);rw[jct];generalize us.map jl=R at *;simp only[jo,h5,g1,hnn,hks,j3,hc,hc']
 .rw [g3]at hra;refine⟨.mk w us,-1,?_,Or.inr ⟨hra,rfl⟩⟩;have hn:(-1:Int)<0:=by decide
  show _=some (A.tup [A.agg [sv w,.sl 2 (us.map jl)],vi (-1)],[]);rw[jct];generalize us.map jl=R at *;simp only[jo,h5,g1,hn]
theorem jgk{s:Xb}(hs:s.length<=1048576):∀(n a:Nat),a<=s.length->s.length-a<=n->RdS s a/\(a<s.length->LpS s a)
 |0,a,h1,h2=>⟨jid hs h1 λk h3 h4=>by omega,λh=>by omega⟩
 |n+1,a,h1,h2=>by
  have ih:∀k,a<k->k<s.length->LpS s k:=λk h3 h4=>(jgk hs n k (by omega) (by omega)).2 h4;exact⟨jid hs h1 ih,λh=>jou hs h (jgk hs n (a+1) (by omega) (by omega)).1 ih⟩
theorem jlZ{s:Xb}(hs:s.length<=1048576){a:Nat}(ha:a<=s.length):RdS s a:=(jgk hs _ a ha (Nat.le_refl _)).1
def tO(o:Option T):T:=o.getD (.mk [] [])
theorem Kr{s:Xb}(hs:s.length<=1048576):G 103 [sv s]=some (.tup [tm (tO (whole s)),vb (whole s).isSome],[]):=by
 obtain⟨t,e,g1,g2⟩:=jlZ hs (Nat.zero_le _);rw[List.drop_zero]at g2;have g1:G 139 [sv s,vi 0]=_:=g1;unfold whole;rw[jv8];rcases g2 with⟨r,g3,k,rfl,k1,k2⟩|⟨g3,rfl⟩
 .rw [g3];have hz:=(Zl g3).2.1;cases r with
  |nil=>
   have hk:((k:Nat):Int)=((s.length:Nat):Int):=by
    have:=congrArg List.length k2;rw[List.length_drop]at this;simp at this;omega
   have e2:=jei t (jat t (by omega)) (by omega);simp only;cases hv:kC t<;>rw[hv]at e2
   .simp only[jo,g1,hk,e2];rfl
   .simp only[jo,g1,hk,e2];rfl
  |cons c q=>
   have hk:¬((k:Nat):Int)=((s.length:Nat):Int):=by have:=(drop_at k2).1;omega
   simp only[jo,g1,hk];rfl
 .rw [g3];have hk:¬(-1:Int)=((s.length:Nat):Int):=by omega
  simp only[jo,g1,hk];rfl
theorem jhL{s sign:Xb}(hs:s.length<=1048576)(h0:sign≠ [])(h4:sign.length<=9):∀(n i:Nat),s.length+1-i<=n->i<=s.length+1->Lib.NoOcc s sign i->jkm (sv s) (sv sign) (vi (i:Nat))=some (vi (Lib.index s sign),[]):=by
 have hp:0<sign.length:=by cases sign with|nil=>exact absurd rfl h0|cons=>simp
 intro n;induction n with
 |zero=>
  intro i hi hi2 hno;have a1:=jdT (i:=i) sign.length (by omega);have nle:¬((i+sign.length:Nat):Int)<=((s.length:Nat):Int):=by omega
  rw[Lib.index_past h0 hno (by omega),jkY];simp only[jo,a1,nle]
 |succ n ih=>
  intro i hi hi2 hno;have a1:=jdT (i:=i) sign.length (by omega);by_cases hle:i+sign.length<=s.length
  .have hle':((i+sign.length:Nat):Int)<=((s.length:Nat):Int):=by omega
   have e1:=jrf (s:=s) (a:=i) (b:=i+sign.length) (by omega) hle;have ho:=Lib.occAt_iff_take s sign i hle;rw[List.drop_take,show i+sign.length-i=sign.length by omega]at e1;by_cases he:(s.drop i).take sign.length=sign
   .rw [he]at ho e1;rw[Lib.index_hit hno (by omega) (by rw[ho];simp),jkY];simp only[jo,a1,hle',e1]
   .have ho2:Lib.occAt s sign i=false:=by rw[ho];simpa using he
    have h5:jw .add false (vi (i:Nat)) (vi 1)=some (vi ((i+1:Nat):Int)):=jdT 1 (by omega);have:=ih (i+1) (by omega) (by omega) (hno.succ ho2);rw[<-this,jkY];simp only[jo,a1,hle',e1,he,h5]
  .have nle:¬((i+sign.length:Nat):Int)<=((s.length:Nat):Int):=by omega
   rw[Lib.index_past h0 hno (by omega),jkY];simp only[jo,a1,nle]
theorem jej{s sign:Xb}(hs:s.length<=1048576)(h0:sign≠ [])(h4:sign.length<=9):G 61 [sv s,sv sign]=some (vi (Lib.index s sign),[]):=by
 rw[g61];exact jhL hs h0 h4 _ 0 (Nat.le_refl _) (by omega) (Lib.NoOcc.zero _ _)
theorem QR{s:Xb}(hs:s.length<=1048576):tsz (tO (whole s))<=s.length:=by
 unfold whole;split
 .rename_i t h;split
  .exact Nat.le_trans (Nat.le_add_right _ _) (Zl h).2.1
  .exact Nat.zero_le _
 .exact Nat.zero_le _
theorem Yh{s sign:Xb}(hs:s.length<=1048576)(h3:3<=sign.length)(h4:sign.length<=9):G 102 [sv s,sv sign]=some (.tup [tm (tO (jaa s sign)),vb (jaa s sign).isSome],[]):=by
 have h0:sign≠ []:=λh=>by rw[h]at h3;simp at h3
 have e1:=jej hs h0 h4;have hge:=Lib.index_ge s sign;unfold jaa;rw[jv7];by_cases hi:Lib.index s sign<0
 .rw [if_pos hi];generalize Lib.index s sign=z at *;show _=some (A.tup [A.agg [sv [],.sl 2 []],vb false],[]);simp only[jo,e1,hi]
 .rw [if_neg hi];obtain⟨i,hi2⟩:∃i:Nat,Lib.index s sign=i:=⟨(Lib.index s sign).toNat,by omega⟩;obtain⟨x,y,e,el⟩:=qZ hi2;have hl:s.length=i+sign.length+y.length:=by rw[e,List.length_append,List.length_append,el]
  rw[hi2]at e1 hi;rw[hi2,Int.toNat_natCast];have s1:=jre (s:=s) (b:=i) (by omega);have s2:=jjW (s:=s) (a:=i+sign.length) (by omega);have a1:=jdT (i:=i) sign.length (by omega);have hl1:(s.take i).length<=1048576:=by rw[List.length_take];omega
  have hl2:(s.drop (i+sign.length)).length<=1048576:=by rw[List.length_drop];omega
  have w1:=Kr hl1;have w2:=Kr hl2;have z1:=QR hl1;have z2:=QR hl2;rw[List.length_take]at z1;rw[List.length_drop]at z2;generalize s.take i=p at *;generalize s.drop (i+sign.length)=q at *;cases hp:whole p with
  |none=>
   rw[hp]at w1;have w1:G 103 [sv p]=some (.tup [A.agg [sv [],.sl 2 []],vb false],[]):=w1;show _=some (A.tup [A.agg [sv [],.sl 2 []],vb false],[]);simp only[jo,e1,hi,s1,w1,a1,s2,w2]
  |some a=>
   rw[hp]at w1 z1;have w1:G 103 [sv p]=some (.tup [tm a,vb true],[]):=w1;cases hq:whole q with
   |none=>
    rw[hq]at w2;have w2:G 103 [sv q]=some (.tup [A.agg [sv [],.sl 2 []],vb false],[]):=w2;show _=some (A.tup [A.agg [sv [],.sl 2 []],vb false],[]);simp only[jo,e1,hi,s1,w1,a1,s2,w2]
   |some b=>
    rw[hq]at w2 z2;have w2:G 103 [sv q]=some (.tup [tm b,vb true],[]):=w2;have hz:tsz (eqT a b)<=1048576:=by
     show tsz (.mk [61] [a,b])<=_;rw[jar];have z1:tsz a<=_:=z1;have z2:tsz b<=_:=z2;simp only[List.length_cons,List.length_nil,ya];omega
    have e2:=ZJ (eqT a b) (jat _ hz) hz;have e2:G 55 [.agg [sv [61],.sl 2 [[sv a.name,.sl 2 (a.args.map jl)],[sv b.name,.sl 2 (b.args.map jl)]]]]=some (vb (jO (eqT a b)),[]):=by
     rw[<-e2];show _=G _ [.agg [sv [61],.sl 2 [jl a,jl b]]];rw[j7 a,j7 b]
    simp only;cases hat:jO (eqT a b)<;>rw[hat]at e2
    .show _=some (A.tup [A.agg [sv [],.sl 2 []],vb false],[]);simp only[jo,e1,hi,s1,w1,a1,s2,w2,e2]
    .show _=some (A.tup [A.agg [sv [61],.sl 2 [jl a,jl b]],vb true],[]);rw[j7 a,j7 b];simp only[jo,e1,hi,s1,w1,a1,s2,w2,e2]
theorem jlY{s:Xb}(hs:s.length<=1048576):G 104 [sv s]=some (.tup [tm (tO (Y3 s)),vb (Y3 s).isSome],[]):=by
 have e1:=Yh (sign:=[32,61,32]) hs (by decide) (by decide);have e2:=Kr hs;have z:=QR hs;unfold Y3;rw[jv9];cases h1:jaa s [32,61,32]with
 |some t=>
  rw[h1]at e1;have e1:G 102 [sv s,sv [32,61,32]]=some (.tup [tm t,vb true],[]):=e1;show _=some (A.tup [tm t,vb true],[]);simp only[jo,e1]
 |none=>
  rw[h1]at e1;have e1:G 102 [sv s,sv [32,61,32]]=some (.tup [A.agg [sv [],.sl 2 []],vb false],[]):=e1;simp only;cases h2:whole s with
  |none=>
   rw[h2]at e2;have e2:G 103 [sv s]=some (.tup [A.agg [sv [],.sl 2 []],vb false],[]):=e2;show _=some (A.tup [A.agg [sv [],.sl 2 []],vb false],[]);simp only[jo,e1,e2]
  |some t=>
   rw[h2]at e2 z;have z:tsz t<=_:=z;have e2:G 103 [sv s]=some (.tup [tm t,vb true],[]):=e2;have e3:=ZJ t (jat _ (by omega)) (by omega);simp only;cases hat:jO t<;>rw[hat]at e3
   .show _=some (A.tup [A.agg [sv [],.sl 2 []],vb false],[]);simp only[jo,e1,e2,e3]
   .show _=some (A.tup [tm t,vb true],[]);simp only[jo,e1,e2,e3]
def lO(o:Option Lt):Lt:=o.getD (false,.mk [] [])
theorem JZ{s:Xb}(hs:s.length<=1048576):G 62 [sv s]=some (.tup [ltm (lO (zp s)),vb (zp s).isSome],[]):=by
 have e1:=Yh (sign:=[32,33,61,32]) hs (by decide) (by decide);unfold zp;rw[g62];cases h1:jaa s [32,33,61,32]with
 |some t=>
  rw[h1]at e1;have e1:G 102 [sv s,sv [32,33,61,32]]=some (.tup [tm t,vb true],[]):=e1;show _=some (A.tup [A.agg [vb false,sv t.name,.sl 2 (t.args.map jl)],vb true],[]);simp only[jo,e1]
 |none=>
  rw[h1]at e1;have e1:G 102 [sv s,sv [32,33,61,32]]=some (.tup [A.agg [sv [],.sl 2 []],vb false],[]):=e1;simp only;have e3:=jlY hs;cases s with
  |nil=>
   rw[if_neg (by simp)];cases h3:Y3 []with
   |none=>
    rw[h3]at e3;have e3:G 104 [sv []]=some (.tup [A.agg [sv [],.sl 2 []],vb false],[]):=e3;show _=some (A.tup [A.agg [vb false,sv [],.sl 2 []],vb false],[]);simp only[jo,e1,e3]
   |some t=>
    rw[h3]at e3;have e3:G 104 [sv []]=some (.tup [tm t,vb true],[]):=e3;show _=some (A.tup [A.agg [vb true,sv t.name,.sl 2 (t.args.map jl)],vb true],[]);simp only[jo,e1,e3]
  |cons c r=>
   have x0:=zj (c:=c) (l:=r);have hne:¬(c::r)=[]:=List.cons_ne_nil _ _;have e2:=Kr (s:=r) (by simp at hs;omega);have z:=QR (s:=r) (by simp at hs;omega);have s1:jX (sv (c::r)) (some (vi 1)) none=some (sv r):=jjW (s:=c::r) (a:=1) (by simp);have hrl:r.length<=1048576:=by simp at hs;omega
   by_cases hc:c=126
   .have hc':(c.toNat:Int)=126:=by rw[hc];rfl
    rw[if_pos (by rw[hc];rfl),List.drop_one,List.tail_cons]
    rw[hc']at x0;generalize c::r=s at *;cases h2:whole r with
    |none=>
     rw[h2]at e2;have e2:G 103 [sv r]=some (.tup [A.agg [sv [],.sl 2 []],vb false],[]):=e2;show _=some (A.tup [A.agg [vb false,sv [],.sl 2 []],vb false],[]);simp only[jo,e1,hne,x0,s1,e2]
    |some t=>
     rw[h2]at e2 z;have z:tsz t<=_:=z;have e2:G 103 [sv r]=some (.tup [tm t,vb true],[]):=e2;have e4:=ZJ t (jat _ (by omega)) (by omega);simp only;cases hat:jO t<;>rw[hat]at e4
     .show _=some (A.tup [A.agg [vb false,sv [],.sl 2 []],vb false],[]);simp only[jo,e1,hne,x0,s1,e2,e4]
     .show _=some (A.tup [A.agg [vb false,sv t.name,.sl 2 (t.args.map jl)],vb true],[]);simp only[jo,e1,hne,x0,s1,e2,e4]
   .have hc':¬(c.toNat:Int)=126:=je1 hc;rw[if_neg (by simpa using hc)];generalize c::r=s at *;cases h3:Y3 s with
    |none=>
     rw[h3]at e3;have e3:G 104 [sv s]=some (.tup [A.agg [sv [],.sl 2 []],vb false],[]):=e3;show _=some (A.tup [A.agg [vb false,sv [],.sl 2 []],vb false],[]);simp only[jo,e1,hne,x0,hc',e3]
    |some t=>
     rw[h3]at e3;have e3:G 104 [sv s]=some (.tup [tm t,vb true],[]):=e3;show _=some (A.tup [A.agg [vb true,sv t.name,.sl 2 (t.args.map jl)],vb true],[]);simp only[jo,e1,hne,x0,hc',e3]
theorem jfZ{s:Xb}{l:Lt}(h:zp s=some l):tsz l.2<=300:=by
 have:=(YB h).2;obtain⟨p,t⟩:=l;have ha:jO t=true:=this;show tsz t<=300;rcases qU ha with⟨a,b,rfl,ha,hb,hz⟩|⟨hn,hv⟩
 .have k1:=jah a (yG ha);have k2:=jah b (yG hb);rw[j5]at hz;have hz:1+(nodes a+(nodes b+0))<=30:=hz;show tsz (.mk [61] [a,b])<=300;rw[jar];simp only[List.length_cons,List.length_nil,ya];omega
 .have k:=jah t (yG hv);unfold kC kB at hv;rw[Bool.and_eq_true,Bool.and_eq_true,decide_eq_true_eq]at hv;have:=hv.1.1;omega
def cO(o:Option kW):kW:=o.getD []
theorem jr7{n:Nat}(h:n<=2000000):zq n 48=true:=by
 unfold zq;exact decide_eq_true ⟨by omega,by omega⟩
theorem jiW(c:kW)(l:Lt):J4 (c.map kA) [[vb l.1,sv l.2.name,.sl 2 (l.2.args.map jl)]]=(c++[l]).map kA:=by
 rw[List.map_append];rfl
def pcs(s:Xb):Option kW:=if s=[]then some []else Jt zp (Lib.split s ku)
def ends(c:kW):Option kW->Option kW
 |some d=>if ko (c++d)then some (c++d)else none
 |none=>none
theorem jqX{s:Xb}{i:Nat}(h:Lib.index s ku=i)(h0:¬s=[]):pcs s=match zp (s.take i)with
  |none=>none
  |some l=>if s.drop (i+3)=[]then none else(pcs (s.drop (i+3))).map λc=>l::c:=by
 unfold pcs;rw[if_neg h0,J7 h,Jt];cases zp (s.take i)with
 |none=>rfl
 |some l=>
  simp only;by_cases hd:s.drop (i+3)=[]
  .rw [if_pos hd,hd];rfl
  .rw [if_neg hd,if_neg hd]
theorem jo6{s:Xb}(h:Lib.index s ku = -1)(h0:¬s=[]):pcs s=match zp s with
  |none=>none
  |some l=>some [l]:=by
 unfold pcs;rw[if_neg h0,Jl h,Jt];cases zp s<;>rfl
theorem jb1(c:kW)(l:Lt)(o:Option kW):ends c (o.map λd=>l::d)=ends (c++[l]) o:=by
 cases o with
 |none=>rfl
 |some d=>show(if ko (c++l::d)=true then _ else _)=(if ko (c++[l]++d)=true then _ else _);rw[List.append_assoc];rfl
theorem jjN:∀(n:Nat)(s:Xb)(c:kW),s.length<=n->s.length<=1048576->c.length<=1000000->(s≠ []->2*c.length+s.length<=1048576)->(∀l∈c,tsz l.2<=300)->(s=[]->c≠ [])->
  jdP (sv s) [] (c.map kA)=some (.tup [cm (cO (ends c (pcs s))),vb (ends c (pcs s)).isSome],[]):=by
 intro n;induction n with
 |zero=>
  intro s c hn hs hc hcs hz hne;have h0:s=[]:=List.eq_nil_of_length_eq_zero (by omega);subst h0;have hcl:¬((c.length:Nat):Int)=0:=by
   have:=hne rfl;cases c with
   |nil=>exact absurd rfl this
   |cons=>simp only[List.length_cons];omega
  have e1:=jek c (by omega) (λl hl=>by have:=hz l hl;unfold Tz;omega)
  have e1:G 23 [.agg [.sl 3 (c.map kA)]]=some (vb (ko c),[]):=e1;have hr:ends c (pcs [])=if ko c then some c else none:=by
   show(if ko (c++[])=true then _ else _)=_;rw[List.append_nil]
  rw[hr,jcy];cases hv:ko c<;>rw[hv]at e1
  .show _=some (A.tup [A.agg [.sl 3 []],vb false],[]);generalize hR:c.map kA=R at *;have hcl:¬((R.length:Nat):Int)=0:=by rw[<-hR,List.length_map];exact hcl
   simp only[jo,hcl,e1]
  .show _=some (A.tup [A.agg [.sl 3 (c.map kA)],vb true],[]);generalize hR:c.map kA=R at *;have hcl:¬((R.length:Nat):Int)=0:=by rw[<-hR,List.length_map];exact hcl
   simp only[jo,hcl,e1]
 |succ n ih=>
  intro s c hn hs hc hcs hz hne;by_cases h0:s=[]
  .exact ih s c (by rw[h0];simp) hs hc hcs hz hne
  .have hcs:=hcs h0;have e1:=jej (sign:=ku) hs (by decide) (by decide);have e1:G 61 [sv s,sv [32,124,32]]=_:=e1;have hf:zq ((c.map kA).length+1) 48=true:=jr7 (by rw[List.length_map];omega);by_cases hi:Lib.index s ku<0
   .have hm:=Lib.index_ge s ku;rw[jo6 (by omega) h0];have hi':¬0<=Lib.index s ku:=by omega
    have e2:=JZ hs;generalize Lib.index s ku=z at *;cases h2:zp s with
    |none=>
     rw[h2]at e2;have e2:G 62 [sv s]=some (.tup [A.agg [vb false,sv [],.sl 2 []],vb false],[]):=e2;show _=some (A.tup [A.agg [.sl 3 []],vb false],[]);rw[jcy];simp only[jo,h0,e1,hi',e2]
    |some l=>
     rw[h2]at e2;have e2:G 62 [sv s]=some (.tup [ltm l,vb true],[]):=e2;have:=ih [] (c++[l]) (by simp) (by simp) (by rw[List.length_append,List.length_singleton];omega) (λh=>absurd rfl h) (λx hx=>by
      rcases List.mem_append.1 hx with hx|hx
      .exact hz x hx
      .rw [List.mem_singleton.1 hx];exact jfZ h2) (λ_=>by simp)
     rw[<-jiW]at this;show _=some (A.tup [cm (cO (ends c (some [l]))),vb (ends c (some [l])).isSome],[]);rw[show ends c (some [l])=ends (c++[l]) (pcs []) from jb1 c l (some []),<-this,jcy];generalize c.map kA=R at *;simp only[jo,h0,e1,hi',e2,hf]
   .obtain ⟨i,hi2⟩:∃i:Nat,Lib.index s ku=i:=⟨(Lib.index s ku).toNat,by omega⟩;obtain⟨x,y,e,el⟩:=qZ hi2;have hl:s.length=i+3+y.length:=by rw[e,List.length_append,List.length_append,el];rfl
    rw[jqX hi2 h0];rw[hi2]at e1;have hi':0<=((i:Nat):Int):=by omega
    have a1:jw .add false (vi (i:Nat)) (vi 3)=some (vi ((i+3:Nat):Int)):=jdT 3 (by omega);have s1:=jre (s:=s) (b:=i) (by omega);have s2:=jjW (s:=s) (a:=i+3) (by omega);have e2:=JZ (s:=s.take i) (by rw[List.length_take];omega);have hdl:(s.drop (i+3)).length=s.length-(i+3):=List.length_drop;generalize s.take i=p at *;generalize s.drop (i+3)=q at *;by_cases hq:q=[]
    .have hr:(match zp p with|none=>none|some l=>if q=[]then none else(pcs q).map λc=>l::c)=none:=by
      cases zp p with
      |none=>rfl
      |some l=>exact if_pos hq
     rw[hr];show _=some (A.tup [A.agg [.sl 3 []],vb false],[]);rw[jcy];simp only[jo,h0,e1,hi',a1,s1,s2,hq]
    .cases h2:zp p with
     |none=>
      rw[h2]at e2;have e2:G 62 [sv p]=some (.tup [A.agg [vb false,sv [],.sl 2 []],vb false],[]):=e2;show _=some (A.tup [A.agg [.sl 3 []],vb false],[]);rw[jcy];simp only[jo,h0,e1,hi',a1,s1,s2,hq,e2]
     |some l=>
      rw[h2]at e2;have e2:G 62 [sv p]=some (.tup [ltm l,vb true],[]):=e2;have:=ih q (c++[l]) (by omega) (by omega) (by rw[List.length_append,List.length_singleton];omega) (λ_=>by rw[List.length_append,List.length_singleton];omega) (λx hx=>by
       rcases List.mem_append.1 hx with hx|hx
       .exact hz x hx
       .rw [List.mem_singleton.1 hx];exact jfZ h2) (λh=>absurd h hq)
      rw[<-jiW]at this;simp only;rw[if_neg hq,jb1,<-this,jcy];generalize c.map kA=R at *;simp only[jo,h0,e1,hi',a1,s1,s2,hq,e2,hf]
theorem jbg{s:Xb}(hs:s.length<=1048576):G 30 [sv s]=some (.tup [cm (cO (clF zp s)),vb (clF zp s).isSome],[]):=by
 unfold clF;rw[g30];by_cases h1:s=jfF
 .have h1':s=[36,102,97,108,115,101]:=h1;rw[if_pos h1];show _=some (A.tup [A.agg [.sl 3 []],vb true],[]);simp only[jo,h1']
 .have h1':¬s=[36,102,97,108,115,101]:=h1;rw[if_neg h1];by_cases h0:s=[]
  .subst h0;show _=some (A.tup [A.agg [.sl 3 []],vb false],[]);have hn:¬([]:Xb)=[36,102,97,108,115,101]:=by decide
   have hl:jdP (sv []) [] []=some (A.tup [A.agg [.sl 3 []],vb false],[]):=by
    rw[jcy];have:((([]:Xc).length:Nat):Int)=0:=rfl;simp only[jo,this,Int.natCast_zero]
   simp only[jo,hn,hl]
  .have:=jjN s.length s [] (Nat.le_refl _) hs (by simp) (λ_=>by simp;exact hs) (λl h=>by cases h) (λh=>absurd h h0)
   have hp:pcs s=Jt zp (Lib.split s ku):=if_neg h0;rw[hp,List.map_nil]at this;have he:∀o:Option kW,ends [] o=match o with|some c=>if ko c then some c else none|none=>none:=λo=>by cases o<;>rfl
   rw[he]at this;refine Eq.trans ?_ this;simp only[jo,h1']
theorem jfK(x t:Xb):G 163 [sv x,sv t]=some (vb (t.isPrefixOf x),[]):=by
 have e1:G 176 [sv x,sv t]=some (vb (t.isPrefixOf x),[]):=by
  rw[jwI];by_cases h:t.length<=x.length
  .have h':((t.length:Nat):Int)<=((x.length:Nat):Int):=by omega
   have s1:=jre (s:=x) (b:=t.length) h;have e:decide (x.take t.length=t)=t.isPrefixOf x:=by
    have:=Lib.occAt_iff_take x t 0 (by omega);unfold Lib.occAt at this;rw[List.drop_zero]at this;rw[this];by_cases h:x.take t.length=t<;>simp[h]
   simp only[jo,h',s1,e]
  .have h':¬((t.length:Nat):Int)<=((x.length:Nat):Int):=by omega
   have e:t.isPrefixOf x=false:=by
    cases hp:t.isPrefixOf x with
    |false=>rfl
    |true=>exact absurd (List.isPrefixOf_iff_prefix.1 hp).length_le h
   simp only[jo,h',e]
 rw[jwD];simp only[jo,e1]
theorem jkN{s:Xb}(t:Xb){a:Nat}(ha:a<=s.length)(f:Bool):jfc (sv t) (sv s) (vi (a:Nat)) (vb f)=some (.top,[sv s,vi (a:Nat),vb f,vb (!f && t.isPrefixOf (s.drop a))]):=by
 have e1:=jfK (s.drop a) t;have s1:=jjW ha;rw[jsB];cases f<;>simp only[jo,s1,e1,Bool.true_and,Bool.false_and]
theorem qi{s t q:Xb}{a:Nat}(h:s.drop a=t++q)(hs:s.length<=1048576)(ha:a<=s.length):qv (sv t) (sv s) (vi (a:Nat)) (vb false)=some (.top,[sv s,vi ((a+t.length:Nat):Int),vb false,vb true])/\a+t.length<=s.length/\s.drop (a+t.length)=q:=by
 have hl:(s.drop a).length=t.length+q.length:=by rw[h,List.length_append]
 rw[List.length_drop]at hl;have e1:=jkN t ha false;rw[h,List.isPrefixOf_iff_prefix.2 ⟨q,rfl⟩]at e1;have e1:jfc (sv t) (sv s) (vi (a:Nat)) (vb false)=some (.top,[sv s,vi (a:Nat),vb false,vb true]):=e1;have a1:=jdT (i:=a) t.length (by omega);refine⟨?_,by omega,by rw[<-List.drop_drop,h,List.drop_left]⟩;rw[jry];simp only[jo,e1,a1,List.getElem?_cons_zero,List.getElem?_cons_succ]
theorem yv{s t:Xb}{a:Nat}{f:Bool}(h:f=true\/t.isPrefixOf (s.drop a)=false)(ha:a<=s.length):qv (sv t) (sv s) (vi (a:Nat)) (vb f)=some (.top,[sv s,vi (a:Nat),vb f,vb false]):=by
 have e1:=jkN t ha f;have:(!f && t.isPrefixOf (s.drop a))=false:=by
  rcases h with h|h
  .rw [h];rfl
  .rw [h,Bool.and_false]
 rw[this]at e1;rw[jry];simp only[jo,e1,List.getElem?_cons_zero,List.getElem?_cons_succ]
theorem jdu{s:Xb}(hs:s.length<=1048576)(x f:A):∀(w r:Xb)(i:Nat),s.drop i=w++r->(∀c∈w,jH c=true)->KR x (sv s) (vi (i:Nat)) f=KR x (sv s) (vi ((i+w.length:Nat):Int)) f
 | [],r,i,_,_=>rfl
 |c::w,r,i,h,hw=>by
  obtain⟨hl,h2,hx⟩:=drop_at (c:=c) (q:=w++r) h;have hlt:((i:Nat):Int)<((s.length:Nat):Int):=by omega
  have e1:=Ja c;have e2:=Jb c;have e3:=Kn c;have hc:=hw c (by simp);have h5:=jx hl (by omega);have ih:=jdu hs x f w r (i+1) h2 (λx hx=>hw x (by simp[hx]));rw[show i+1+w.length=i+(c::w).length by rw[List.length_cons];omega]at ih;unfold jH kV at hc;rw[jhJ];cases h1:Z5 c<;>cases h2:upc c<;>cases h3:ji9 c<;>rw[h1]at e1 hc<;>rw[h2]at e2 hc<;>rw[h3]at e3 hc
  .have h95:(c.toNat:Int)=95:=by simpa using hc
   simp only[jo,hlt,hx,e1,e2,e3,h5];simp only[jo,h95];exact ih
  all_goals
   simp only[jo,hlt,hx,e1,e2,e3,h5];exact ih
theorem jrr{s:Xb}(hs:s.length<=1048576){a:Nat}(ha:a<=s.length)(f:Bool)(w r:Xb)(e:w++r=s.drop a)(hw:∀c∈w,jH c=true)(hr:∀c q,r=c::q->jH c=false) :
  jfd (sv s) (vi (a:Nat)) (vb f)=some (.top,[sv s,vi ((a+w.length:Nat):Int),vb (f || decide (w=[])),sv (if f=true\/w=[]then[]else w)]):=by
 have hl:s.length=a+(w.length+r.length):=by
  have:=congrArg List.length e;rw[List.length_append,List.length_drop]at this;omega
 have hk:s.drop (a+w.length)=r:=by rw[<-List.drop_drop,<-e,List.drop_left]
 have hsl:=jrf (s:=s) (a:=a) (b:=a+w.length) (by omega) (by omega);rw[List.drop_take,<-e,show a+w.length-a=w.length by omega,List.take_left]at hsl;rw[jsC,jdu hs (vi (a:Nat)) (vb f) w r a e.symm hw,jhJ];have heq:decide (((a:Nat):Int)=((a+w.length:Nat):Int))=decide (w=[]):=by
  congr 1;refine propext ⟨λh=>List.eq_nil_of_length_eq_zero (by omega),λh=>by rw[h];simp⟩
 have hend:∀B:Xe,(B=(if f=true\/w=[]then some (.top,[sv s,vi ((a+w.length:Nat):Int),vb true,sv []])else some (.top,[sv s,vi ((a+w.length:Nat):Int),vb f,sv w])))->B=some (.top,[sv s,vi ((a+w.length:Nat):Int),vb (f || decide (w=[])),sv (if f=true\/w=[]then[]else w)]):=by
  intro B hB;rw[hB];by_cases h:f=true\/w=[]
  .rw [if_pos h,if_pos h];rcases h with h|h<;>simp[h]
  .rw [if_neg h,if_neg h];have:decide (w=[])=false:=decide_eq_false λe=>h (Or.inr e);rw[this,Bool.or_false]
 refine hend _ ?_;cases r with
 |nil=>
  have nlt:¬((a+w.length:Nat):Int)<((s.length:Nat):Int):=by simp at hl;omega
  generalize ((a+w.length:Nat):Int)=z at *;cases f
  .by_cases h0:w=[]
   .rw [decide_eq_true h0]at heq;have heq:=of_decide_eq_true heq;rw[if_pos (Or.inr h0)];simp only[jo,nlt,heq]
   .rw [decide_eq_false h0]at heq;have heq:=of_decide_eq_false heq;rw[if_neg (by simp[h0])];simp only[jo,nlt,heq,hsl]
  .rw [if_pos (Or.inl rfl)];simp only[jo,nlt]
 |cons c q=>
  obtain⟨k1,k2,k3⟩:=drop_at hk;have hlt:((a+w.length:Nat):Int)<((s.length:Nat):Int):=by omega
  have hc:=hr c q rfl;have e1:=Ja c;have e2:=Jb c;have e3:=Kn c;unfold jH kV at hc;rw[Bool.or_eq_false_iff,Bool.or_eq_false_iff,Bool.or_eq_false_iff,decide_eq_false_iff_not]at hc;obtain⟨⟨c1,c2⟩,c3,c4⟩:=hc;rw[c1]at e1;rw[c3]at e2;rw[c2]at e3;generalize ((a+w.length:Nat):Int)=z at *;cases f
  .by_cases h0:w=[]
   .rw [decide_eq_true h0]at heq;have heq:=of_decide_eq_true heq;rw[if_pos (Or.inr h0),<-heq];rw[<-heq]at hlt k3;simp only[jo,hlt,k3,e1,e2,e3,c4]
   .rw [decide_eq_false h0]at heq;have heq:=of_decide_eq_false heq;rw[if_neg (by simp[h0])];simp only[jo,hlt,k3,e1,e2,e3,c4,heq,hsl]
  .rw [if_pos (Or.inl rfl)];simp only[jo,hlt,k3,e1,e2,e3,c4]
def raC:Xb->Option (Xg×Xb)
 | []=>none
 |c::q=>if c=44 then ra q else if c=41 then some ([],q)else none
theorem juO(s:Xb):ra s=match rd s with
  |none=>none
  |some (u,d)=>(raC d).map λp=>(u::p.1,p.2):=by
 rw[jsc];cases rd s with
 |none=>rfl
 |some p=>
  obtain⟨u,d⟩:=p;cases d with
  |nil=>rfl
  |cons c q=>
   show(if c=44 then _ else _)=Option.map _ (if c=44 then _ else _);by_cases h:c=44
   .rw [if_pos h,if_pos h]
   .rw [if_neg h,if_neg h];by_cases h:c=41
    .rw [if_pos h,if_pos h];rfl
    .rw [if_neg h,if_neg h];rfl
theorem jqI{s t:Xb}{a:Nat}{f:Bool}(h:f=true\/t.isPrefixOf (s.drop a)=false)(ha:a<=s.length):jbE (sv t) (sv s) (vi (a:Nat)) (vb f)=some (.top,[sv s,vi (a:Nat),vb true]):=by
 have e1:=yv h ha;rw[jny];simp only[jo,e1,List.getElem?_cons_zero,List.getElem?_cons_succ]
theorem joB{s t q:Xb}{a:Nat}(h:s.drop a=t++q)(hs:s.length<=1048576)(ha:a<=s.length):jbE (sv t) (sv s) (vi (a:Nat)) (vb false)=some (.top,[sv s,vi ((a+t.length:Nat):Int),vb false]):=by
 have e1:=(qi h hs ha).1;rw[jny];simp only[jo,e1,List.getElem?_cons_zero,List.getElem?_cons_succ]
theorem jgf{c:UInt8}{d:Xb}(h:∀q,¬d=c::q): [c].isPrefixOf d=false:=by
 cases d with
 |nil=>rfl
 |cons b q=>
  have:¬c=b:=λe=>h q (by rw[e]);simp[List.isPrefixOf,this]
theorem ZB{s r:Xb}{k:Nat}(h:s.drop k=r)(hk:k<=s.length):r=[]↔k=s.length:=by
 have:=congrArg List.length h;rw[List.length_drop]at this;constructor
 .intro e;rw[e]at this;simp at this;omega
 .intro e;exact List.eq_nil_of_length_eq_zero (by omega)
theorem jjL{s:Xb}{a k:Nat}{t:T}{g:Bool}(hk:k<=s.length)(h:(∃r,rd (s.drop a)=some (t,r)/\g=false/\s.drop k=r)\/(rd (s.drop a)=none/\g=true)) :
  (rdE (s.drop a)=some t/\g=false/\k=s.length)\/(rdE (s.drop a)=none/\(g=true\/ ¬k=s.length)):=by
 unfold rdE;rcases h with⟨r,h1,h2,h3⟩|⟨h1,h2⟩
 .rw [h1];cases r with
  |nil=>exact Or.inl ⟨rfl,h2,(ZB h3 hk).1 rfl⟩
  |cons c q=>exact Or.inr ⟨rfl,Or.inr λe=>by have:=(ZB h3 hk).2 e;cases this⟩
 .rw [h1];exact Or.inr ⟨rfl,Or.inl h2⟩
theorem jtl{s:Xb}{t:T}(h:rdE s=some t):tsz t<=s.length:=by
 unfold rdE at h;split at h
 .rename_i u hu;cases h;have:=(Zl hu).2.1;omega
 .cases h
theorem jsM{a b:T}{n:Nat}(h:3+tsz a+tsz b<=n):tsz (eqT a b)<=n:=by
 show tsz (.mk [61] [a,b])<=n;rw[jar];simp only[List.length_cons,List.length_nil,ya];omega
theorem jja{s r p:Xb}{t u:T}(h:rd s=some (t,r))(hp:p.isPrefixOf r=true)(h3:3<=p.length)(hu:rdE (r.drop p.length)=some u):tsz (eqT t u)<=s.length:=by
 obtain⟨q,rfl⟩:=List.isPrefixOf_iff_prefix.1 hp;rw[List.drop_left]at hu;have k1:=jtl hu;have k2:=(Zl h).2.1;rw[List.length_append]at k2;exact jsM (by omega)
theorem jqD{s:Xb}{l:Lt}(h:jaf s=some l):tsz l.2<=s.length:=by
 unfold jaf at h;split at h
 .obtain ⟨t,h1,rfl⟩:=Option.map_eq_some_iff.1 h;show tsz t<=_;unfold jdX at h1;have hd:(s.drop 1).length<=s.length:=by rw[List.length_drop];omega
  split at h1
  .cases h1
  .rename_i u r hr;split at h1
   .rename_i hp;obtain⟨v,h2,rfl⟩:=Option.map_eq_some_iff.1 h1;have:=jja hr hp (by decide) h2;omega
   .split at h1
    .cases h1;have:=(Zl hr).2.1;omega
    .cases h1
 .split at h
  .cases h
  .rename_i u r hr;split at h
   .rename_i hp;obtain⟨v,h2,rfl⟩:=Option.map_eq_some_iff.1 h;exact jja hr hp (by decide) h2
   .split at h
    .rename_i hp;obtain⟨v,h2,rfl⟩:=Option.map_eq_some_iff.1 h;exact jja hr hp (by decide) h2
    .split at h
     .cases h;have:=(Zl hr).2.1;show tsz u<=_;omega
     .cases h
theorem jiX{t:T}(h:jO t=true):Bx t/\tsz t<=300:=by
 obtain⟨h1,h2⟩:=KW.1 h;unfold kB at h2;rw[Bool.and_eq_true,decide_eq_true_eq]at h2;exact⟨h1,JV h1 h2.1⟩
theorem jeO{s sep:Xb}(hs:s.length<=1048576)(h1:1<=sep.length):G 21 [sv s,sv sep]=some (.sl 1 ((Lib.split s sep).map cs),[]):=by
 have:K.ext 21=some jgt:=rfl;rw[jgJ this];show(if _ then _ else _)=_;rw[if_pos ⟨by show 1<=sep.length;exact h1,by show s.length<4294967281;omega⟩]
theorem jeP:∀(n:Nat)(s:Xb),s.length<=n->3*(Lib.split s ku).length<=s.length+3
 |n,s,hn=>by
  rcases Int.lt_or_le (Lib.index s ku) 0 with h|h
  .have:=Lib.index_ge s ku;rw[Jl (by omega)];simp only[List.length_cons,List.length_nil];omega
  .obtain ⟨i,hi⟩:∃i:Nat,Lib.index s ku=i:=⟨(Lib.index s ku).toNat,by omega⟩;obtain⟨x,y,e,el⟩:=qZ hi;have hl:s.length=i+3+y.length:=by rw[e,List.length_append,List.length_append,el];rfl
   have hd:(s.drop (i+3)).length=s.length-(i+3):=List.length_drop;rw[J7 hi];cases n with
   |zero=>omega
   |succ n=>
    have ih:=jeP n (s.drop (i+3)) (by omega);simp only[List.length_cons];omega
theorem jqC{s:Xb}{l:Lt}(h:Jq s=some l):tsz l.2<=300:=jfZ (by rw[<-jhN];exact h)
theorem jpo{s:Xb} :∀x∈Lib.split s ku,x.length<=s.length:=by
 have:∀(n:Nat)(s:Xb),s.length<=n-> ∀x∈Lib.split s ku,x.length<=s.length:=by
  intro n;induction n with
  |zero=>
   intro s hs x hx;rw[List.eq_nil_of_length_eq_zero (Nat.le_zero.1 hs)]at hx;rw[List.mem_singleton.1 (show x ∈ [[]] from hx)];exact Nat.zero_le _
  |succ n ih=>
   intro s hs x hx;rcases Int.lt_or_le (Lib.index s ku) 0 with h|h
   .have:=Lib.index_ge s ku;rw[Jl (by omega)]at hx;rw[List.mem_singleton.1 hx];exact Nat.le_refl _
   .obtain ⟨i,hi⟩:∃i:Nat,Lib.index s ku=i:=⟨(Lib.index s ku).toNat,by omega⟩;obtain⟨p,y,e,el⟩:=qZ hi;have hl:s.length=i+3+y.length:=by rw[e,List.length_append,List.length_append,el];rfl
    have hd:(s.drop (i+3)).length=s.length-(i+3):=List.length_drop;rw[J7 hi]at hx;rcases List.mem_cons.1 hx with hx|hx
    .rw [hx,List.length_take];omega
    .have:=ih _ (by omega) x hx;omega
 exact this s.length s (Nat.le_refl _)
theorem kE(s:Xb):j6 (sv s)=true:=rfl
theorem kI(b:Bool):j6 (vb b)=true:=rfl
theorem jd7(n:Int):j6 (vi n)=true:=rfl
theorem jhz(k:Nat)(xs:Xc):jaP (.sl k xs)=true:=rfl
theorem joW(n:Int):YH (.sl 1 [[vy n]])=some (sv [UInt8.ofNat n.toNat]):=rfl
theorem jjD(x:Int):jw .rem false (vi x) (vi 10)=some (vi (x.tmod 10)):=rfl
theorem jeq(x:Int):jw .rem false (vi x) (vi 3)=some (vi (x.tmod 3)):=rfl
theorem jjC(x:Int):jw .quo false (vi x) (vi 10)=ck (x.tdiv 10):=rfl
theorem jqT(k:IntKind)(a:Int):jcN .u8 (.val (.int k a))=some (vy (IntKind.u8.wrap a)):=rfl
theorem jta(n:Int):kj (vy n)=true:=rfl
theorem jdK:∀(k:Nat)(out:Xb),out.length+k<=1000000000-> ∃s,jfe (vi (k:Nat)) (sv out)=some (sv s,[]):=by
 intro k;induction k using Nat.strongRecOn with
 |ind k ih=>
  intro out hl;by_cases hk:(0:Int)<(k:Nat)
  .have h1:((k:Nat):Int).tdiv 10=((k / 10:Nat):Int):=by rw[Int.tdiv_eq_ediv_of_nonneg (by omega)];rfl
   have h2:((k:Nat):Int).tmod 10=((k % 10:Nat):Int):=by rw[Int.tmod_eq_emod_of_nonneg (by omega)];rfl
   have c1:ck ((k / 10:Nat):Int)=some (vi ((k / 10:Nat):Int)):=zo (by omega) (by omega);have c2:ck (48+((k % 10:Nat):Int))=some (vi (48+((k % 10:Nat):Int))):=zo (by omega) (by omega);generalize hc:UInt8.ofNat (IntKind.u8.wrap (48+((k % 10:Nat):Int))).toNat=c;have e1:jw .add false (sv [c]) (sv out)=some (sv ([c]++out)):=by rw[ZL,if_pos (by simp;omega)]
   obtain⟨s,hs⟩:=ih (k / 10) (by omega) ([c]++out) (by simp;omega)
   refine⟨s,?_⟩;rw[jog];simp only[jo,hk,jjD,h2,c2,jqT,jta,joW,hc,e1,jjC,h1,c1,hs]
  .have e1:jw .add false (sv [109]) (sv out)=some (sv ([109]++out)):=by rw[ZL,if_pos (by simp;omega)]
   refine⟨[109]++out,?_⟩;rw[jog];simp only[jo,hk,e1]
theorem jaY(k:Nat)(h:k<=1000000000):∃s,G 111 [vi (k:Nat)]=some (sv s,[]):=by
 rw[jwd];by_cases hk:((k:Nat):Int)<=0
 .exact ⟨[109,48],by simp only[jo,hk]⟩
 .obtain ⟨s,hs⟩:=jdK k [] (by simpa using h);exact⟨s,by simp only[jo,hk,hs]⟩
mutual
def mkN:T->Nat
 |.mk _ us=>1+JL us
def JL:Xg->Nat
 | []=>0
 |t::ts=>mkN t+JL ts
end
theorem jjw(t:T):mkN t=1+JL t.args:=by cases t;simp[mkN,T.args]
mutual
theorem jqG:∀t:T,mkN t<=1+tsz t
 |.mk n us=>by
  have:=jf5 us;simp only[mkN,tsz];omega
theorem jf5:∀ts:Xg,JL ts<=ts.length+ya ts
 | []=>by simp[JL]
 |t::ts=>by
  have h1:=jqG t;have h2:=jf5 ts;simp only[JL,ya,List.length_cons];omega
end
def HL:Nat->Xg->Nat->Prop
 |k,[],k'=>k'=k
 |k,u::us,k'=>∃k1:Nat,G 111 [vi (k:Nat)]=some (sv u.name,[])/\G 113 [zh u.args,vi ((k+1:Nat):Int)]=some (vi (k1:Nat),[])/\k<k1/\HL k1 us k'
theorem jnd:∀(r:Xg)(k k':Nat),HL k r k'->k<=k'
 | [],k,k',h=>by have h:k'=k:=h;omega
 |u::r,k,k',⟨k1,_,_,g3,g4⟩=>by have:=jnd r k1 k' g4;omega
theorem jd4:∀(r:Xg)(M:Xg)(k k':Nat),k'<=100000000->M.length+r.length<=9223372036854775807->k<=k'->HL k r k'->jff (zh (M++r)) (vi (k:Nat)) (vi (M.length:Nat))=some (vi (k':Nat),[])
 | [],M,k,k',_,_,_,h=>by
  have h:k'=k:=h;subst h;rw[joh,List.append_nil];simp only[jo]
 |u::r,M,k,k',hk,hl,hkk,⟨k1,g1,g2,g3,g4⟩=>by
  have h1:((M.length:Nat):Int)<(((M++u::r).length:Nat):Int):=jjv M r u;have h2:ji 2 (zh (M++u::r)) (vi (M.length:Nat))=some (.elt (jl u) 0):=jcE (f:=jl) (k:=2) M r u;have hle:k1<=k':=jnd r k1 k' g4;have e1:=jx (i:=k) (n:=k+1) (by omega) (by omega);have h5:=jx (i:=M.length) (n:=(M++u::r).length) (by simp) (by simp;simp at hl;omega);have ih:=jd4 r (M++[u]) k1 k' hk (by simp at hl⊢;omega) hle g4;have q:(M++[u]).length=M.length+1:=by simp
  rw[q,List.append_assoc,List.singleton_append]at ih;have ad:Z6 (.elt (jl u) 0) 1=some (.elt (jl u) 1):=by rw[Je]
  have ad0:Z6 (.elt (jl u) 0) 0=some (.elt (jl u) 0):=by rw[Je]
  have lp:zI (.elt (jl u) 1)=some (zh u.args):=by rw[j7];rfl
  have lp0:zI (.elt (jl u) 0)=some (sv u.name):=by rw[j7];rfl
  have nk:¬((k1:Nat):Int)<0:=by omega
  rw[joh];simp only[jo,h1,h2,ad,ad0,lp,lp0,g1,e1,g2,nk,h5,ih]
theorem jqp(us:Xg)(k k':Nat)(hk:k'<=100000000)(hl:us.length<=9223372036854775807)(h:HL k us k'):G 113 [zh us,vi (k:Nat)]=some (vi (k':Nat),[]):=by
 have:=jd4 us [] k k' hk (by simpa using hl) (jnd us k k' h) h;rw[jwe];exact this
theorem Yk:∀(r:Xg)(M:Xc)(k:Nat),k+JL r<=100000000->M.length+r.length<=9223372036854775807->
  (∀t∈r,∀k:Nat,k+JL t.args<=100000000-> ∃us:Xg,QU (vi (k:Nat)) (t.args.map jl)=some (.top,[vi ((k+JL t.args:Nat):Int),.sl 66 (us.map jl)])/\G 113 [zh us,vi (k:Nat)]=some (vi ((k+JL t.args:Nat):Int),[]))->
  ∃us:Xg,us.length=r.length/\HL k us (k+JL r)/\YX (vi (k:Nat)) (vi (M.length:Nat)) (M++r.map jl)=some (.top,[vi ((k+JL r:Nat):Int),.sl 66 (M++us.map jl)])
 | [],M,k,hk,hl,_=>by
  refine⟨[],rfl,rfl,?_⟩;rw[jhI,List.map_nil,List.append_nil];simp only[jo,JL,Nat.add_zero]
 |t::r,M,k,hk,hl,ht=>by
  simp only[JL,jjw,List.length_cons]at hk hl;have h1:((M.length:Nat):Int)<(((M++jl t::r.map jl).length:Nat):Int):=by simp;omega
  have h2:=jam M (r.map jl) (jl t);have h3:=ZQ M (r.map jl) (jl t);obtain⟨s,e0⟩:=jaY k (by omega);have h4:=ZR M (r.map jl) (jl t) [sv s,zh t.args];have h5:=jam M (r.map jl) [sv s,zh t.args];have h6:=ZQ M (r.map jl) [sv s,zh t.args];have e1:=jx (i:=k) (n:=k+1) (by omega) (by omega);have e2:=jx (i:=M.length) (n:=M.length+1) (by omega) (by omega);obtain⟨vs,e3,e4⟩:=ht t (by simp) (k+1) (by omega);have h7:=ZR M (r.map jl) [sv s,zh t.args] [sv s,zh vs];obtain⟨us,l1,l2,ih⟩:=Yk r (M++[[sv s,zh vs]]) (k+1+JL t.args) (by omega) (by simp;omega) λu hu=>ht u (by simp[hu]);have q:(M++[[sv s,zh vs]]).length=M.length+1:=by simp
  have q2:M++[[sv s,zh vs]]++r.map jl=M++[sv s,zh vs]::r.map jl:=by simp
  have q3:M++[[sv s,zh vs]]++us.map jl=M++(T.mk s vs::us).map jl:=by rw[List.map_cons,j7 (.mk s vs),List.append_assoc];rfl
  have e4:G 113 [zh vs,vi ((k+1:Nat):Int)]=some (vi ((k+1+JL t.args:Nat):Int),[]):=e4;have hHL:HL k (T.mk s vs::us) (k+(1+JL t.args+JL r)):=⟨k+1+JL t.args,e0,e4,by omega,by rw[show k+(1+JL t.args+JL r)=k+1+JL t.args+JL r by omega];exact l2⟩;rw[q,q2,q3,show k+1+JL t.args+JL r=k+(1+JL t.args+JL r) by omega]at ih;have o1:kS (jl t) 0 [sv s]=[sv s,zh t.args]:=by rw[j7];rfl
  have o2:kS [sv s,zh t.args] 1 [zh vs]=[sv s,zh vs]:=rfl;have tv:QP (jl t) 0 1=true:=by rw[j7];rfl
  refine⟨T.mk s vs::us,by simp[l1],by rw[JL,jjw];exact hHL,?_⟩
  rw[jhI,List.map_cons,JL,jjw];simp only[jo,h1,e0,h2,h3,kE,tv,o1,h4,h5,h6,jhz,e1,e3,List.getElem?_cons_zero,o2,h7,e2,ih]
theorem jox(t:T):twf t-> ∀k:Nat,k+JL t.args<=100000000-> ∃us:Xg,QU (vi (k:Nat)) (t.args.map jl)=some (.top,[vi ((k+JL t.args:Nat):Int),.sl 66 (us.map jl)])/\G 113 [zh us,vi (k:Nat)]=some (vi ((k+JL t.args:Nat):Int),[]):=by
 refine T.ind (p:=λt=>twf t-> ∀k:Nat,k+JL t.args<=100000000-> ∃us:Xg,QU (vi (k:Nat)) (t.args.map jl)=some (.top,[vi ((k+JL t.args:Nat):Int),.sl 66 (us.map jl)])/\G 113 [zh us,vi (k:Nat)]=some (vi ((k+JL t.args:Nat):Int),[])) ?_ t;intro t ih hw k hk;obtain⟨_,w2,w3⟩:=(yi t).1 hw;have w3:=(zy _).1 w3;obtain⟨us,l1,l2,h⟩:=Yk t.args [] k hk (by simpa using w2) λu hu=>ih u hu (w3 u hu);refine⟨us,?_,jqp us k _ hk (by rw[l1];exact w2) l2⟩;rw[jsA];exact h
theorem jrF(a b c:A)(k:Nat)(r:Xc):hR k (A.top,[a,b,c,.sl k r]) 3=some r:=by simp[hR]
theorem Jw(a b c d:A)(k:Nat)(r:Xc):hR k (A.top,[a,b,c,d,.sl k r]) 4=some r:=by simp[hR]
theorem yE(a b c d e:A)(k:Nat)(r:Xc):hR k (A.top,[a,b,c,d,e,.sl k r]) 5=some r:=by simp[hR]
def PtY(s:Xb)(a:Nat):Prop:=∀f:Bool,∃(t:T)(k:Nat)(g:Bool),YW (sv s) (vi (a:Nat)) (vb f)=some (.top,[sv s,vi (k:Nat),vb g,sv t.name,.sl 66 (t.args.map jl)])/\a<=k/\k<=s.length/\(f=true->g=true)/\
 (f=false->(∃r,rd (s.drop a)=some (t,r)/\g=false/\s.drop k=r)\/(rd (s.drop a)=none/\g=true))
def LpY(s:Xb)(a:Nat):Prop:=∀(f:Bool)(w:Xb)(us:Xg),us.length<=a-> ∃(t:T)(k:Nat)(g:Bool),YY (sv s) (vi (a:Nat)) (vb f) (sv []) (sv w) [] (us.map jl)=some (.top,[sv s,vi (k:Nat),vb g,sv t.name,.sl 66 (t.args.map jl)])/\a<=k/\k<=s.length/\(f=true->g=true)/\
 (f=false->(∃vs r,raC (s.drop a)=some (vs,r)/\t = .mk w (us++vs)/\g=false/\s.drop k=r)\/(raC (s.drop a)=none/\g=true))
theorem jsY(w:Xb)(x0 x1 x2:A)(R:Xc):jfq x0 x1 x2 (sv []) (sv w) R []=YY x0 x1 x2 (sv []) (sv w) [] R:=by
 rw[jqA,jbt]
theorem jhS{s:Xb}(hs:s.length<=1048576){a:Nat}(ha:a<=s.length)(ih1:∀k,a<k->k<=s.length->PtY s k)(ih2:∀k,a<k->k<=s.length->LpY s k):LpY s a:=by
 intro f w us hu;by_cases hy:f=false/\ ∃q,s.drop a=44::q
 .obtain ⟨rfl,q,hq⟩:=hy;obtain⟨t1,t2,t3⟩:=qi (t:=[44]) hq hs ha;have t1:qv (sv [44]) (sv s) (vi (a:Nat)) (vb false)=some (.top,[sv s,vi ((a+1:Nat):Int),vb false,vb true]):=t1;have t2:a+1<=s.length:=t2;have t3:s.drop (a+1)=q:=t3;obtain⟨t,k,g,p1,p2,p3,_,p5⟩:=ih1 (a+1) (by omega) t2 false;obtain⟨t',k',g',m1,m2,m3,m4,m5⟩:=ih2 k (by omega) p3 g w (us++[t]) (by rw[List.length_append,List.length_singleton];omega);have hf:zq ((us.map jl).length+1) 40=true:=juH (by rw[List.length_map];omega);rw[<-jrw us t]at m1;refine⟨t',k',g',?_,by omega,m3,(λh=>by cases h),λ_=>?_⟩
  .rw [<-m1,jbt];generalize us.map jl=R at *;simp only[jo,t1,p1,hf,List.getElem?_cons_zero,List.getElem?_cons_succ,Jw,yE,kE,kI]
  .have hc:raC (s.drop a)=ra q:=by rw[hq];unfold raC;simp only;rw[if_pos trivial]
   rw[hc,juO];rw[t3]at p5;rcases p5 rfl with⟨r,h1,h2,h3⟩|⟨h1,h2⟩
   .rw [h1];rcases m5 h2 with⟨vs,r',j1,j2,j3,j4⟩|⟨j1,j2⟩
    .rw [h3]at j1;exact Or.inl ⟨t::vs,r',by simp only;rw[j1];rfl,by rw[j2,List.append_assoc];rfl,j3,j4⟩
    .rw [h3]at j1;exact Or.inr ⟨by simp only;rw[j1];rfl,j2⟩
   .rw [h1];exact Or.inr ⟨rfl,m4 h2⟩
 .have e0:f=true\/ [44].isPrefixOf (s.drop a)=false:=by
   cases f with
   |true=>exact Or.inl rfl
   |false=>exact Or.inr (jgf λq h=>hy ⟨rfl,q,h⟩)
  have t1:=yv (t:=[44]) e0 ha;by_cases hz:f=false/\ ∃q,s.drop a=41::q
  .obtain ⟨rfl,q,hq⟩:=hz;have m1:=joB (t:=[41]) hq hs ha;obtain⟨_,t2,t3⟩:=qi (t:=[41]) hq hs ha;have m1:jbE (sv [41]) (sv s) (vi (a:Nat)) (vb false)=some (.top,[sv s,vi ((a+1:Nat):Int),vb false]):=m1;refine⟨.mk w us,a+1,false,?_,by omega,t2,(λh=>by cases h),λ_=>Or.inl ⟨[],q,?_,by rw[List.append_nil],rfl,t3⟩⟩
   .show _=some (A.top,[sv s,vi ((a+1:Nat):Int),vb false,sv w,.sl 66 (us.map jl)]);rw[jbt];generalize us.map jl=R at *;simp only[jo,t1,m1,List.getElem?_cons_zero,List.getElem?_cons_succ,Jw,yE,kE,kI]
   .rw [hq];rfl
  .have e1:f=true\/ [41].isPrefixOf (s.drop a)=false:=by
    cases f with
    |true=>exact Or.inl rfl
    |false=>exact Or.inr (jgf λq h=>hz ⟨rfl,q,h⟩)
   have m1:=jqI (t:=[41]) e1 ha;refine⟨.mk w us,a,true,?_,Nat.le_refl _,ha,λ_=>rfl,λhf=>Or.inr ⟨?_,rfl⟩⟩
   .show _=some (A.top,[sv s,vi (a:Nat),vb true,sv w,.sl 66 (us.map jl)]);rw[jbt];generalize us.map jl=R at *;simp only[jo,t1,m1,List.getElem?_cons_zero,List.getElem?_cons_succ,Jw,yE,kE,kI]
   .cases hd:s.drop a with
    |nil=>rfl
    |cons c q=>
     show(if c=44 then _ else _)=_;rw[if_neg (λe=>hy ⟨hf,q,by rw[hd,e]⟩),if_neg (λe=>hz ⟨hf,q,by rw[hd,e]⟩)]
theorem jia{s:Xb}(hs:s.length<=1048576){a:Nat}(ha:a<=s.length)(ih1:∀k,a<k->k<=s.length->PtY s k)(ih2:∀k,a<k->k<=s.length->LpY s k):PtY s a:=by
 intro f;have e:=Zt (s.drop a);have hw:∀c∈(s.drop a).takeWhile jH,jH c=true:=λc hc=>List.all_eq_true.1 List.all_takeWhile c hc;have hr:∀c q,(s.drop a).dropWhile jH=c::q->jH c=false:=λc q h=>by
  have:=List.head?_dropWhile_not (p:=jH) (l:=s.drop a);rw[h]at this;simpa using this
 have hrd:=jse (s.drop a);generalize (s.drop a).takeWhile jH=w at *;generalize (s.drop a).dropWhile jH=r at *;have hl:s.length=a+(w.length+r.length):=by
  have:=congrArg List.length e;rw[List.length_append,List.length_drop]at this;omega
 have hk:s.drop (a+w.length)=r:=by rw[<-List.drop_drop,<-e,List.drop_left]
 have hw1:=jrr hs ha f w r e hw hr;have hkl:a+w.length<=s.length:=by omega
 by_cases h0:f=true\/w=[]
 .rw [if_pos h0]at hw1;have hb:(f || decide (w=[]))=true:=by rcases h0 with h|h<;>simp[h]
  rw[hb]at hw1;have t1:=yv (s:=s) (t:=[40]) (a:=a+w.length) (f:=true) (Or.inl rfl) hkl;refine⟨.mk [] [],a+w.length,true,?_,by omega,hkl,λ_=>rfl,λhf=>Or.inr ⟨?_,rfl⟩⟩
  .show _=some (A.top,[sv s,vi ((a+w.length:Nat):Int),vb true,sv [],.sl 66 []]);rw[jnA];simp only[jo,hw1,t1,List.getElem?_cons_zero,List.getElem?_cons_succ,Jw,yE,kE,kI]
  .rw [hrd,if_pos];rcases h0 with h|h
   .rw [hf]at h;cases h
   .exact h
 .have hf:f=false:=by cases f with|false=>rfl|true=>exact absurd (Or.inl rfl) h0
  have hw0:¬w=[]:=λh=>h0 (Or.inr h);subst hf;have hwl:0<w.length:=by cases w with|nil=>exact absurd rfl hw0|cons=>simp
  rw[if_neg h0,decide_eq_false hw0]at hw1;have hw1:jfd (sv s) (vi (a:Nat)) (vb false)=some (.top,[sv s,vi ((a+w.length:Nat):Int),vb false,sv w]):=hw1;rw[if_neg hw0]at hrd;by_cases hy:∃q,r=40::q
  .obtain ⟨q,rfl⟩:=hy;obtain⟨t1,t2,t3⟩:=qi (t:=[40]) hk hs hkl;have t1:qv (sv [40]) (sv s) (vi ((a+w.length:Nat):Int)) (vb false)=some (.top,[sv s,vi ((a+w.length+1:Nat):Int),vb false,vb true]):=t1;have t2:a+w.length+1<=s.length:=t2;have t3:s.drop (a+w.length+1)=q:=t3;obtain⟨t,k,g,p1,p2,p3,_,p5⟩:=ih1 (a+w.length+1) (by omega) t2 false;obtain⟨t',k',g',m1,m2,m3,m4,m5⟩:=ih2 k (by omega) p3 g w [t] (by simp;omega);have m1:YY (sv s) (vi (k:Nat)) (vb g) (sv []) (sv w) [] [jl t]=_:=m1;rw[j7,<-jsY]at m1;refine⟨t',k',g',?_,by omega,m3,(λh=>by cases h),λ_=>?_⟩
   .rw [<-m1,jnA];simp only[jo,hw1,t1,p1,List.getElem?_cons_zero,List.getElem?_cons_succ,Jw,yE,kE,kI]
   .have hrd:rd (s.drop a)=(ra q).map λp=>(T.mk w p.1,p.2):=hrd;rw[hrd,juO];rw[t3]at p5;rcases p5 rfl with⟨r,h1,h2,h3⟩|⟨h1,h2⟩
    .rw [h1];rcases m5 h2 with⟨vs,r',j1,j2,j3,j4⟩|⟨j1,j2⟩
     .rw [h3]at j1;exact Or.inl ⟨r',by simp only;rw[j1,j2];rfl,j3,j4⟩
     .rw [h3]at j1;exact Or.inr ⟨by simp only;rw[j1];rfl,j2⟩
    .rw [h1];exact Or.inr ⟨rfl,m4 h2⟩
  .have t1:=yv (s:=s) (t:=[40]) (a:=a+w.length) (f:=false) (Or.inr (by rw[hk];exact jgf λq h=>hy ⟨q,h⟩)) hkl
   refine⟨.mk w [],a+w.length,false,?_,by omega,hkl,(λh=>by cases h),λ_=>Or.inl ⟨r,?_,rfl,hk⟩⟩
   .show _=some (A.top,[sv s,vi ((a+w.length:Nat):Int),vb false,sv w,.sl 66 []]);rw[jnA];simp only[jo,hw1,t1,List.getElem?_cons_zero,List.getElem?_cons_succ,Jw,yE,kE,kI]
   .rw [hrd];cases r with
    |nil=>rfl
    |cons c q=>
     show(if c=40 then _ else _)=_;rw[if_neg λh=>hy ⟨q,by rw[h]⟩]
theorem jgg{s:Xb}(hs:s.length<=1048576):∀(n a:Nat),a<=s.length->s.length-a<=n->PtY s a/\LpY s a
 |0,a,h1,h2=>⟨jia hs h1 (λk h3 h4=>by omega) (λk h3 h4=>by omega),jhS hs h1 (λk h3 h4=>by omega) (λk h3 h4=>by omega)⟩
 |n+1,a,h1,h2=>by
  have i1:∀k,a<k->k<=s.length->PtY s k:=λk h3 h4=>(jgg hs n k h4 (by omega)).1;have i2:∀k,a<k->k<=s.length->LpY s k:=λk h3 h4=>(jgg hs n k h4 (by omega)).2;exact⟨jia hs h1 i1 i2,jhS hs h1 i1 i2⟩
theorem jiH{s:Xb}(hs:s.length<=1048576){a:Nat}(ha:a<=s.length):PtY s a:=(jgg hs _ a ha (Nat.le_refl _)).1
theorem jme{s:Xb}(hs:s.length<=1048576){a:Nat}(ha:a<=s.length):∃(t:T)(k:Nat)(g:Bool),jnb (sv s) (vi (a:Nat)) (vb false)=some (.top,[sv s,vi (k:Nat),vb g,sv t.name,.sl 66 (t.args.map jl)])/\k<=s.length/\
  ((jdX (s.drop a)=some t/\g=false/\k=s.length)\/(jdX (s.drop a)=none/\(g=true\/ ¬k=s.length))):=by
 obtain⟨t,k,g,p1,p2,p3,_,p5⟩:=jiH hs ha false;unfold jdX;rcases p5 rfl with⟨r,h1,rfl,h3⟩|⟨h1,rfl⟩
 .rw [h1];simp only;by_cases hy: [32,61,32].isPrefixOf r=true
  .obtain ⟨q,rfl⟩:=List.isPrefixOf_iff_prefix.1 hy;obtain⟨t1,t2,t3⟩:=qi (t:=[32,61,32]) h3 hs p3;have t1:qv (sv [32,61,32]) (sv s) (vi (k:Nat)) (vb false)=some (.top,[sv s,vi ((k+3:Nat):Int),vb false,vb true]):=t1;have t2:k+3<=s.length:=t2;have t3:s.drop (k+3)=q:=t3;obtain⟨u,k',g',m1,m2,m3,_,m5⟩:=jiH hs t2 false;have m6:=jjL m3 (m5 rfl);rw[if_pos hy];show ∃(t:T)(k:Nat)(g:Bool),_/\_/\(((rdE q).map _=_/\_)\/((rdE q).map _=_/\_));rw[t3]at m6;refine⟨eqT t u,k',g',?_,m3,?_⟩
   .show _=some (A.top,[sv s,vi (k':Nat),vb g',sv [61],.sl 66 [jl t,jl u]]);rw[j7 t,j7 u,jnz];simp only[jo,p1,t1,m1,List.getElem?_cons_zero,List.getElem?_cons_succ,Jw,yE,kE,kI]
   .rcases m6 with⟨j1,j2,j3⟩|⟨j1,j2⟩
    .exact Or.inl ⟨by rw[j1];rfl,j2,j3⟩
    .exact Or.inr ⟨by rw[j1];rfl,j2⟩
  .have hn: [32,61,32].isPrefixOf r=false:=Bool.eq_false_iff.2 hy;have t1:=yv (s:=s) (t:=[32,61,32]) (a:=k) (f:=false) (Or.inr (by rw[h3];exact hn)) p3;rw[if_neg hy];refine⟨t,k,false,?_,p3,?_⟩
   .rw [jnz];simp only[jo,p1,t1,List.getElem?_cons_zero,List.getElem?_cons_succ,Jw,yE,kE,kI]
   .by_cases h0:r=[]
    .rw [if_pos h0];exact Or.inl ⟨rfl,rfl,(ZB h3 p3).1 h0⟩
    .rw [if_neg h0];exact Or.inr ⟨rfl,Or.inr λe=>h0 ((ZB h3 p3).2 e)⟩
 .rw [h1];have t1:=yv (s:=s) (t:=[32,61,32]) (a:=k) (f:=true) (Or.inl rfl) p3;refine⟨t,k,true,?_,p3,Or.inr ⟨rfl,Or.inl rfl⟩⟩;rw[jnz];simp only[jo,p1,t1,List.getElem?_cons_zero,List.getElem?_cons_succ,Jw,yE,kE,kI]
theorem jhO{s:Xb}(hs:s.length<=1048576):∃(l:Lt)(k:Nat)(g:Bool),jm8 (sv s) (vi 0) (vb false)=some (.top,[sv s,vi (k:Nat),vb g,vb l.1,sv l.2.name,.sl 66 (l.2.args.map jl)])/\k<=s.length/\
  ((jaf s=some l/\g=false/\k=s.length)\/(jaf s=none/\(g=true\/ ¬k=s.length))):=by
 have z0:((0:Nat):Int)=0:=rfl;unfold jaf;by_cases hy: [126].isPrefixOf s=true
 .obtain ⟨q,hq⟩:=List.isPrefixOf_iff_prefix.1 hy;obtain⟨t1,t2,t3⟩:=qi (t:=[126]) (s:=s) (a:=0) (q:=q) (by rw[List.drop_zero,hq]) hs (Nat.zero_le _);have t1:qv (sv [126]) (sv s) (vi 0) (vb false)=some (.top,[sv s,vi ((1:Nat):Int),vb false,vb true]):=t1;have t2:1<=s.length:=by have:0+1<=s.length:=t2;omega
  obtain⟨t,k,g,p1,p2,p3⟩:=jme hs t2;rw[if_pos hy];refine⟨(false,t),k,g,?_,p2,?_⟩
  .show _=some (A.top,[sv s,vi (k:Nat),vb g,vb false,sv t.name,.sl 66 (t.args.map jl)]);rw[jg0];simp only[jo,t1,p1,List.getElem?_cons_zero,List.getElem?_cons_succ,Jw,yE,kE,kI]
  .rcases p3 with⟨j1,j2,j3⟩|⟨j1,j2⟩
   .exact Or.inl ⟨by rw[j1];rfl,j2,j3⟩
   .exact Or.inr ⟨by rw[j1];rfl,j2⟩
 .have hn: [126].isPrefixOf s=false:=Bool.eq_false_iff.2 hy;have t0:=yv (s:=s) (t:=[126]) (a:=0) (f:=false) (Or.inr (by rw[List.drop_zero];exact hn)) (Nat.zero_le _);rw[z0]at t0;obtain⟨t,k,g,p1,_,p3,_,p5⟩:=jiH hs (Nat.zero_le _) false;rw[z0]at p1;rw[List.drop_zero]at p5;rw[if_neg hy];rcases p5 rfl with⟨r,h1,rfl,h3⟩|⟨h1,rfl⟩
  .rw [h1];simp only;by_cases hy1: [32,33,61,32].isPrefixOf r=true
   .obtain ⟨q,rfl⟩:=List.isPrefixOf_iff_prefix.1 hy1;obtain⟨t1,t2,t3⟩:=qi (t:=[32,33,61,32]) h3 hs p3;have t1:qv (sv [32,33,61,32]) (sv s) (vi (k:Nat)) (vb false)=some (.top,[sv s,vi ((k+4:Nat):Int),vb false,vb true]):=t1;have t2:k+4<=s.length:=t2;have t3:s.drop (k+4)=q:=t3;obtain⟨u,k',g',m1,m2,m3,_,m5⟩:=jiH hs t2 false;have m6:=jjL m3 (m5 rfl);rw[if_pos hy1];rw[t3]at m6;refine⟨(false,eqT t u),k',g',?_,m3,?_⟩
    .show _=some (A.top,[sv s,vi (k':Nat),vb g',vb false,sv [61],.sl 66 [jl t,jl u]]);rw[j7 t,j7 u,jg0];simp only[jo,t0,p1,t1,m1,List.getElem?_cons_zero,List.getElem?_cons_succ,Jw,yE,kE,kI]
    .show ((rdE q).map _=_/\_)\/((rdE q).map _=_/\_);rcases m6 with⟨j1,j2,j3⟩|⟨j1,j2⟩
     .exact Or.inl ⟨by rw[j1];rfl,j2,j3⟩
     .exact Or.inr ⟨by rw[j1];rfl,j2⟩
   .have hn1: [32,33,61,32].isPrefixOf r=false:=Bool.eq_false_iff.2 hy1;have t1:=yv (s:=s) (t:=[32,33,61,32]) (a:=k) (f:=false) (Or.inr (by rw[h3];exact hn1)) p3;rw[if_neg hy1];by_cases hy2: [32,61,32].isPrefixOf r=true
    .obtain ⟨q,rfl⟩:=List.isPrefixOf_iff_prefix.1 hy2;obtain⟨t4,t2,t3⟩:=qi (t:=[32,61,32]) h3 hs p3;have t4:qv (sv [32,61,32]) (sv s) (vi (k:Nat)) (vb false)=some (.top,[sv s,vi ((k+3:Nat):Int),vb false,vb true]):=t4;have t2:k+3<=s.length:=t2;have t3:s.drop (k+3)=q:=t3;obtain⟨u,k',g',m1,m2,m3,_,m5⟩:=jiH hs t2 false;have m6:=jjL m3 (m5 rfl);rw[if_pos hy2];rw[t3]at m6;refine⟨(true,eqT t u),k',g',?_,m3,?_⟩
     .show _=some (A.top,[sv s,vi (k':Nat),vb g',vb true,sv [61],.sl 66 [jl t,jl u]]);rw[j7 t,j7 u,jg0];simp only[jo,t0,p1,t1,t4,m1,List.getElem?_cons_zero,List.getElem?_cons_succ,Jw,yE,kE,kI]
     .show ((rdE q).map _=_/\_)\/((rdE q).map _=_/\_);rcases m6 with⟨j1,j2,j3⟩|⟨j1,j2⟩
      .exact Or.inl ⟨by rw[j1];rfl,j2,j3⟩
      .exact Or.inr ⟨by rw[j1];rfl,j2⟩
    .have hn2: [32,61,32].isPrefixOf r=false:=Bool.eq_false_iff.2 hy2;have t4:=yv (s:=s) (t:=[32,61,32]) (a:=k) (f:=false) (Or.inr (by rw[h3];exact hn2)) p3;rw[if_neg hy2];refine⟨(true,t),k,false,?_,p3,?_⟩
     .show _=some (A.top,[sv s,vi (k:Nat),vb false,vb true,sv t.name,.sl 66 (t.args.map jl)]);rw[jg0];simp only[jo,t0,p1,t1,t4,List.getElem?_cons_zero,List.getElem?_cons_succ,Jw,yE,kE,kI]
     .by_cases h0:r=[]
      .rw [if_pos h0];exact Or.inl ⟨rfl,rfl,(ZB h3 p3).1 h0⟩
      .rw [if_neg h0];exact Or.inr ⟨rfl,Or.inr λe=>h0 ((ZB h3 p3).2 e)⟩
  .rw [h1];have t1:=yv (s:=s) (t:=[32,33,61,32]) (a:=k) (f:=true) (Or.inl rfl) p3;have t4:=yv (s:=s) (t:=[32,61,32]) (a:=k) (f:=true) (Or.inl rfl) p3;refine⟨(true,t),k,true,?_,p3,Or.inr ⟨rfl,Or.inl rfl⟩⟩;show _=some (A.top,[sv s,vi (k:Nat),vb true,vb true,sv t.name,.sl 66 (t.args.map jl)]);rw[jg0];simp only[jo,t0,p1,t1,t4,List.getElem?_cons_zero,List.getElem?_cons_succ,Jw,yE,kE,kI]
end Go.Proofs.YteoaojbmnibpcaaGreatDoor
